import Derived.Below
import Derived.Deep.Draws
import Derived.Deep.AppendLies
import Derived.Maps.AppendAt
import Derived.OwnWalk
import Derived.Laws.BytesArg
import Derived.Laws.MakeOwn
import Derived.Laws.OwnMore
import Derived.Deep.OwnRows
import Derived.Tactics
import Derived.Lib.ConvBytes
import Derived.Laws.Slices
import Derived.WalkKit
import Derived.KernelRfl
import Derived.RowKit3
import Derived.Deep.LoopGhost
import Derived.Deep.QuietTactic
import Derived.BigQuiet
import Derived.WideLaws
import Derived.Deep.DeepCutAuto
import Derived.Deep.CutBlock
import Derived.Deep.RegionHeld3
import Derived.Laws.Rows
import Derived.Lib.AppendStr
import Derived.ArgAppend
import Derived.Laws.IdiomCopy
import Derived.RowKit
import Derived.OrdersHeld
import Derived.Laws.BitsLemmas
import Derived.Laws.StructEq
import Derived.RangeFuncNested
import Derived.RangeFuncBound
import Derived.RangeFuncCalls
import Derived.RangeFuncLeaves
import Derived.RangeFuncBox
import Derived.Deep.Quiet
import Derived.StillTail
import Derived.OrdersIn
import Derived.Scope
import Derived.TacticsInMore
import Derived.Test.YtgdmjpehofdnpaaGreatProg
import Derived.Shelf.Abstract
import Derived.Shelf.RegionOpen
import Derived.OwnWalkIn
import Derived.LoopNIn
import Derived.LoopIn
import Derived.Lib.Hide
import Derived.Maps.OwnIn
import Derived.Lib.SlKeysI
set_option linter.unusedVariables false
set_option linter.unusedSimpArgs false
set_option maxRecDepth 100000
set_option maxHeartbeats 8000000
namespace Go.Proofs
abbrev Yt : Bool := true
abbrev Nf : Bool := false
def Ymk (n m : Nat) : Array Bool := ((List.range n).map fun i => m.testBit i).toArray
theorem Y1 {α : Type _} (l : List α) (i : Nat) (v : α) : l.toArray.setIfInBounds i v = (l.set i v).toArray := List.setIfInBounds_toArray _ _ _
theorem Y2 {α : Type _} {a b : α} {t : List α} : (a :: t).set 0 b = b :: t := List.set_cons_zero
theorem Y3 {α : Type _} {a b : α} {t : List α} {n : Nat} : (a :: t).set (n + 1) b = a :: t.set n b := List.set_cons_succ
end Go.Proofs
section
namespace Go.Proofs.ZW.PrintWords
open Go.RowKit
structure zaa (p : Prop) : Prop where mk :: (out : p)
structure za5 (w w' : World) : Prop where mk :: (out : ∃ n, w' = w.drewN n)
theorem za5.refl (w : World) : za5 w w := ⟨⟨0, rfl⟩⟩
theorem za5.step {w w' : World} (h : za5 w w') (n : Nat) : za5 w (w'.drewN n) := by
  obtain ⟨m, rfl⟩ := h
  exact ⟨⟨m + n, World.drewN_drewN ..⟩⟩
def rd (xs : List Int) (i : Int) : Int := xs.getD i.toNat 0
def bt (s : ByteArray) (i : Int) : Int := if h : i.toNat < s.size then ((s[i.toNat]'h).toNat : Int) else 0
theorem bt_at (s : ByteArray) (i : Int) : ∀ h : i.toNat < s.size, ((s[i.toNat]'h).toNat : Int) = bt s i := fun h => by simp [bt, h]
def nums (k : IntKind) (xs : List Int) : List Value := xs.map fun x => .int k x
theorem za2 {w W : World} (h : Below w.heap.size w W) (o : Obj) : Below w.heap.size w (W.alloc o) := h.alloc h.size o
theorem za4 {B : Nat} {w W : World} (h : Below B w W) : Below B w W.drew := ⟨h.os, h.tape, h.output, h.size, h.block⟩
theorem zav {B : Nat} {w W : World} (h : Below B w W) (n : Nat) : Below B w (W.drewN n) := ⟨h.os, h.tape, h.output, h.size, h.block⟩
theorem below_then {B : Nat} {w w1 w2 : World} (h : Below B w w1) (hB : B ≤ w1.heap.size) (k : Below w1.heap.size w1 w2) : Below B w w2 :=
  h.trans ⟨k.os, k.tape, k.output, k.size, fun i hi => k.block i (Nat.lt_of_lt_of_le hi hB)⟩
theorem zad {w w1 : World} (h : Below w.heap.size w w1) {a : Addr} {v : Value} (hc : w.cell? a = some v) : w1.cell? a = some v := (h.cell (World.block_lt_of_cell? w a hc)).trans hc
theorem add_plain (g j : Nat) : (⟨g, 0, none⟩ : Addr).add j = ⟨g, j, none⟩ := by unfold Addr.add; split <;> simp_all
def ReadsInt (w : World) (k : IntKind) (A : Option Addr) (n : Nat) (xs : List Int) : Prop :=
  xs.length = n ∧ n ≤ 9223372036854775807 ∧ (0 < n → ∃ ad, A = some ad ∧ ∀ j, j < n → w.cell? (ad.add j) = some (.int k (xs.getD j 0)))
theorem ReadsInt.at_ {w : World} {k : IntKind} {A : Option Addr} {n : Nat} {xs : List Int} (h : ReadsInt w k A n xs) (i : Int) (h0 : 0 ≤ i) (h1 : i < n) : ∃ ad, A = some ad ∧ w.cell? (ad.add i.toNat) = some (.int k (rd xs i)) := by
  obtain ⟨ad, e, hc⟩ := h.2.2 (by omega)
  exact ⟨ad, e, hc _ (by omega)⟩
theorem own_nil (W : World) (base : Nat) (e : TypeId) (size : Nat) : W.ownsRow base e size (.slice none 0 0) 0 [] := ⟨by simp, .inl ⟨rfl, rfl⟩⟩
theorem zd4 {w : World} {base : Nat} {e : TypeId} {size n : Nat} {v : Value} {xs : List Value} (h : w.ownsRow base e size v n xs) (k : Nat) (hk : v.ownBlock = some k) : base ≤ k := by
  rcases h.2 with ⟨rfl, _⟩ | ⟨g, cap, cur, rfl, hb, _⟩
  · simp [Value.ownBlock] at hk
  · have : g = k := by simpa [Value.ownBlock] using hk
    omega
theorem own_lt {w : World} {base : Nat} {e : TypeId} {size n : Nat} {v : Value} {xs : List Value} (h : w.ownsRow base e size v n xs) (k : Nat) (hk : v.ownBlock = some k) : k < w.heap.size := by
  rcases h.2 with ⟨rfl, _⟩ | ⟨g, cap, cur, rfl, hb, hh, _⟩
  · simp [Value.ownBlock] at hk
  · have : g = k := by simpa [Value.ownBlock] using hk
    subst this
    exact (Array.getElem?_eq_some_iff.1 hh).1
section
variable {P : Program} {ops : Array Oper} {rest : List Oper} {o : Oper} {a : Act} {Q : Exit → Act → World → Prop}
end
section
variable {P : Program}
end
section
variable {P : Program} {ops : Array Oper} {rest : List Oper} {o : Oper} {a : Act} {Q : Exit → Act → World → Prop}
end
def bytesOf (s : ByteArray) : List Int := s.data.toList.map fun b => (b.toNat : Int)
def LeO {α : Type} (a b : Option α) : Prop := ∀ r, a = some r → b = some r
theorem LeO.refl {α : Type} (a : Option α) : LeO a a := fun _ h => h
theorem LeO.none {α : Type} (b : Option α) : LeO Option.none b := fun _ h => by cases h
theorem LeO.trans {α : Type} {a b c : Option α} (h : LeO a b) (k : LeO b c) : LeO a c := fun r hr => k r (h r hr)
theorem zin {α : Type} {g : Nat → Option α} (h : ∀ k, LeO (g k) (g (k + 1))) (k : Nat) : ∀ j, LeO (g k) (g (k + j))
  | 0 => LeO.refl _
  | j + 1 => (zin h k j).trans (h (k + j))
theorem at_rounds {α : Type} {g : Nat → Option α} (h : ∀ k, LeO (g k) (g (k + 1))) {k k' : Nat} (hk : k ≤ k') {r : α} (hr : g k = some r) : g k' = some r := by
  have := zin h k (k' - k) r hr
  rwa [Nat.add_sub_cancel' hk] at this
def Reps {α : Type} (R : α → List Value → Prop) (size : Nat) (ps : List α) (cs : List Value) : Prop :=
  cs.length = ps.length * size ∧ ∀ j p, ps[j]? = some p → R p ((cs.drop (j * size)).take size)
theorem Reps.none {α : Type} (R : α → List Value → Prop) (size : Nat) : Reps R size [] [] := ⟨by simp, fun j p h => by simp at h⟩
theorem Reps.snoc {α : Type} {R : α → List Value → Prop} {size : Nat} {ps : List α} {cs c : List Value} {p : α} (h : Reps R size ps cs) (hp : R p c) (hc : c.length = size) : Reps R size (ps ++ [p]) (cs ++ c) := by
  refine ⟨by rw [List.length_append, h.1, hc, List.length_append, List.length_singleton, Nat.add_mul, Nat.one_mul], fun j q hq => ?_⟩
  rcases Nat.lt_or_ge j ps.length with hj | hj
  · rw [List.getElem?_append_left hj] at hq
    have h1 : j * size + size ≤ cs.length := by rw [h.1, ← Nat.succ_mul]; exact Nat.mul_le_mul_right _ hj
    have h2 := h.2 j q hq
    rw [List.drop_append_of_le_length (by omega), List.take_append_of_le_length (by rw [List.length_drop]; omega)]
    exact h2
  · have hj' : j = ps.length := by
      have := (List.getElem?_eq_some_iff.1 hq).1
      rw [List.length_append, List.length_singleton] at this
      omega
    subst hj'
    have hq' : p = q := by simpa using hq
    subst hq'
    rw [← h.1, List.drop_left, ← hc, List.take_length]
    exact hp
theorem Reps.imp_ {α : Type} {R R' : α → List Value → Prop} {size : Nat} {ps : List α} {cs : List Value} (h : Reps R size ps cs) (hR : ∀ p c, R p c → R' p c) : Reps R' size ps cs := ⟨h.1, fun j p hj => hR _ _ (h.2 j p hj)⟩
def zcw {α : Type} (R : α → List Value → Prop) (size : Nat) (w : World) (A : Option Addr) (n : Nat) (ps : List α) : Prop :=
  ps.length = n ∧ n ≤ 9223372036854775807 ∧ (0 < n → ∃ ad, A = some ad ∧ ∀ j p, ps[j]? = some p → ∃ c, c.length = size ∧ R p c ∧ ∀ i u, c[i]? = some u → w.cell? (ad.add (j * size + i)) = some u)
theorem zcw.get_ {α : Type} {R : α → List Value → Prop} {size : Nat} {w : World} {A : Option Addr} {n : Nat} {ps : List α} (h : zcw R size w A n ps) (d : α) (i : Int) (h0 : 0 ≤ i) (h1 : i < n) :
    ∃ ad c, A = some ad ∧ c.length = size ∧ R (ps.getD i.toNat d) c ∧ ∀ j u, c[j]? = some u → w.cell? (ad.add (i.toNat * size + j)) = some u := by
  obtain ⟨ad, e, hc⟩ := h.2.2 (by omega)
  have hl : i.toNat < ps.length := by have := h.1; omega
  obtain ⟨c, hs, hr, hcell⟩ := hc i.toNat _ (List.getElem?_eq_getElem hl)
  refine ⟨ad, c, e, hs, ?_, hcell⟩
  rw [List.getD_eq_getElem?_getD, List.getElem?_eq_getElem hl]
  exact hr
theorem zcw.imp_ {α : Type} {R R' : α → List Value → Prop} {size : Nat} {w w1 : World} {A : Option Addr} {n : Nat} {ps : List α} (h : zcw R size w A n ps) (hb : Below w.heap.size w w1) (hR : ∀ p c, R p c → R' p c) : zcw R' size w1 A n ps :=
  ⟨h.1, h.2.1, fun hn => by
    obtain ⟨ad, e, hc⟩ := h.2.2 hn
    refine ⟨ad, e, fun j p hj => ?_⟩
    obtain ⟨c, hs, hr, hcell⟩ := hc j p hj
    exact ⟨c, hs, hR _ _ hr, fun i u hu => zad hb (hcell i u hu)⟩⟩
theorem zj3 {α : Type} {R : α → List Value → Prop} {w : World} {base n size : Nat} {e : TypeId} {v : Value} {ps : List α} {cs : List Value} (h : w.ownsRow base e size v n cs) (hR : Reps R size ps cs) (hn : ps.length = n) :
    ∃ A c, v = .slice A n c ∧ zcw R size w A n ps := by
  rcases Nat.eq_zero_or_pos n with h0 | h0
  · rcases h.2 with ⟨rfl, rfl⟩ | ⟨g, cap, cur, rfl, _⟩
    · exact ⟨none, 0, rfl, hn, by omega, fun hp => absurd hp (by omega)⟩
    · exact ⟨_, cap, rfl, hn, by omega, fun hp => absurd hp (by omega)⟩
  · obtain ⟨g, cap, rfl, _, _⟩ := h.form h0
    have hm : n ≤ 9223372036854775807 := by
      rcases h.2 with ⟨_, h1⟩ | ⟨g', cap', cur, he, _, _, h1, h2, _⟩
      · omega
      · simp only [maxLen] at h2
        omega
    refine ⟨_, cap, rfl, hn, hm, fun _ => ⟨_, rfl, fun j p hj => ⟨(cs.drop (j * size)).take size, ?_, hR.2 j p hj, fun i u hu => ?_⟩⟩⟩
    · have hjl := (List.getElem?_eq_some_iff.1 hj).1
      have h1 : j * size + size ≤ cs.length := by rw [hR.1, ← Nat.succ_mul]; exact Nat.mul_le_mul_right _ hjl
      rw [List.length_take, List.length_drop]
      omega
    · refine h.cells (g := g) rfl _ u ?_
      rw [List.getElem?_take] at hu
      split at hu
      · rw [List.getElem?_drop] at hu
        exact hu
      · cases hu
theorem zb5 (ad : Addr) (m j : Nat) (hj : 0 < j) : ad.add (m + j) = ⟨(ad.add m).block, (ad.add m).off + j, none⟩ := by
  unfold Addr.add
  by_cases hm : m = 0
  · subst hm
    simp [Nat.ne_of_gt hj]
  · simp [hm, Nat.add_assoc]
section
variable {P : Program} {ops : Array Oper} {rest : List Oper} {o : Oper} {a : Act} {Q : Exit → Act → World → Prop}
theorem zhx {w0 W : World} (base : Nat) (hgd : o.guard = none) (s x : Operand) (t e : TypeId) (z : Value) (size bytes : Nat)
    (ho : o.op = .call { callee := .builtin .append, args := #[s, x], argTypes := #[t, t] })
    (ht : P.underlying t = some (.slice e)) (hinfo : (P.info? e).map (fun i => (i.zero, i.size, i.bytes)) = some (some z, size, bytes)) (hz : z.cells.size = size) (hs0 : 0 < size) (hb0 : 0 < bytes)
    (v : Value) (n : Nat) (xs ys : List Value) (hs : a.eval s = v) (hx : a.eval x = .slice (some ⟨W.heap.size, 0, none⟩) 1 1) (hys : ys.length = size) (h1 : ∀ u ∈ ys, u.oneCell' = true)
    (HO : W.ownsRow base e size v n xs) (HB : Below base w0 W) (hbase : base ≤ W.heap.size) (hl : (n + 1) * bytes ≤ 140737488355328)
    (h : ∀ v1 w1, w1.ownsRow base e size v1 (n + 1) (xs ++ ys) → Below base w0 w1 → W.grownBy w1 v.ownBlock → (v1.ownBlock = v.ownBlock ∨ ∃ b, v1.ownBlock = some b ∧ W.heap.size ≤ b) → wpList P ops Q rest (a.put o.dst v1) w1) :
    wpList P ops Q (o :: rest) a (W.alloc (.cells ys.toArray e)) := by
  obtain ⟨i0, hi, hzz⟩ := Option.map_eq_some_iff.1 hinfo
  simp only [Prod.mk.injEq] at hzz
  obtain ⟨hz0, hz1, hz2⟩ := hzz
  have hlen : n + 1 ≤ 140737488355328 := Nat.le_trans (Nat.le_mul_of_pos_right _ hb0) hl
  refine wpList_append_own_at (W.alloc (.cells ys.toArray e)) hgd s x t ho base e i0 z size bytes ht hi hz0 hz1 hz2 hz hs0 v n xs hs (HO.alloc _) ⟨W.heap.size, 0, none⟩ 1 1 ys hx (by rw [hys]; simp)
    (by simpa using World.news_of_block (cs := ys.toArray) (t := e) (fr := (0, 0)) (heap_alloc_new W (.cells ys.toArray e))) h1 (by simp only [maxLen]; omega) hl (by simp; omega) ?_
  intro v1 w1 hown hg _ hat
  refine h v1 w1 hown ((HB.alloc hbase _).grown hg (by simp; omega) (zd4 HO)) (World.grownBy.trans (World.grownBy_alloc W _ _) hg) ?_
  rcases hat with hat | hat
  · exact .inl hat
  · exact .inr ⟨_, hat, by simp⟩
end
theorem own_ne {w : World} {base : Nat} {e t : TypeId} {size n g : Nat} {v : Value} {xs : List Value} {cs : Array Value} (h : w.ownsRow base e size v n xs) (hg : w.heap[g]? = some (.cells cs t (0, 0))) (hne : e ≠ t) : some g ≠ v.ownBlock := by
  rcases h.2 with ⟨rfl, _⟩ | ⟨g', cap, cur, rfl, _, hh, _⟩
  · simp [Value.ownBlock]
  · intro he
    have : g = g' := by simpa [Value.ownBlock] using he
    subst this
    rw [hg] at hh
    injection hh with hh
    injection hh with _ ht
    exact hne ht.symm
theorem zg0 {w : World} {g : Nat} {t : TypeId} {cs : Array Value} (h : w.heap[g]? = some (.cells cs t (0, 0))) (i : Nat) (u : Value) : (w.setCell ⟨g, i, none⟩ u).heap[g]? = some (.cells (cs.setIfInBounds i u) t (0, 0)) := by
  simp [World.setCell, Array.getElem?_modify, h]
theorem zbg {w : World} {g : Nat} {t : TypeId} {cs : Array Value} (h : w.heap[g]? = some (.cells cs t (0, 0))) {p : Addr} (hp : g ≠ p.block) (u : Value) : (w.setCell p u).heap[g]? = some (.cells cs t (0, 0)) := (Below.heap_setCell w p u g hp).trans h
theorem zbk {w : World} {g : Nat} {o : Obj} (h : w.heap[g]? = some o) : g < w.heap.size := (Array.getElem?_eq_some_iff.1 h).1
theorem zab {w : World} {g : Nat} {t : TypeId} {cs : Array Value} (h : w.heap[g]? = some (.cells cs t (0, 0))) (i : Nat) : w.cell? ⟨g, i, none⟩ = cs[i]? := cell_of_row w g i cs t (0, 0) h
theorem zdi {w : World} {g : Nat} {t : TypeId} {cs : Array Value} (h : w.heap[g]? = some (.cells cs t (0, 0))) (i : Nat) : w.frozen? ⟨g, i, none⟩ = false := by simp [World.frozen?, h]
theorem zcc {w w1 : World} {g : Nat} {o : Obj} {row : Option Nat} (h : w.heap[g]? = some o) (hg : w.grownBy w1 row) (hne : some g ≠ row) : w1.heap[g]? = some o := (hg.block g (zbk h) hne).trans h
theorem blk_ne {w : World} {g g' : Nat} {t t' : TypeId} {cs cs' : Array Value} (h : w.heap[g]? = some (.cells cs t (0, 0))) (h' : w.heap[g']? = some (.cells cs' t' (0, 0))) (hne : t ≠ t') : g ≠ g' := by
  rintro rfl
  rw [h] at h'
  injection h' with h'
  injection h' with _ ht
  exact hne ht
def zh1 (w w' : World) (g : Nat) (row : Option Nat) : Prop := w.heap.size ≤ w'.heap.size ∧ ∀ i, i < w.heap.size → i ≠ g → some i ≠ row → w'.heap[i]? = w.heap[i]?
theorem zh1.trans {w w1 w2 : World} {g : Nat} {row row1 : Option Nat} (h : zh1 w w1 g row) (k : zh1 w1 w2 g row1) (hr : row1 = row ∨ ∃ b, row1 = some b ∧ w.heap.size ≤ b) : zh1 w w2 g row :=
  ⟨Nat.le_trans h.1 k.1, fun i hi hg hn => by
    refine (k.2 i (Nat.lt_of_lt_of_le hi h.1) hg ?_).trans (h.2 i hi hg hn)
    rcases hr with rfl | ⟨b, rfl, hb⟩
    · exact hn
    · intro e
      injection e with e
      omega⟩
def Ev {α : Type} (g : Nat → Option α) (r : α) : Prop := ∃ K, ∀ k, K ≤ k → g k = some r
theorem Ev.of {α : Type} {g : Nat → Option α} {r : α} (hg : ∀ k, LeO (g k) (g (k + 1))) {k : Nat} (h : g k = some r) : Ev g r := ⟨k, fun _ hk => at_rounds hg hk h⟩
theorem Ev.now {α : Type} (r : α) : Ev (fun _ => some r) r := ⟨0, fun _ _ => rfl⟩
theorem Ev.rounds {α : Type} {g : Nat → Option α} {r : α} (h : Ev g r) : ∃ k, g k = some r := by
  obtain ⟨K, h⟩ := h
  exact ⟨K, h K (Nat.le_refl _)⟩
theorem Ev.bind {α β : Type} {g : Nat → Option α} {f : Nat → α → Option β} {a : α} {r : β} (h : Ev g a) (k : Ev (fun n => f n a) r) : Ev (fun n => (g n).bind (f n)) r := by
  obtain ⟨K, h⟩ := h
  obtain ⟨K', k⟩ := k
  refine ⟨max K K', fun n hn => ?_⟩
  have h1 := h n (by omega)
  have h2 := k n (by omega)
  simp only [h1, Option.bind_some]
  exact h2
theorem Ev.step {α : Type} {g f : Nat → Option α} {r : α} (h : ∀ k, g (k + 1) = f k) (k : Ev f r) : Ev g r := by
  obtain ⟨K, k⟩ := k
  refine ⟨K + 1, fun n hn => ?_⟩
  obtain ⟨m, rfl⟩ : ∃ m, n = m + 1 := ⟨n - 1, by omega⟩
  rw [h]
  exact k m (by omega)
theorem Ev.congr {α : Type} {g f : Nat → Option α} {r : α} (h : ∀ k, g k = f k) (k : Ev f r) : Ev g r := by
  obtain ⟨K, k⟩ := k
  exact ⟨K, fun n hn => (h n).trans (k n hn)⟩
section
variable {P : Program} {ops : Array Oper} {o : Oper} {a : Act} {Q : Exit → Act → World → Prop} {K : Act → World → Prop}
theorem zic {w0 W : World} (base : Nat) (hw : Region.wanted o (yielded ops a.tmps) = true) (s x : Operand) (t e : TypeId) (z : Value) (size bytes : Nat)
    (ho : o.op = .call { callee := .builtin .append, args := #[s, x], argTypes := #[t, t] })
    (ht : P.underlying t = some (.slice e)) (hinfo : (P.info? e).map (fun i => (i.zero, i.size, i.bytes)) = some (some z, size, bytes)) (hz : z.cells.size = size) (hs0 : 0 < size) (hb0 : 0 < bytes)
    (v : Value) (n : Nat) (xs ys : List Value) (hs : a.eval s = v) (hx : a.eval x = .slice (some ⟨W.heap.size, 0, none⟩) 1 1) (hys : ys.length = size) (h1 : ∀ u ∈ ys, u.oneCell' = true)
    (HO : W.ownsRow base e size v n xs) (HB : Below base w0 W) (hbase : base ≤ W.heap.size) (hl : (n + 1) * bytes ≤ 140737488355328)
    (h : ∀ v1 w1, w1.ownsRow base e size v1 (n + 1) (xs ++ ys) → Below base w0 w1 → W.grownBy w1 v.ownBlock → (v1.ownBlock = v.ownBlock ∨ ∃ b, v1.ownBlock = some b ∧ W.heap.size ≤ b) → K (a.put o.dst v1) w1) :
    if Region.wanted o (yielded ops a.tmps) = true then Oper.wp P o a (W.alloc (.cells ys.toArray e)) K Q else K (a.put o.dst undef) (W.alloc (.cells ys.toArray e)) := by
  obtain ⟨i0, hi, hzz⟩ := Option.map_eq_some_iff.1 hinfo
  simp only [Prod.mk.injEq] at hzz
  obtain ⟨hz0, hz1, hz2⟩ := hzz
  have hlen : n + 1 ≤ 140737488355328 := Nat.le_trans (Nat.le_mul_of_pos_right _ hb0) hl
  rw [if_pos hw]
  obtain ⟨v1, w1, hr, hown, hg, _, hat⟩ := run_append_own_at (P := P) (W.alloc (.cells ys.toArray e)) base t o.type e i0 z size bytes ht hi hz0 hz1 hz2 hz hs0 v n xs (HO.alloc _) ⟨W.heap.size, 0, none⟩ 1 1 ys (by rw [hys]; simp)
    (by simpa using World.news_of_block (cs := ys.toArray) (t := e) (fr := (0, 0)) (heap_alloc_new W (.cells ys.toArray e))) h1 (by simp only [maxLen]; omega) hl (by simp; omega)
  unfold Oper.wp execOp
  simp only [ho, resolve, invoke, builtin, Sem.run_bind, Sem.run_pure, Result.andThen_ok, List.map_toArray, List.map_cons, List.map_nil, hs, hx, hr]
  refine h v1 w1 hown ((HB.alloc hbase _).grown hg (by simp; omega) (zd4 HO)) (World.grownBy.trans (World.grownBy_alloc W _ _) hg) ?_
  rcases hat with hat | hat
  · exact .inl hat
  · exact .inr ⟨_, hat, by simp⟩
end
theorem zew {w : World} {base base' : Nat} {e : TypeId} {size n : Nat} {v : Value} {xs : List Value} (h : w.ownsRow base e size v n xs) (hb : base' ≤ base) : w.ownsRow base' e size v n xs := by
  obtain ⟨h1, h2⟩ := h
  refine ⟨h1, ?_⟩
  rcases h2 with h2 | ⟨g, cap, cur, rfl, hg, r⟩
  · exact .inl h2
  · exact .inr ⟨g, cap, cur, rfl, Nat.le_trans hb hg, r⟩
section
variable {α : Type} {enc : α → Value} {d : α}
def encs (enc : α → Value) (xs : List α) : List Value := xs.map enc
def rdOf (d : α) (xs : List α) (i : Int) : α := xs.getD i.toNat d
theorem zik (xs : List α) : (encs enc xs).length = xs.length := by simp [encs]
theorem encs_get (xs : List α) (j : Nat) (h : j < xs.length) : (encs enc xs)[j]? = some (enc (xs.getD j d)) := by
  simp [encs, List.getElem?_eq_getElem h, List.getD_eq_getElem?_getD]
def zf4 (enc : α → Value) (d : α) (w : World) (A : Option Addr) (n : Nat) (xs : List α) : Prop :=
  xs.length = n ∧ n ≤ 9223372036854775807 ∧ (0 < n → ∃ ad, A = some ad ∧ ∀ j, j < n → w.cell? (ad.add j) = some (enc (xs.getD j d)))
theorem zf4.at_ {w : World} {A : Option Addr} {n : Nat} {xs : List α} (h : zf4 enc d w A n xs) (i : Int) (h0 : 0 ≤ i) (h1 : i < n) : ∃ ad, A = some ad ∧ w.cell? (ad.add i.toNat) = some (enc (rdOf d xs i)) := by
  obtain ⟨ad, e, hc⟩ := h.2.2 (by omega)
  exact ⟨ad, e, hc _ (by omega)⟩
theorem own_at_of {W : World} {base g n cap : Nat} {e : TypeId} {xs : List α} (h : W.ownsRow base e 1 (.slice (some ⟨g, 0, none⟩) n cap) n (encs enc xs)) (i : Int) (h0 : 0 ≤ i) (h1 : i < n) :
    W.cell? ⟨g, i.toNat, none⟩ = some (enc (rdOf d xs i)) ∧ W.frozen? ⟨g, i.toNat, none⟩ = false := by
  have hl : xs.length = n := by have := h.1; simp [encs] at this; exact this
  constructor
  · have hc := h.cells (g := g) rfl i.toNat _ (encs_get (d := d) xs i.toNat (by omega))
    rwa [add_plain] at hc
  · rcases h.2 with ⟨h', _⟩ | ⟨g', cap', cur, h', _, hh, _⟩
    · cases h'
    · have : g = g' := by injection h' with h'; injection h' with h'; injection h' with h'
      subst this
      simp [World.frozen?, hh]
theorem own_store_of {W : World} {base g n cap : Nat} {e : TypeId} {xs : List α} (h : W.ownsRow base e 1 (.slice (some ⟨g, 0, none⟩) n cap) n (encs enc xs)) (i : Int) (x : α) :
    (W.setCell ⟨g, i.toNat, none⟩ (enc x)).ownsRow base e 1 (.slice (some ⟨g, 0, none⟩) n cap) n (encs enc (xs.set i.toNat x)) ∧ W.grownBy (W.setCell ⟨g, i.toNat, none⟩ (enc x)) (some g) := by
  have hs := h.stored i.toNat (enc x)
  have he : (encs enc xs).set i.toNat (enc x) = encs enc (xs.set i.toNat x) := by simp [encs, List.map_set]
  rwa [he] at hs
end
section
variable {α : Type} {P : Program} {ops : Array Oper} {rest : List Oper} {o : Oper} {a : Act} {Q : Exit → Act → World → Prop}
end
theorem zaj {w : World} {g : Nat} {o : Obj} (h : w.heap[g]? = some o) (o' : Obj) : (w.alloc o').heap[g]? = some o := (Below.heap_alloc w o' g (zbk h)).trans h
theorem zah {w : World} {g : Nat} {o : Obj} (h : w.heap[g]? = some o) : w.drew.heap[g]? = some o := h
theorem zam {w : World} {g : Nat} {o : Obj} (h : w.heap[g]? = some o) (n : Nat) : (w.drewN n).heap[g]? = some o := h
theorem zat {w w1 : World} {g : Nat} {o : Obj} (h : w.heap[g]? = some o) (hb : Below w.heap.size w w1) : w1.heap[g]? = some o := (hb.block g (zbk h)).trans h
theorem za9 (w : World) (o : Obj) : (w.alloc o).heap[w.heap.size]? = some o := heap_alloc_new w o
section
variable {P : Program}
end
theorem own_le {w : World} {base n m c size : Nat} {e : TypeId} {A : Option Addr} {xs : List Value} (h : w.ownsRow base e size (.slice A m c) n xs) : m ≤ c := by
  rcases h.2 with ⟨he, _⟩ | ⟨g, cap, cur, he, _, _, hnc, _⟩
  · injection he with _ h2 h3
    omega
  · injection he with _ h2 h3
    omega
def zd0 {α : Type} (R : α → List Value → Prop) (e : TypeId) (size : Nat) (w : World) (base : Nat) (v : Value) (ps : List α) : Prop :=
  ∃ inner, w.ownsRow base e size v ps.length inner ∧ Reps R size ps inner
section
variable {α : Type} {R R' : α → List Value → Prop} {e : TypeId} {size : Nat} {w w1 : World} {base : Nat} {v : Value} {ps : List α}
theorem zd0.none_ (R : α → List Value → Prop) (e : TypeId) (size : Nat) (w : World) (base : Nat) : zd0 R e size w base (.slice none 0 0) [] := ⟨[], own_nil _ _ _ _, Reps.none _ _⟩
theorem zd0.imp_ (h : zd0 R e size w base v ps) (hR : ∀ p c, R p c → R' p c) : zd0 R' e size w base v ps := by
  obtain ⟨inner, ho, hr⟩ := h
  exact ⟨inner, ho, hr.imp_ hR⟩
theorem zd0.reads (h : zd0 R e size w base v ps) : ∃ A c, v = .slice A ps.length c ∧ ps.length ≤ c ∧ zcw R size w A ps.length ps := by
  obtain ⟨inner, ho, hr⟩ := h
  obtain ⟨A, c, rfl, hrow⟩ := zj3 ho hr rfl
  exact ⟨A, c, rfl, own_le ho, hrow⟩
theorem zd0.ne_block (h : zd0 R e size w base v ps) {g : Nat} {t : TypeId} {cells : Array Value} (hb : w.heap[g]? = some (.cells cells t (0, 0))) (ht : e ≠ t) : some g ≠ v.ownBlock := by
  obtain ⟨inner, ho, hr⟩ := h
  exact own_ne ho hb ht
end
section
variable {P : Program} {ops : Array Oper} {rest : List Oper} {o : Oper} {a : Act} {Q : Exit → Act → World → Prop} {α : Type} {R : α → List Value → Prop}
end
section
variable {P : Program} {ops : Array Oper} {o : Oper} {a : Act} {Q : Exit → Act → World → Prop} {K : Act → World → Prop} {α : Type} {R : α → List Value → Prop}
end
theorem zcw.inner_ {α : Type} {R : α → List Value → Prop} {size : Nat} {w : World} {ad : Addr} {n : Nat} {ps : List α} (h : zcw R size w (some ad) n ps) :
    ∃ inner, Reps R size ps inner ∧ ∀ j u, inner[j]? = some u → w.cell? (ad.add j) = some u := by
  have key : ∀ m, m ≤ ps.length → ∃ inner, Reps R size (ps.take m) inner ∧ ∀ j u, inner[j]? = some u → w.cell? (ad.add j) = some u := by
    intro m
    induction m with
    | zero => exact fun _ => ⟨[], Reps.none _ _, fun j u hu => by simp at hu⟩
    | succ m ih =>
      intro hm
      obtain ⟨inner, hr, hc⟩ := ih (by omega)
      obtain ⟨ad', he, hcell⟩ := h.2.2 (by have := h.1; omega)
      injection he with he
      subst he
      obtain ⟨c, hcl, hp, hcc⟩ := hcell m _ (List.getElem?_eq_getElem (show m < ps.length by omega))
      refine ⟨inner ++ c, ?_, fun j u hu => ?_⟩
      · rw [List.take_succ_eq_append_getElem (show m < ps.length by omega)]
        exact hr.snoc hp hcl
      · have hil : inner.length = m * size := by rw [hr.1, List.length_take, Nat.min_eq_left (by omega)]
        rcases Nat.lt_or_ge j inner.length with hj | hj
        · rw [List.getElem?_append_left hj] at hu
          exact hc j u hu
        · rw [List.getElem?_append_right hj] at hu
          have := hcc (j - inner.length) u hu
          rwa [hil, Nat.add_sub_cancel' (by omega)] at this
  obtain ⟨inner, hr, hc⟩ := key ps.length (Nat.le_refl _)
  rw [List.take_length] at hr
  exact ⟨inner, hr, hc⟩
section
variable {α : Type} {P : Program}
end
section
variable {P : Program} {ops : Array Oper} {rest : List Oper} {o : Oper} {a : Act} {Q : Exit → Act → World → Prop}
end
structure Kd (α : Type) where
  sz : Nat
  E : List Nat
  K : World → α → List Value → Prop
  M : World → Nat → (Nat → Prop) → α → List Value → Prop
  K_len : ∀ {w x cs}, K w x cs → cs.length = sz
  K_one : ∀ {w x cs}, K w x cs → ∀ u ∈ cs, u.oneCell' = true
  K_below : ∀ {w w1 : World} {x cs}, Below w.heap.size w w1 → K w x cs → K w1 x cs
  K_of_M : ∀ {w base ok x cs}, M w base ok x cs → K w x cs
  M_mono : ∀ {w base ok ok' x cs}, (∀ k, ok k → ok' k) → M w base ok x cs → M w base ok' x cs
  M_bound : ∀ {w : World} {base ok x cs}, M w base ok x cs → M w base (fun k => ok k ∧ base ≤ k ∧ k < w.heap.size ∧ ∃ q, q ∈ E ∧ ∃ cells, w.heap[k]? = some (.cells cells q (0, 0))) x cs
  M_move : ∀ {w w1 : World} {base ok x cs}, (∀ k, ok k → w1.heap[k]? = w.heap[k]?) → M w base ok x cs → M w1 base ok x cs
  M_lower : ∀ {w base base' ok x cs}, base' ≤ base → M w base ok x cs → M w base' ok x cs
theorem own_move {w w1 : World} {base : Nat} {e : TypeId} {size n : Nat} {v : Value} {xs : List Value} (h : w.ownsRow base e size v n xs) (hm : ∀ k, v.ownBlock = some k → w1.heap[k]? = w.heap[k]?) : w1.ownsRow base e size v n xs := by
  obtain ⟨h1, h2⟩ := h
  refine ⟨h1, ?_⟩
  rcases h2 with h2 | ⟨g, cap, cur, rfl, hg, hh, r⟩
  · exact .inl h2
  · exact .inr ⟨g, cap, cur, rfl, hg, (hm g (by simp [Value.ownBlock])).trans hh, r⟩
theorem zgo {w : World} {base : Nat} {e : TypeId} {size n : Nat} {v : Value} {xs : List Value} (h : w.ownsRow base e size v n xs) (k : Nat) (hk : v.ownBlock = some k) : ∃ cells, w.heap[k]? = some (.cells cells e (0, 0)) := by
  rcases h.2 with ⟨rfl, _⟩ | ⟨g, cap, cur, rfl, hg, hh, r⟩
  · simp [Value.ownBlock] at hk
  · have : g = k := by simpa [Value.ownBlock] using hk
    subst this
    exact ⟨cur, hh⟩
namespace Kd
def C {α : Type} (d : Kd α) (w : World) (A : Option Addr) (n : Nat) (xs : List α) : Prop := zcw (d.K w) d.sz w A n xs
def R {α : Type} (d : Kd α) (e : Nat) (w : World) (base : Nat) (ok : Nat → Prop) (v : Value) (xs : List α) : Prop :=
  (∀ k, v.ownBlock = some k → ok k) ∧ zd0 (d.M w base (fun k => ok k ∧ some k ≠ v.ownBlock)) e d.sz w base v xs
section
variable {α : Type} {d : Kd α} {e : Nat} {w w1 : World} {base : Nat} {ok ok' : Nat → Prop} {v : Value} {xs : List α}
theorem zak {A : Option Addr} {n : Nat} (h : d.C w A n xs) (hb : Below w.heap.size w w1) : d.C w1 A n xs := zcw.imp_ h hb (fun _ _ hp => d.K_below hb hp)
theorem zdr (d : Kd α) (e : Nat) (w : World) (base : Nat) (ok : Nat → Prop) : d.R e w base ok (.slice none 0 0) [] := ⟨fun k hk => by simp [Value.ownBlock] at hk, zd0.none_ _ _ _ _ _⟩
theorem zba (h : d.R e w base ok v xs) (hok : ∀ k, ok k → ok' k) : d.R e w base ok' v xs := ⟨fun k hk => hok k (h.1 k hk), h.2.imp_ (fun _ _ hp => d.M_mono (fun k hk => ⟨hok k hk.1, hk.2⟩) hp)⟩
theorem zcz (h : d.R e w base ok v xs) : d.R e w base (fun k => ok k ∧ base ≤ k ∧ k < w.heap.size ∧ ∃ q, q ∈ e :: d.E ∧ ∃ cells, w.heap[k]? = some (.cells cells q (0, 0))) v xs := by
  obtain ⟨h0, inner, ho, hr⟩ := h
  refine ⟨fun k hk => ?_, inner, ho, hr.imp_ (fun _ _ hp => d.M_mono (fun k hk => ?_) (d.M_bound hp))⟩
  · obtain ⟨cells, hc⟩ := zgo ho k hk
    exact ⟨h0 k hk, zd4 ho k hk, own_lt ho k hk, e, List.mem_cons_self, cells, hc⟩
  · obtain ⟨⟨h1, h2⟩, h3, h4, q, hq, hc⟩ := hk
    exact ⟨⟨h1, h3, h4, q, List.mem_cons_of_mem _ hq, hc⟩, h2⟩
theorem R_move (h : d.R e w base ok v xs) (hm : ∀ k, ok k → w1.heap[k]? = w.heap[k]?) : d.R e w1 base ok v xs := by
  obtain ⟨h0, inner, ho, hr⟩ := h
  exact ⟨h0, inner, own_move ho (fun k hk => hm k (h0 k hk)), hr.imp_ (fun _ _ hp => d.M_move (fun k hk => hm k hk.1) hp)⟩
theorem zbz {base' : Nat} (h : d.R e w base ok v xs) (hb : base' ≤ base) : d.R e w base' ok v xs := by
  obtain ⟨h0, inner, ho, hr⟩ := h
  exact ⟨h0, inner, zew ho hb, hr.imp_ (fun _ _ hp => d.M_lower hb hp)⟩
theorem R_step (h : d.R e w base ok v xs) (hm : ∀ k, ok k → k < w.heap.size → w1.heap[k]? = w.heap[k]?) : d.R e w1 base ok v xs :=
  zba (R_move (zcz h) (fun k hk => hm k hk.1 hk.2.2.1)) (fun _ hk => hk.1)
theorem M_step {x : α} {cs : List Value} (h : d.M w base ok x cs) (hm : ∀ k, ok k → k < w.heap.size → w1.heap[k]? = w.heap[k]?) : d.M w1 base ok x cs :=
  d.M_mono (fun _ hk => hk.1) (d.M_move (fun k hk => hm k hk.1 hk.2.2.1) (d.M_bound h))
theorem zbc (h : d.R e w base ok v xs) (hb : Below w.heap.size w w1) : d.R e w1 base ok v xs := R_step h (fun k _ hk => hb.block k hk)
theorem M_below {x : α} {cs : List Value} (h : d.M w base ok x cs) (hb : Below w.heap.size w w1) : d.M w1 base ok x cs := M_step h (fun k _ hk => hb.block k hk)
theorem ze2 (h : d.R e w base ok v xs) {row : Option Nat} (hg : w.grownBy w1 row) (hok : ∀ k, ok k → some k ≠ row) : d.R e w1 base ok v xs := R_step h (fun k ho hk => hg.block k hk (hok k ho))
theorem zdg (h : d.R e w base ok v xs) {p : Addr} (hok : ∀ k, ok k → k ≠ p.block) (u : Value) : d.R e (w.setCell p u) base ok v xs := R_step h (fun k ho _ => Below.heap_setCell w p u k (hok k ho))
theorem zgy (h : d.R e w base ok v xs) {g t : Nat} {cells : Array Value} (hb : w.heap[g]? = some (.cells cells t (0, 0))) (ht : ∀ q, q ∈ e :: d.E → q ≠ t) : d.R e w base (fun k => ok k ∧ k ≠ g) v xs :=
  zba (zcz h) (fun k hk => ⟨hk.1, by
    obtain ⟨_, _, _, q, hq, cells', hc⟩ := hk
    rintro rfl
    rw [hc] at hb
    injection hb with hb
    injection hb with _ hb
    exact ht q hq hb⟩)
theorem zds (h : d.R e w base ok v xs) : ∃ A c, v = .slice A xs.length c ∧ xs.length ≤ c ∧ d.C w A xs.length xs := by
  obtain ⟨A, c, he, hl, hr⟩ := zd0.reads h.2
  exact ⟨A, c, he, hl, hr.imp_ (Below.refl _ _) (fun _ _ hp => d.K_of_M hp)⟩
theorem zbj (h : d.R e w base ok v xs) : ∃ A c, v = .slice A xs.length c := by
  obtain ⟨A, c, he, _⟩ := zds h
  exact ⟨A, c, he⟩
theorem R_own (h : d.R e w base ok v xs) : ∃ inner, w.ownsRow base e d.sz v xs.length inner := by
  obtain ⟨_, inner, ho, _⟩ := h
  exact ⟨inner, ho⟩
theorem R_ne (h : d.R e w base ok v xs) {g t : Nat} {cells : Array Value} (hb : w.heap[g]? = some (.cells cells t (0, 0))) (ht : e ≠ t) : some g ≠ v.ownBlock := zd0.ne_block h.2 hb ht
end
def scalar {α : Type} (enc : α → Value) (h1 : ∀ x, (enc x).oneCell' = true) : Kd α where
  sz := 1
  E := []
  K := fun _ x cs => cs = [enc x]
  M := fun _ _ _ x cs => cs = [enc x]
  K_len := fun h => by rw [h]; rfl
  K_one := fun h u hu => by
    rw [h] at hu
    rw [List.mem_singleton.1 hu]
    exact h1 _
  K_below := fun _ h => h
  K_of_M := fun h => h
  M_mono := fun _ h => h
  M_bound := fun h => h
  M_move := fun _ h => h
  M_lower := fun _ h => h
def int (k : IntKind) : Kd Int := scalar (Value.int k) (fun _ => rfl)
def bool : Kd Bool := scalar Value.bool (fun _ => rfl)
def string : Kd ByteArray := scalar Value.string (fun _ => rfl)
def slice {α : Type} (e : Nat) (d : Kd α) : Kd (List α) where
  sz := 1
  E := e :: d.E
  K := fun w xs cs => ∃ A c, cs = [.slice A xs.length c] ∧ xs.length ≤ c ∧ d.C w A xs.length xs
  M := fun w base ok xs cs => ∃ v, cs = [v] ∧ d.R e w base ok v xs
  K_len := by
    rintro w x cs ⟨A, c, rfl, _⟩
    rfl
  K_one := by
    rintro w x cs ⟨A, c, rfl, _⟩ u hu
    rw [List.mem_singleton.1 hu]
    rfl
  K_below := by
    rintro w w1 x cs hb ⟨A, c, rfl, hl, hr⟩
    exact ⟨A, c, rfl, hl, zak hr hb⟩
  K_of_M := by
    rintro w base ok x cs ⟨v, rfl, h⟩
    obtain ⟨A, c, rfl, hl, hr⟩ := zds h
    exact ⟨A, c, rfl, hl, hr⟩
  M_mono := by
    rintro w base ok ok' x cs hok ⟨v, rfl, h⟩
    exact ⟨v, rfl, zba h hok⟩
  M_bound := by
    rintro w base ok x cs ⟨v, rfl, h⟩
    exact ⟨v, rfl, zcz h⟩
  M_move := by
    rintro w w1 base ok x cs hm ⟨v, rfl, h⟩
    exact ⟨v, rfl, R_move h hm⟩
  M_lower := by
    rintro w base base' ok x cs hb ⟨v, rfl, h⟩
    exact ⟨v, rfl, zbz h hb⟩
def pair {α β : Type} (a : Kd α) (b : Kd β) : Kd (α × β) where
  sz := a.sz + b.sz
  E := a.E ++ b.E
  K := fun w x cs => ∃ c0 c1, cs = c0 ++ c1 ∧ a.K w x.1 c0 ∧ b.K w x.2 c1
  M := fun w base ok x cs => ∃ c0 c1, cs = c0 ++ c1 ∧ a.M w base ok x.1 c0 ∧ b.M w base ok x.2 c1
  K_len := by
    rintro w x cs ⟨c0, c1, rfl, h0, h1⟩
    rw [List.length_append, a.K_len h0, b.K_len h1]
  K_one := by
    rintro w x cs ⟨c0, c1, rfl, h0, h1⟩ u hu
    rcases List.mem_append.1 hu with hu | hu
    · exact a.K_one h0 u hu
    · exact b.K_one h1 u hu
  K_below := by
    rintro w w1 x cs hb ⟨c0, c1, rfl, h0, h1⟩
    exact ⟨c0, c1, rfl, a.K_below hb h0, b.K_below hb h1⟩
  K_of_M := by
    rintro w base ok x cs ⟨c0, c1, rfl, h0, h1⟩
    exact ⟨c0, c1, rfl, a.K_of_M h0, b.K_of_M h1⟩
  M_mono := by
    rintro w base ok ok' x cs hok ⟨c0, c1, rfl, h0, h1⟩
    exact ⟨c0, c1, rfl, a.M_mono hok h0, b.M_mono hok h1⟩
  M_bound := by
    rintro w base ok x cs ⟨c0, c1, rfl, h0, h1⟩
    refine ⟨c0, c1, rfl, a.M_mono ?_ (a.M_bound h0), b.M_mono ?_ (b.M_bound h1)⟩
    · rintro k ⟨h2, h3, h4, q, hq, hc⟩
      exact ⟨h2, h3, h4, q, List.mem_append_left _ hq, hc⟩
    · rintro k ⟨h2, h3, h4, q, hq, hc⟩
      exact ⟨h2, h3, h4, q, List.mem_append_right _ hq, hc⟩
  M_move := by
    rintro w w1 base ok x cs hm ⟨c0, c1, rfl, h0, h1⟩
    exact ⟨c0, c1, rfl, a.M_move hm h0, b.M_move hm h1⟩
  M_lower := by
    rintro w base base' ok x cs hb ⟨c0, c1, rfl, h0, h1⟩
    exact ⟨c0, c1, rfl, a.M_lower hb h0, b.M_lower hb h1⟩
def iso {α β : Type} (d : Kd α) (f : β → α) : Kd β where
  sz := d.sz
  E := d.E
  K := fun w x cs => d.K w (f x) cs
  M := fun w base ok x cs => d.M w base ok (f x) cs
  K_len := d.K_len
  K_one := d.K_one
  K_below := d.K_below
  K_of_M := d.K_of_M
  M_mono := d.M_mono
  M_bound := d.M_bound
  M_move := d.M_move
  M_lower := d.M_lower
def bot {α : Type} (sz : Nat) (E : List Nat) : Kd α where
  sz := sz
  E := E
  K := fun _ _ _ => False
  M := fun _ _ _ _ _ => False
  K_len := fun h => h.elim
  K_one := fun h => h.elim
  K_below := fun _ h => h
  K_of_M := fun h => h
  M_mono := fun _ h => h
  M_bound := fun h => h
  M_move := fun _ h => h
  M_lower := fun _ h => h
def upto {α : Type} (F : Kd α → Kd α) (sz : Nat) (E : List Nat) : Nat → Kd α
  | 0 => bot sz E
  | n + 1 => F (upto F sz E n)
theorem zeu {α : Type} {d : Kd α} {w : World} {A : Option Addr} {n : Nat} {xs : List α} (h : d.C w A n xs) (z : α) (i : Int) (h0 : 0 ≤ i) (h1 : i < n) :
    ∃ ad c, A = some ad ∧ c.length = d.sz ∧ d.K w (xs.getD i.toNat z) c ∧ ∀ j u, c[j]? = some u → w.cell? (ad.add (i.toNat * d.sz + j)) = some u := zcw.get_ h z i h0 h1
theorem zje {α : Type} {d : Kd α} {e base : Nat} {ok okp : Nat → Prop} {W w1 : World} {v v1 : Value} {xs : List α} {p : α} {inner cs : List Value} (h0 : ∀ k, v.ownBlock = some k → ok k) (hr : Reps (d.M W base (fun k => ok k ∧ some k ≠ v.ownBlock)) d.sz xs inner) (hp : d.M W base okp p cs) (hokp : ∀ k, okp k → ok k ∧ some k ≠ v.ownBlock) (hfresh : ∀ k, W.heap.size ≤ k → ok k)
    (hown : w1.ownsRow base e d.sz v1 (xs.length + 1) (inner ++ cs)) (hg : W.grownBy w1 v.ownBlock) (hat : v1.ownBlock = v.ownBlock ∨ ∃ b, v1.ownBlock = some b ∧ W.heap.size ≤ b) : d.R e w1 base ok v1 (xs ++ [p]) := by
  have hne : ∀ k, some k ≠ v.ownBlock → k < W.heap.size → some k ≠ v1.ownBlock := by
    intro k hk hlt
    rcases hat with hat | ⟨b, hb, hle⟩
    · rw [hat]; exact hk
    · rw [hb]
      intro he
      injection he with he
      omega
  have step : ∀ {q : α} {c : List Value} {o : Nat → Prop}, d.M W base o q c → (∀ k, o k → ok k ∧ some k ≠ v.ownBlock) → d.M w1 base (fun k => ok k ∧ some k ≠ v1.ownBlock) q c := by
    intro q c o hq ho
    have h1 := d.M_move (w1 := w1) (fun k hk => hg.block k hk.2.2.1 (ho k hk.1).2) (d.M_bound hq)
    exact d.M_mono (fun k hk => ⟨(ho k hk.1).1, hne k (ho k hk.1).2 hk.2.2.1⟩) h1
  refine ⟨fun k hk => ?_, inner ++ cs, by rw [List.length_append, List.length_singleton]; exact hown, ?_⟩
  · rcases hat with hat | ⟨b, hb, hle⟩
    · exact h0 k (hat ▸ hk)
    · rw [hb] at hk
      injection hk with hk
      exact hfresh k (by omega)
  · exact (hr.imp_ (fun _ _ hq => step hq (fun _ hk => hk))).snoc (step hp hokp) (d.K_len (d.K_of_M hp))
section
variable {P : Program} {ops : Array Oper} {rest : List Oper} {o : Oper} {a : Act} {Q : Exit → Act → World → Prop} {α : Type}
theorem zdd (d : Kd α) {w0 W : World} (base : Nat) (hgd : o.guard = none) (s x : Operand) (t e : TypeId) (z : Value) (bytes : Nat)
    (ho : o.op = .call { callee := .builtin .append, args := #[s, x], argTypes := #[t, t] })
    (ht : P.underlying t = some (.slice e)) (hinfo : (P.info? e).map (fun i => (i.zero, i.size, i.bytes)) = some (some z, d.sz, bytes)) (hz : z.cells.size = d.sz) (hs0 : 0 < d.sz) (hb0 : 0 < bytes)
    (v : Value) (xs : List α) (p : α) (cs : List Value) (ok okp : Nat → Prop) (hs : a.eval s = v) (hx : a.eval x = .slice (some ⟨W.heap.size, 0, none⟩) 1 1) (hp : d.M W base okp p cs) (hokp : ∀ k, okp k → ok k ∧ some k ≠ v.ownBlock) (hfresh : ∀ k, W.heap.size ≤ k → ok k)
    (HO : d.R e W base ok v xs) (HB : Below base w0 W) (hbase : base ≤ W.heap.size) (hl : (xs.length + 1) * bytes ≤ 140737488355328)
    (h : ∀ v1 w1, d.R e w1 base ok v1 (xs ++ [p]) → Below base w0 w1 → W.grownBy w1 v.ownBlock → (v1.ownBlock = v.ownBlock ∨ ∃ b, v1.ownBlock = some b ∧ W.heap.size ≤ b) → wpList P ops Q rest (a.put o.dst v1) w1) :
    wpList P ops Q (o :: rest) a (W.alloc (.cells cs.toArray e)) := by
  obtain ⟨h0, inner, hown, hr⟩ := HO
  refine zhx base hgd s x t e z d.sz bytes ho ht hinfo hz hs0 hb0 v xs.length inner cs hs hx (d.K_len (d.K_of_M hp)) (d.K_one (d.K_of_M hp)) hown HB hbase hl ?_
  intro v1 w1 hown1 hb1 hg1 hat1
  exact h v1 w1 (zje h0 hr hp hokp hfresh hown1 hg1 hat1) hb1 hg1 hat1
end
section
variable {P : Program} {ops : Array Oper} {o : Oper} {a : Act} {Q : Exit → Act → World → Prop} {Kc : Act → World → Prop} {α : Type}
theorem zj1 (d : Kd α) {w0 W : World} (base : Nat) (hw : Region.wanted o (yielded ops a.tmps) = true) (s x : Operand) (t e : TypeId) (z : Value) (bytes : Nat)
    (ho : o.op = .call { callee := .builtin .append, args := #[s, x], argTypes := #[t, t] })
    (ht : P.underlying t = some (.slice e)) (hinfo : (P.info? e).map (fun i => (i.zero, i.size, i.bytes)) = some (some z, d.sz, bytes)) (hz : z.cells.size = d.sz) (hs0 : 0 < d.sz) (hb0 : 0 < bytes)
    (v : Value) (xs : List α) (p : α) (cs : List Value) (ok okp : Nat → Prop) (hs : a.eval s = v) (hx : a.eval x = .slice (some ⟨W.heap.size, 0, none⟩) 1 1) (hp : d.M W base okp p cs) (hokp : ∀ k, okp k → ok k ∧ some k ≠ v.ownBlock) (hfresh : ∀ k, W.heap.size ≤ k → ok k)
    (HO : d.R e W base ok v xs) (HB : Below base w0 W) (hbase : base ≤ W.heap.size) (hl : (xs.length + 1) * bytes ≤ 140737488355328)
    (h : ∀ v1 w1, d.R e w1 base ok v1 (xs ++ [p]) → Below base w0 w1 → W.grownBy w1 v.ownBlock → (v1.ownBlock = v.ownBlock ∨ ∃ b, v1.ownBlock = some b ∧ W.heap.size ≤ b) → Kc (a.put o.dst v1) w1) :
    if Region.wanted o (yielded ops a.tmps) = true then Oper.wp P o a (W.alloc (.cells cs.toArray e)) Kc Q else Kc (a.put o.dst undef) (W.alloc (.cells cs.toArray e)) := by
  obtain ⟨h0, inner, hown, hr⟩ := HO
  refine zic base hw s x t e z d.sz bytes ho ht hinfo hz hs0 hb0 v xs.length inner cs hs hx (d.K_len (d.K_of_M hp)) (d.K_one (d.K_of_M hp)) hown HB hbase hl ?_
  intro v1 w1 hown1 hb1 hg1 hat1
  exact h v1 w1 (zje h0 hr hp hokp hfresh hown1 hg1 hat1) hb1 hg1 hat1
end
theorem reps_scalar {α : Type} {enc : α → Value} (xs : List α) : Reps (fun (x : α) (cs : List Value) => cs = [enc x]) 1 xs (encs enc xs) := by
  refine ⟨by simp [encs], fun j p hj => ?_⟩
  obtain ⟨hl, hp⟩ := List.getElem?_eq_some_iff.1 hj
  have hl' : j < (encs enc xs).length := by rw [zik]; exact hl
  rw [Nat.mul_one, List.drop_eq_getElem_cons hl']
  simp [encs, hp]
theorem ziy {α : Type} {enc : α → Value} {h1 : ∀ x, (enc x).oneCell' = true} {e : Nat} {w : World} {base : Nat} {ok : Nat → Prop} {v : Value} {xs : List α} (ho : w.ownsRow base e 1 v xs.length (encs enc xs)) (hok : ∀ k, v.ownBlock = some k → ok k) : (scalar enc h1).R e w base ok v xs := ⟨hok, encs enc xs, ho, reps_scalar xs⟩
theorem own_of_R {α : Type} {enc : α → Value} {h1 : ∀ x, (enc x).oneCell' = true} {e : Nat} {w : World} {base : Nat} {ok : Nat → Prop} {v : Value} {xs : List α} (h : (scalar enc h1).R e w base ok v xs) : w.ownsRow base e 1 v xs.length (encs enc xs) := by
  obtain ⟨_, inner, ho, hr⟩ := h
  have : inner = encs enc xs := by
    apply List.ext_getElem?
    intro j
    rcases Nat.lt_or_ge j xs.length with hj | hj
    · have h2 := hr.2 j _ (List.getElem?_eq_getElem hj)
      have hl : j < inner.length := by have := hr.1; simp [scalar] at this; omega
      have h3 : (inner.drop (j * 1)).take 1 = [enc xs[j]] := h2
      rw [Nat.mul_one, List.drop_eq_getElem_cons hl] at h3
      have h4 : inner[j] = enc xs[j] := by
        have h5 := congrArg List.head? h3
        rw [List.take_succ_cons] at h5
        exact Option.some.inj h5
      rw [List.getElem?_eq_getElem hl, h4]
      simp [encs, List.getElem?_eq_getElem hj]
    · have h3 : inner.length = xs.length := by have := hr.1; simp [scalar] at this; omega
      rw [List.getElem?_eq_none (by omega), List.getElem?_eq_none (by rw [zik]; omega)]
  rw [← this]
  exact ho
theorem zhl {α : Type} {enc : α → Value} {d : α} {h1 : ∀ x, (enc x).oneCell' = true} {w : World} {A : Option Addr} {n : Nat} {xs : List α} (h : (scalar enc h1).C w A n xs) : zf4 enc d w A n xs := by
  refine ⟨h.1, h.2.1, fun hn => ?_⟩
  obtain ⟨ad, e, hc⟩ := h.2.2 hn
  refine ⟨ad, e, fun j hj => ?_⟩
  have hl : j < xs.length := by have := h.1; omega
  obtain ⟨c, _, hK, hcell⟩ := hc j _ (List.getElem?_eq_getElem hl)
  have hK' : c = [enc xs[j]] := hK
  subst hK'
  have := hcell 0 _ rfl
  simpa [scalar, List.getD_eq_getElem?_getD, List.getElem?_eq_getElem hl] using this
end Kd
namespace Kd
section
variable {α : Type} {F : Kd α → Kd α} {sz : Nat} {E : List Nat} {hs : ∀ n, (upto F sz E n).sz = sz} {hE : ∀ n q, q ∈ (upto F sz E n).E → q ∈ E}
end
end Kd
namespace Kd
theorem zby {α : Type} {d : Kd α} {e base : Nat} {ok : Nat → Prop} {W w1 : World} {u v v1 : Value} {xs : List α} (h : d.R e W base (fun k => ok k ∧ some k ≠ v.ownBlock) u xs) (hg : W.grownBy w1 v.ownBlock) (hat : v1.ownBlock = v.ownBlock ∨ ∃ b, v1.ownBlock = some b ∧ W.heap.size ≤ b) : d.R e w1 base (fun k => ok k ∧ some k ≠ v1.ownBlock) u xs := by
  refine zba (R_move (zcz h) (fun k hk => hg.block k hk.2.2.1 hk.1.2)) (fun k hk => ⟨hk.1.1, ?_⟩)
  rcases hat with hat | ⟨b, hb, hle⟩
  · rw [hat]; exact hk.1.2
  · rw [hb]
    intro he
    injection he with he
    have := hk.2.2.1
    omega
theorem zdk {α : Type} {d : Kd α} {e base : Nat} {ok : Nat → Prop} {w : World} {u : Value} {xs : List α} (h : d.R e w base ok u xs) : d.R e w base (fun k => ok k ∧ some k ≠ (Value.slice none 0 0).ownBlock) u xs := zba h (fun k hk => ⟨hk, by simp [Value.ownBlock]⟩)
end Kd
namespace Kd
section
variable {α β : Type} {d : Kd α} {d' : Kd β} {e e' : Nat} {w w1 W : World} {base b b' : Nat} {ok ok' okv oku : Nat → Prop} {v u : Value} {xs : List α} {ys : List β}
theorem zbn (h : d.R e w base ok v xs) : d.R e w.drew base ok v xs := zbc h (za4 (Below.refl _ _))
theorem zb0 (h : d.R e w base ok v xs) (m : Nat) : d.R e (w.drewN m) base ok v xs := zbc h (zav (Below.refl _ _) m)
theorem R_reads' {A : Option Addr} {n c : Nat} (h : d.R e w base ok (.slice A n c) xs) : n = xs.length ∧ n ≤ c ∧ d.C w A xs.length xs := by
  obtain ⟨A', c', he, hl, hr⟩ := zds h
  injection he with h1 h2 h3
  subst h1
  exact ⟨h2, by omega, hr⟩
theorem R_lt (h : d.R e w base ok v xs) : ∀ k, v.ownBlock = some k → k < w.heap.size := by
  obtain ⟨inner, ho⟩ := R_own h
  exact own_lt ho
theorem zcj (h : d.R e w base ok v xs) : ∀ k, v.ownBlock = some k → base ≤ k := by
  obtain ⟨inner, ho⟩ := R_own h
  exact zd4 ho
theorem zgw (h : d.R e w base ok v xs) {g : Nat} (hok : ∀ k, ok k → k ≠ g) : some g ≠ v.ownBlock := fun e => hok g (h.1 g e.symm) rfl
theorem R_form (h : d.R e w base ok v xs) (hp : 0 < xs.length) : ∃ g cap, v = .slice (some ⟨g, 0, none⟩) xs.length cap ∧ base ≤ g ∧ g < w.heap.size ∧ ∃ cells, w.heap[g]? = some (.cells cells e (0, 0)) := by
  obtain ⟨inner, ho⟩ := R_own h
  obtain ⟨g, cap, he, hb, hl⟩ := ho.form hp
  obtain ⟨cells, hc⟩ := zgo ho g (by rw [he]; simp [Value.ownBlock])
  exact ⟨g, cap, he, hb, hl, cells, hc⟩
end
section
variable {w W : World} {A : Option Addr} {n : Nat}
theorem zek {k : IntKind} {xs : List Int} (h : (Kd.int k).C w A n xs) (i : Int) (h0 : 0 ≤ i) (h1 : i < n) : ∃ ad, A = some ad ∧ w.cell? (ad.add i.toNat) = some (.int k (rd xs i)) :=
  zf4.at_ (zhl (enc := Value.int k) (d := (0 : Int)) (h1 := fun _ => rfl) h) i h0 h1
theorem zf5 {xs : List Bool} (h : Kd.bool.C w A n xs) (i : Int) (h0 : 0 ≤ i) (h1 : i < n) : ∃ ad, A = some ad ∧ w.cell? (ad.add i.toNat) = some (.bool (rdOf false xs i)) :=
  zf4.at_ (zhl (enc := Value.bool) (d := false) (h1 := fun _ => rfl) h) i h0 h1
theorem zff {xs : List ByteArray} (h : Kd.string.C w A n xs) (i : Int) (h0 : 0 ≤ i) (h1 : i < n) : ∃ ad, A = some ad ∧ w.cell? (ad.add i.toNat) = some (.string (rdOf ByteArray.empty xs i)) :=
  zf4.at_ (zhl (enc := Value.string) (d := ByteArray.empty) (h1 := fun _ => rfl) h) i h0 h1
variable {α : Type} {enc : α → Value} {h1 : ∀ x, (enc x).oneCell' = true} {e base g cap : Nat} {ok : Nat → Prop} {xs : List α}
theorem R_cell (d : α) (h : (scalar enc h1).R e W base ok (.slice (some ⟨g, 0, none⟩) xs.length cap) xs) (i : Int) (h0 : 0 ≤ i) (hi : i < xs.length) : W.cell? ⟨g, i.toNat, none⟩ = some (enc (rdOf d xs i)) ∧ W.frozen? ⟨g, i.toNat, none⟩ = false := own_at_of (own_of_R h) i h0 hi
theorem R_put (h : (scalar enc h1).R e W base ok (.slice (some ⟨g, 0, none⟩) xs.length cap) xs) (i : Int) (x : α) : (scalar enc h1).R e (W.setCell ⟨g, i.toNat, none⟩ (enc x)) base ok (.slice (some ⟨g, 0, none⟩) xs.length cap) (xs.set i.toNat x) ∧ W.grownBy (W.setCell ⟨g, i.toNat, none⟩ (enc x)) (some g) := by
  obtain ⟨ho, hg⟩ := own_store_of (own_of_R h) i x
  exact ⟨ziy (by rw [List.length_set]; exact ho) h.1, hg⟩
end
section
variable {P : Program} {ops : Array Oper} {rest : List Oper} {o : Oper} {a : Act} {Q : Exit → Act → World → Prop}
theorem event_run {W w1 : World} {v : Value} (hgd : o.guard = none) (hrun : (execOp a.eval o).run P W = .ok (.value v) w1) (h : wpList P ops Q rest (a.put o.dst v) w1) : wpList P ops Q (o :: rest) a W := by
  refine wpList_plain hgd fun K hK => ?_
  unfold Oper.wp
  rw [hrun]
  exact hK _ _ h
variable {α : Type}
theorem R_lit (d : Kd α) {w0 W : World} (base e : Nat) (hgd : o.guard = none) {N : Tmp} (_hd : o.dst = some N) {xs : List α} {inner : List Value} {ok okp : Nat → Prop}
    (hrun : (execOp a.eval o).run P W = .ok (.value (.slice (some ⟨W.heap.size, 0, none⟩) xs.length xs.length)) (W.alloc (.cells inner.toArray e)))
    (hrep : Reps (d.M W base okp) d.sz xs inner) (hok : ∀ k, okp k → ok k) (hfresh : ok W.heap.size) (HB : Below base w0 W) (hbase : base ≤ W.heap.size) (hm : xs.length ≤ 9223372036854775807)
    (h : ∀ v1 w1, d.R e w1 base ok v1 xs → Below base w0 w1 → W.grownBy w1 none → (∃ b, v1.ownBlock = some b ∧ W.heap.size ≤ b) → wpList P ops Q rest (a.put o.dst v1) w1) : wpList P ops Q (o :: rest) a W := by
  refine event_run hgd hrun (h _ _ ⟨fun k hk => ?_, inner, ?_, ?_⟩ (HB.alloc hbase _) (World.grownBy_alloc W _ none) ⟨W.heap.size, by simp [Value.ownBlock], Nat.le_refl _⟩)
  · have : W.heap.size = k := by simpa [Value.ownBlock] using hk
    subst this
    exact hfresh
  · have h2 := World.ownsRow_lit (base := base) (e := e) (size := d.sz) W inner.toArray xs.length hbase (by simpa [maxLen] using hm) (by simpa using hrep.1)
    simpa using h2
  · refine hrep.imp_ (fun p c hp => d.M_mono (fun k hk => ⟨hok k hk.1, fun he => ?_⟩) (M_below (d.M_bound hp) (za2 (Below.refl _ _) _)))
    have h3 : k = W.heap.size := by simpa [Value.ownBlock] using he
    have := hk.2.2.1
    omega
theorem reps_made {α : Type} {R : α → List Value → Prop} {z : Value} {size : Nat} {z0 : α} (hz : z.cells.size = size) (hs : 0 < size) (h0 : R z0 z.cells.toList) (m : Nat) : Reps R size (List.replicate m z0) (madeCells z.cells (m * size)).toList := by
  refine ⟨by simp [size_madeCells], fun j p hj => ?_⟩
  obtain ⟨hjl, hp⟩ := List.getElem?_eq_some_iff.1 hj
  have hjm : j < m := by simpa using hjl
  have hp' : z0 = p := by simpa using hp
  subst hp'
  have hle : j * size + size ≤ m * size := by rw [← Nat.succ_mul]; exact Nat.mul_le_mul_right _ hjm
  have : ((madeCells z.cells (m * size)).toList.drop (j * size)).take size = z.cells.toList := by
    apply List.ext_getElem
    · simp [size_madeCells, hz]
      omega
    · intro i h1 h2
      have hi : i < size := by rw [Array.length_toList, hz] at h2; exact h2
      have hmod : (j * size + i) % size = i := by
        rw [Nat.mul_comm, Nat.mul_add_mod]
        exact Nat.mod_eq_of_lt hi
      simp [madeCells, hz, hmod]
      rw [getElem!_pos z.cells i (by omega)]
  rw [this]
  exact h0
theorem R_make (d : Kd α) {w0 W : World} (base e : Nat) (hgd : o.guard = none) {N : Tmp} (hd : o.dst = some N) (t : TypeId) (x y : Operand) (ho : o.op = .makeSlice t x y) (n : Int) (hx : a.eval x = .int .i64 n) (hy : a.eval y = .int .i64 n)
    (ht : P.underlying t = some (.slice e)) (z : Value) (bytes : Nat) (hinfo : (P.info? e).map (fun i => (i.zero, i.size, i.bytes)) = some (some z, d.sz, bytes)) (hz : z.cells.size = d.sz) (hs0 : 0 < d.sz) (hb0 : 0 < bytes)
    (z0 : α) {ok okp : Nat → Prop} (hzero : d.M W base okp z0 z.cells.toList) (hok : ∀ k, okp k → ok k) (hfresh : ok W.heap.size) (h0 : 0 ≤ n) (hl : n.toNat * bytes ≤ 281474976710656) (HB : Below base w0 W) (hbase : base ≤ W.heap.size)
    (h : ∀ v1 w1, d.R e w1 base ok v1 (List.replicate n.toNat z0) → Below base w0 w1 → W.grownBy w1 none → (∃ b, v1.ownBlock = some b ∧ W.heap.size ≤ b) → wpList P ops Q rest (a.put o.dst v1) w1) : wpList P ops Q (o :: rest) a W := by
  obtain ⟨m, rfl⟩ := Int.eq_ofNat_of_zero_le h0
  simp only [Int.toNat_natCast] at hl h
  obtain ⟨i0, hi, hzz⟩ := Option.map_eq_some_iff.1 hinfo
  simp only [Prod.mk.injEq] at hzz
  obtain ⟨hz0, hz1, hz2⟩ := hzz
  have hm : m ≤ 281474976710656 := Nat.le_trans (Nat.le_mul_of_pos_right _ hb0) hl
  have hr := run_make (P := P) W t e i0 z ht hi hz0 .i64 .i64 (m : Int) (m : Int) (by omega) (by omega)
    (by
      have h3 : ((i0.bytes * m : Nat) : Int) ≤ 281474976710656 := by rw [hz2, Nat.mul_comm]; omega
      rwa [Int.natCast_mul] at h3) (by omega)
  simp only [Int.toNat_natCast] at hr
  rw [hz1] at hr
  refine R_lit d base e hgd hd (xs := List.replicate m z0) (inner := (madeCells z.cells (m * d.sz)).toList) (okp := okp) (ok := ok) ?_ (reps_made hz hs0 hzero m) hok hfresh HB hbase (by simp; omega) h
  simp [execOp, ho, hx, hy, hr]
end
end Kd
section
variable {P : Program}
theorem cut_to (t e : TypeId) (kh : IntKind) {i : TypeInfo} (ht : P.underlying t = some (.slice e)) (hi : P.info? e = some i) (A : Option Addr) (n c : Nat) (j : Int) (h0 : 0 ≤ j) (hm : j ≤ n) (hc : n ≤ c) :
    ∀ W : World, (Instr.slice t (.slice A n c) none (some (.int kh j)) none).run P W = .ok (.slice A j.toNat c) W := by
  intro W
  have hel : P.elem t = e := by simp [Program.elem, ht]
  have hu : P.underlying t = some (.slice (P.elem t)) := by rw [hel]; exact ht
  have ha : (A.map fun x => x.add 0) = A := by cases A <;> simp [Addr.add]
  rw [run_slice_h W t A n c hu kh j h0 (by omega), hel]
  simp [sizeOf, typeInfo, hi, sliced, Result.andThen, ha]
theorem zeb (t e : TypeId) (kl : IntKind) {i : TypeInfo} (ht : P.underlying t = some (.slice e)) (hi : P.info? e = some i) (size : Nat) (hsz : i.size = size) (A : Option Addr) (n c : Nat) (j : Int) (h0 : 0 ≤ j) (hm : j ≤ n) :
    ∀ W : World, (Instr.slice t (.slice A n c) (some (.int kl j)) none none).run P W = .ok (.slice (if c = j.toNat then A else A.map (·.add (j.toNat * size))) (n - j.toNat) (c - j.toNat)) W := by
  intro W
  have hel : P.elem t = e := by simp [Program.elem, ht]
  have hu : P.underlying t = some (.slice (P.elem t)) := by rw [hel]; exact ht
  rw [run_slice_l W t A n c hu kl j h0 hm, hel]
  simp [sizeOf, typeInfo, hi, hsz, sliced, Result.andThen]
end
def QRow (w : World) (base : Nat) (e : TypeId) (size : Nat) (v : Value) (n : Nat) (xs : List Value) : Prop :=
  xs.length = n * size ∧
  ((n = 0 ∧ ∃ A, v = .slice A 0 0 ∧ ∀ a, A = some a → base ≤ a.block ∧ ∃ cur, w.heap[a.block]? = some (.cells cur e (0, 0))) ∨
   ∃ g off cap cur, v = .slice (some ⟨g, off * size, none⟩) n cap ∧ base ≤ g ∧ w.heap[g]? = some (.cells cur e (0, 0)) ∧ n ≤ cap ∧ off + cap ≤ maxLen ∧ cur.size = (off + cap) * size ∧ (cur.toList.drop (off * size)).take (n * size) = xs)
section
variable {w w1 : World} {base n size : Nat} {e : TypeId} {v : Value} {xs : List Value}
theorem zja (h : w.ownsRow base e size v n xs) : QRow w base e size v n xs := by
  obtain ⟨h1, h2⟩ := h
  refine ⟨h1, ?_⟩
  rcases h2 with ⟨rfl, h0⟩ | ⟨g, cap, cur, rfl, hb, hh, hnc, hcm, hcs, ht⟩
  · exact .inl ⟨h0, none, rfl, fun a ha => by cases ha⟩
  · exact .inr ⟨g, 0, cap, cur, by rw [Nat.zero_mul], hb, hh, hnc, by rw [Nat.zero_add]; exact hcm, by rw [Nat.zero_add]; exact hcs, by rw [Nat.zero_mul, List.drop_zero]; exact ht⟩
theorem q_move (h : QRow w base e size v n xs) (hm : ∀ k, v.ownBlock = some k → w1.heap[k]? = w.heap[k]?) : QRow w1 base e size v n xs := by
  obtain ⟨h1, h2⟩ := h
  refine ⟨h1, ?_⟩
  rcases h2 with ⟨h0, A, rfl, hA⟩ | ⟨g, off, cap, cur, rfl, hg, hh, r⟩
  · refine .inl ⟨h0, A, rfl, fun a ha => ?_⟩
    obtain ⟨hb, cur, hc⟩ := hA a ha
    subst ha
    exact ⟨hb, cur, (hm a.block (by simp [Value.ownBlock])).trans hc⟩
  · exact .inr ⟨g, off, cap, cur, rfl, hg, (hm g (by simp [Value.ownBlock])).trans hh, r⟩
theorem zf9 (h : QRow w base e size v n xs) (k : Nat) (hk : v.ownBlock = some k) : base ≤ k ∧ ∃ cells, w.heap[k]? = some (.cells cells e (0, 0)) := by
  rcases h.2 with ⟨_, A, rfl, hA⟩ | ⟨g, off, cap, cur, rfl, hg, hh, r⟩
  · cases A with
    | none => simp [Value.ownBlock] at hk
    | some a =>
      have : a.block = k := by simpa [Value.ownBlock] using hk
      subst this
      exact hA a rfl
  · have : g = k := by simpa [Value.ownBlock] using hk
    subst this
    exact ⟨hg, cur, hh⟩
theorem q_lt (h : QRow w base e size v n xs) (k : Nat) (hk : v.ownBlock = some k) : k < w.heap.size := by
  obtain ⟨_, cells, hc⟩ := zf9 h k hk
  exact (Array.getElem?_eq_some_iff.1 hc).1
theorem q_lower {base' : Nat} (h : QRow w base e size v n xs) (hb : base' ≤ base) : QRow w base' e size v n xs := by
  obtain ⟨h1, h2⟩ := h
  refine ⟨h1, ?_⟩
  rcases h2 with ⟨h0, A, rfl, hA⟩ | ⟨g, off, cap, cur, rfl, hg, r⟩
  · exact .inl ⟨h0, A, rfl, fun a ha => ⟨Nat.le_trans hb (hA a ha).1, (hA a ha).2⟩⟩
  · exact .inr ⟨g, off, cap, cur, rfl, Nat.le_trans hb hg, r⟩
theorem q_slice (h : QRow w base e size v n xs) : ∃ A c, v = .slice A n c ∧ n ≤ c := by
  rcases h.2 with ⟨h0, A, rfl, _⟩ | ⟨g, off, cap, cur, rfl, hg, hh, hnc, r⟩
  · exact ⟨A, 0, by rw [h0], by omega⟩
  · exact ⟨_, cap, rfl, hnc⟩
theorem q_max (h : QRow w base e size v n xs) : n ≤ 9223372036854775807 := by
  rcases h.2 with ⟨h0, _⟩ | ⟨g, off, cap, cur, rfl, hg, hh, hnc, hm, r⟩
  · omega
  · simp only [maxLen] at hm
    omega
theorem add_at (g o j : Nat) : (⟨g, o, none⟩ : Addr).add j = ⟨g, o + j, none⟩ := by unfold Addr.add; split <;> simp_all
theorem q_cells {A : Option Addr} {c : Nat} (h : QRow w base e size (.slice A n c) n xs) (hn : 0 < n) : ∃ ad, A = some ad ∧ ∀ j u, xs[j]? = some u → w.cell? (ad.add j) = some u := by
  rcases h.2 with ⟨h0, _⟩ | ⟨g, off, cap, cur, he, hg, hh, hnc, hm, hcs, ht⟩
  · omega
  · injection he with ha _ hc
    subst ha
    refine ⟨_, rfl, fun j u hu => ?_⟩
    rw [add_at, cell_of_row w g _ cur e (0, 0) hh]
    rw [← ht, List.getElem?_take] at hu
    split at hu
    · rw [List.getElem?_drop] at hu
      rw [← Array.getElem?_toList]
      exact hu
    · cases hu
theorem q_drop {A : Option Addr} {c k : Nat} (h : QRow w base e size (.slice A n c) n xs) (hk : k ≤ n) : QRow w base e size (.slice (if c = k then A else A.map (·.add (k * size))) (n - k) (c - k)) (n - k) (xs.drop (k * size)) := by
  obtain ⟨h1, h2⟩ := h
  refine ⟨by rw [List.length_drop, h1, Nat.sub_mul], ?_⟩
  rcases h2 with ⟨h0, A', he, hA⟩ | ⟨g, off, cap, cur, he, hb, hh, hnc, hcm, hcs, ht⟩
  · injection he with ha hb hc
    subst ha; subst hc
    have hk0 : k = 0 := by omega
    subst hk0
    exact .inl ⟨by omega, A, by rw [if_pos rfl, h0], hA⟩
  · injection he with ha _ hc
    subst ha; subst hc
    by_cases hck : c = k
    · rw [if_pos hck]
      refine .inl ⟨by omega, some ⟨g, off * size, none⟩, ?_, fun a ha => ?_⟩
      · rw [show n - k = 0 by omega, show c - k = 0 by omega]
      · injection ha with ha
        subst ha
        exact ⟨hb, cur, hh⟩
    · rw [if_neg hck]
      refine .inr ⟨g, off + k, c - k, cur, ?_, hb, hh, by omega, by omega, by rw [hcs]; congr 1; omega, ?_⟩
      · rw [Option.map_some, add_at, Nat.add_mul]
      · rw [← ht, List.drop_take, List.drop_drop, Nat.add_mul, Nat.sub_mul]
theorem zgh {g : Nat} : ∀ (vs : List Value) (o : Nat) {w : World} (k : Nat), k ≠ g → (w.setCells g o vs).heap[k]? = w.heap[k]?
  | [], _, _, _, _ => rfl
  | v :: r, o, w, k, hk => by
    rw [World.setCells, zgh r (o + 1) k hk]
    exact Below.heap_setCell w ⟨g, o, none⟩ v k hk
theorem zfq (g : Nat) : ∀ (vs : List Value) (o : Nat) (w : World), (w.setCells g o vs).os = w.os ∧ (w.setCells g o vs).tape = w.tape ∧ (w.setCells g o vs).output = w.output ∧ (w.setCells g o vs).heap.size = w.heap.size
  | [], _, _ => ⟨rfl, rfl, rfl, rfl⟩
  | v :: r, o, w => by
    obtain ⟨h1, h2, h3, h4⟩ := zfq g r (o + 1) (w.setCell ⟨g, o, none⟩ v)
    rw [World.setCells]
    exact ⟨h1, h2, h3, by rw [h4]; simp [World.setCell]⟩
theorem zgi {g : Nat} {e : TypeId} : ∀ (vs : List Value) (o : Nat) (w : World) (cur : Array Value), w.heap[g]? = some (.cells cur e (0, 0)) → o + vs.length ≤ cur.size →
    ∃ cur', (w.setCells g o vs).heap[g]? = some (.cells cur' e (0, 0)) ∧ cur'.size = cur.size ∧ cur'.toList = cur.toList.take o ++ vs ++ cur.toList.drop (o + vs.length)
  | [], o, w, cur, h, _ => ⟨cur, h, rfl, by simp⟩
  | v :: r, o, w, cur, h, hl => by
    have h2 := zg0 h o v
    simp only [List.length_cons] at hl
    obtain ⟨cur', h3, h4, h5⟩ := zgi r (o + 1) (w.setCell ⟨g, o, none⟩ v) _ h2 (by simp; omega)
    refine ⟨cur', h3, by rw [h4]; simp, ?_⟩
    rw [h5, Array.toList_setIfInBounds]
    have ho : o < cur.toList.length := by rw [Array.length_toList]; omega
    rw [List.take_set, List.drop_set_of_lt (by omega)]
    simp only [List.length_cons]
    rw [show o + 1 + r.length = o + (r.length + 1) by omega]
    congr 1
    rw [List.take_succ_eq_append_getElem ho, List.set_append_right _ _ (by rw [List.length_take]; omega)]
    have ho' : o < cur.size := by omega
    simp [Nat.min_eq_left (Nat.le_of_lt ho')]
end
section
variable {P : Program}
theorem q_append (w : World) (base : Nat) (t ty e : TypeId) (i : TypeInfo) (z : Value) (size bytes : Nat) (ht : P.underlying t = some (.slice e)) (hi : P.info? e = some i) (hz : i.zero = some z)
    (hsize : i.size = size) (hby : i.bytes = bytes) (hzs : z.cells.size = size) (hsz : 0 < size)
    (v : Value) (n : Nat) (xs : List Value) (hown : QRow w base e size v n xs)
    (a : Addr) (m c : Nat) (news : List Value) (hl : news.length = m * size) (hnews : ∀ j u, news[j]? = some u → w.cell? (a.add j) = some u) (h1 : ∀ u ∈ news, u.oneCell' = true) (hm : 0 < m)
    (h63 : n + m ≤ maxLen) (hbytes : (n + m) * bytes ≤ 140737488355328) (hbase : base ≤ w.heap.size) :
    ∃ v' w', (Builtin.append_ #[t, t] ty #[v, .slice (some a) m c]).run P w = .ok v' w' ∧ QRow w' base e size v' (n + m) (xs ++ news) ∧ w.grownBy w' v.ownBlock ∧ (v'.ownBlock = v.ownBlock ∨ ∃ b, v'.ownBlock = some b ∧ w.heap.size ≤ b) := by
  have grows : ∀ (b : Addr) (cap : Nat), cap < n + m → (∀ j u, xs[j]? = some u → w.cell? (b.add j) = some u) → v = .slice (some b) n cap →
      ∃ v' w', (Builtin.append_ #[t, t] ty #[v, .slice (some a) m c]).run P w = .ok v' w' ∧ QRow w' base e size v' (n + m) (xs ++ news) ∧ w.grownBy w' v.ownBlock ∧ (v'.ownBlock = v.ownBlock ∨ ∃ b, v'.ownBlock = some b ∧ w.heap.size ≤ b) := by
    intro b cap hcap hcells hv
    obtain ⟨v', w', hr, ho, hg⟩ := run_append_arg_grows (P := P) (w := w) t ty e i z size bytes ht hi hz hsize hby hzs hsz b n cap xs hown.1 hcells a m c news hl hnews hcap h63 hbytes
    refine ⟨v', w', by rw [hv]; exact hr, q_lower (zja ho) hbase, ⟨hg.os, hg.tape, hg.output, hg.size, fun k hk _ => hg.block k hk (by simp)⟩, ?_⟩
    obtain ⟨g', cap', he, hb, _⟩ := ho.form (by omega)
    exact .inr ⟨g', by rw [he]; simp [Value.ownBlock], hb⟩
  rcases hown.2 with ⟨h0, A, hv, hA⟩ | ⟨g, off, cap, cur, hv, hbg, hg, hnc, hcm, hcs, htake⟩
  · cases A with
    | none =>
      subst h0
      have ho : w.ownsRow base e size v 0 xs := ⟨hown.1, .inl ⟨hv, rfl⟩⟩
      obtain ⟨v', w', hr, ho', hg, _, hat⟩ := run_append_own_at (P := P) w base t ty e i z size bytes ht hi hz hsize hby hzs hsz v 0 xs ho a m c news hl hnews h1 h63 hbytes hbase
      refine ⟨v', w', hr, zja ho', hg, ?_⟩
      rcases hat with hat | hat
      · exact .inl hat
      · exact .inr ⟨_, hat, Nat.le_refl _⟩
    | some b =>
      have hx : xs = [] := List.eq_nil_of_length_eq_zero (by rw [hown.1, h0, Nat.zero_mul])
      exact grows b 0 (by omega) (fun j u hu => by rw [hx] at hu; simp at hu) (by rw [hv, h0])
  · by_cases hroom : n + m ≤ cap
    · have hfit : off * size + n * size + news.length ≤ cur.size := by
        rw [hl, hcs, ← Nat.add_mul, ← Nat.add_mul]
        exact Nat.mul_le_mul_right _ (by omega)
      subst hsize
      have hr := run_append_room_cells (P := P) (w := w) t ty e i ht hi g (off * i.size) n cap a m c news hl hnews h1 hroom
        (fun j hj => by rw [cell_of_row w g _ cur e (0, 0) hg]; simp; omega) (fun j _ => zdi hg _)
      obtain ⟨cur', h3, h4, h5⟩ := zgi news (off * i.size + n * i.size) w cur hg hfit
      obtain ⟨s1, s2, s3, s4⟩ := zfq g news (off * i.size + n * i.size) w
      refine ⟨_, _, by rw [hv]; exact hr, ⟨by rw [List.length_append, hown.1, hl, Nat.add_mul], .inr ⟨g, off, cap, cur', rfl, hbg, h3, hroom, hcm, by rw [h4, hcs], ?_⟩⟩,
        ⟨s1, s2, s3, by rw [s4]; exact Nat.le_refl _, fun k _ hk => zgh news _ k (fun he => hk (by rw [hv, he]; simp [Value.ownBlock]))⟩, .inl (by rw [hv]; rfl)⟩
      rw [h5, List.append_assoc, List.drop_append_of_le_length (by rw [List.length_take, Array.length_toList]; omega), List.drop_take]
      rw [show off * i.size + n * i.size - off * i.size = n * i.size by omega, htake]
      rw [← List.append_assoc]
      exact List.take_left' (by rw [List.length_append, hown.1, hl, Nat.add_mul])
    · refine grows ⟨g, off * size, none⟩ cap (by omega) (fun j u hu => ?_) hv
      rw [add_at, cell_of_row w g _ cur e (0, 0) hg]
      rw [← htake, List.getElem?_take] at hu
      split at hu
      · rw [List.getElem?_drop] at hu
        rw [← Array.getElem?_toList]
        exact hu
      · cases hu
end
namespace Kd
theorem reps_drop {α : Type} {R : α → List Value → Prop} {size m : Nat} {ps : List α} {cs : List Value} (h : Reps R size ps cs) : Reps R size (ps.drop m) (cs.drop (m * size)) := by
  refine ⟨by rw [List.length_drop, List.length_drop, h.1, Nat.sub_mul], fun j p hj => ?_⟩
  rw [List.getElem?_drop] at hj
  have := h.2 (m + j) p hj
  rw [List.drop_drop, ← Nat.add_mul]
  exact this
def Q {α : Type} (d : Kd α) (e : Nat) (w : World) (base : Nat) (ok : Nat → Prop) (v : Value) (xs : List α) : Prop :=
  (∀ k, v.ownBlock = some k → ok k) ∧ ∃ inner, QRow w base e d.sz v xs.length inner ∧ Reps (d.M w base (fun k => ok k ∧ some k ≠ v.ownBlock)) d.sz xs inner
section
variable {α : Type} {d : Kd α} {e : Nat} {w w1 W : World} {base : Nat} {ok ok' : Nat → Prop} {v : Value} {xs : List α}
theorem Q_of_R (h : d.R e w base ok v xs) : d.Q e w base ok v xs := by
  obtain ⟨h0, inner, ho, hr⟩ := h
  exact ⟨h0, inner, zja ho, hr⟩
theorem zd6 (h : d.Q e w base ok v xs) (hok : ∀ k, ok k → ok' k) : d.Q e w base ok' v xs := by
  obtain ⟨h0, inner, ho, hr⟩ := h
  exact ⟨fun k hk => hok k (h0 k hk), inner, ho, hr.imp_ (fun _ _ hp => d.M_mono (fun k hk => ⟨hok k hk.1, hk.2⟩) hp)⟩
theorem zh2 (h : d.Q e w base ok v xs) : d.Q e w base (fun k => ok k ∧ base ≤ k ∧ k < w.heap.size ∧ ∃ q, q ∈ e :: d.E ∧ ∃ cells, w.heap[k]? = some (.cells cells q (0, 0))) v xs := by
  obtain ⟨h0, inner, ho, hr⟩ := h
  refine ⟨fun k hk => ?_, inner, ho, hr.imp_ (fun _ _ hp => d.M_mono (fun k hk => ?_) (d.M_bound hp))⟩
  · obtain ⟨hb, cells, hc⟩ := zf9 ho k hk
    exact ⟨h0 k hk, hb, q_lt ho k hk, e, List.mem_cons_self, cells, hc⟩
  · obtain ⟨⟨h1, h2⟩, h3, h4, q, hq, hc⟩ := hk
    exact ⟨⟨h1, h3, h4, q, List.mem_cons_of_mem _ hq, hc⟩, h2⟩
theorem Q_move (h : d.Q e w base ok v xs) (hm : ∀ k, ok k → w1.heap[k]? = w.heap[k]?) : d.Q e w1 base ok v xs := by
  obtain ⟨h0, inner, ho, hr⟩ := h
  exact ⟨h0, inner, q_move ho (fun k hk => hm k (h0 k hk)), hr.imp_ (fun _ _ hp => d.M_move (fun k hk => hm k hk.1) hp)⟩
theorem Q_step (h : d.Q e w base ok v xs) (hm : ∀ k, ok k → k < w.heap.size → w1.heap[k]? = w.heap[k]?) : d.Q e w1 base ok v xs := zd6 (Q_move (zh2 h) (fun k hk => hm k hk.1 hk.2.2.1)) (fun _ hk => hk.1)
theorem ze1 (h : d.Q e w base ok v xs) (hb : Below w.heap.size w w1) : d.Q e w1 base ok v xs := Q_step h (fun k _ hk => hb.block k hk)
theorem zb8 (h : d.Q e w base ok v xs) : d.Q e w.drew base ok v xs := ze1 h (za4 (Below.refl _ _))
theorem Q_far (h : d.Q e w base ok v xs) {p : Addr} (hok : ∀ k, ok k → k ≠ p.block) (u : Value) : d.Q e (w.setCell p u) base ok v xs := Q_step h (fun k ho _ => Below.heap_setCell w p u k (hok k ho))
theorem Q_lt (h : d.Q e w base ok v xs) : ∀ k, v.ownBlock = some k → k < w.heap.size := by
  obtain ⟨_, inner, ho, _⟩ := h
  exact q_lt ho
theorem Q_base (h : d.Q e w base ok v xs) : ∀ k, v.ownBlock = some k → base ≤ k := by
  obtain ⟨_, inner, ho, _⟩ := h
  exact fun k hk => (zf9 ho k hk).1
theorem Q_away (h : d.Q e w base ok v xs) {g : Nat} (hok : ∀ k, ok k → k ≠ g) : some g ≠ v.ownBlock := fun he => hok g (h.1 g he.symm) rfl
theorem Q_ne (h : d.Q e w base ok v xs) {g t : Nat} {cells : Array Value} (hb : w.heap[g]? = some (.cells cells t (0, 0))) (ht : e ≠ t) : some g ≠ v.ownBlock := by
  obtain ⟨_, inner, ho, _⟩ := h
  intro he
  obtain ⟨_, cells', hc⟩ := zf9 ho g he.symm
  rw [hc] at hb
  injection hb with hb
  injection hb with _ hb
  exact ht hb
theorem Q_slice (h : d.Q e w base ok v xs) : ∃ A c, v = .slice A xs.length c ∧ xs.length ≤ c := by
  obtain ⟨_, inner, ho, _⟩ := h
  exact q_slice ho
theorem Q_reads' {A : Option Addr} {n c : Nat} (h : d.Q e w base ok (.slice A n c) xs) : n = xs.length ∧ n ≤ c ∧ d.C w A xs.length xs := by
  obtain ⟨_, inner, ho, hr⟩ := h
  obtain ⟨A', c', he, hl⟩ := q_slice ho
  injection he with h1 h2 h3
  subst h1; subst h2; subst h3
  refine ⟨rfl, hl, rfl, q_max ho, fun hp => ?_⟩
  obtain ⟨ad, ha, hc⟩ := q_cells ho hp
  refine ⟨ad, ha, fun j p hj => ⟨(inner.drop (j * d.sz)).take d.sz, ?_, d.K_of_M (hr.2 j p hj), fun i u hu => ?_⟩⟩
  · have hjl := (List.getElem?_eq_some_iff.1 hj).1
    have h1 : j * d.sz + d.sz ≤ inner.length := by rw [hr.1, ← Nat.succ_mul]; exact Nat.mul_le_mul_right _ hjl
    rw [List.length_take, List.length_drop]
    omega
  · refine hc _ u ?_
    rw [List.getElem?_take] at hu
    split at hu
    · rw [List.getElem?_drop] at hu
      exact hu
    · cases hu
theorem Q_drop {A : Option Addr} {k n c : Nat} (h : d.Q e w base ok (.slice A n c) xs) (hk : k ≤ xs.length) : d.Q e w base ok (.slice (if c = k then A else A.map (·.add (k * d.sz))) (n - k) (c - k)) (xs.drop k) := by
  have hn : n = xs.length := (Q_reads' h).1
  subst hn
  obtain ⟨h0, inner, ho, hr⟩ := h
  have hb : (Value.slice (if c = k then A else A.map (·.add (k * d.sz))) (xs.length - k) (c - k)).ownBlock = (Value.slice A xs.length c).ownBlock := by
    split
    · cases A <;> rfl
    · cases A with
      | none => rfl
      | some a => simp [Value.ownBlock]; unfold Addr.add; split <;> rfl
  refine ⟨fun j hj => h0 j (by rw [← hb]; exact hj), inner.drop (k * d.sz), ?_, ?_⟩
  · rw [List.length_drop]
    exact q_drop ho hk
  · rw [hb]
    exact reps_drop hr
theorem Q_appended {okp : Nat → Prop} {v1 : Value} {p : α} {inner cs : List Value} (h0 : ∀ k, v.ownBlock = some k → ok k) (hr : Reps (d.M W base (fun k => ok k ∧ some k ≠ v.ownBlock)) d.sz xs inner) (hp : d.M W base okp p cs) (hokp : ∀ k, okp k → ok k ∧ some k ≠ v.ownBlock) (hfresh : ∀ k, W.heap.size ≤ k → ok k)
    (hown : QRow w1 base e d.sz v1 (xs.length + 1) (inner ++ cs)) (hg : W.grownBy w1 v.ownBlock) (hat : v1.ownBlock = v.ownBlock ∨ ∃ b, v1.ownBlock = some b ∧ W.heap.size ≤ b) : d.Q e w1 base ok v1 (xs ++ [p]) := by
  have hne : ∀ k, some k ≠ v.ownBlock → k < W.heap.size → some k ≠ v1.ownBlock := by
    intro k hk hlt
    rcases hat with hat | ⟨b, hb, hle⟩
    · rw [hat]; exact hk
    · rw [hb]
      intro he
      injection he with he
      omega
  have step : ∀ {q : α} {c : List Value} {o : Nat → Prop}, d.M W base o q c → (∀ k, o k → ok k ∧ some k ≠ v.ownBlock) → d.M w1 base (fun k => ok k ∧ some k ≠ v1.ownBlock) q c := by
    intro q c o hq ho
    have h1 := d.M_move (w1 := w1) (fun k hk => hg.block k hk.2.2.1 (ho k hk.1).2) (d.M_bound hq)
    exact d.M_mono (fun k hk => ⟨(ho k hk.1).1, hne k (ho k hk.1).2 hk.2.2.1⟩) h1
  refine ⟨fun k hk => ?_, inner ++ cs, by rw [List.length_append, List.length_singleton]; exact hown, ?_⟩
  · rcases hat with hat | ⟨b, hb, hle⟩
    · exact h0 k (hat ▸ hk)
    · rw [hb] at hk
      injection hk with hk
      exact hfresh k (by omega)
  · exact (hr.imp_ (fun _ _ hq => step hq (fun _ hk => hk))).snoc (step hp hokp) (d.K_len (d.K_of_M hp))
end
section
variable {P : Program} {ops : Array Oper} {rest : List Oper} {o : Oper} {a : Act} {Q' : Exit → Act → World → Prop} {Kc : Act → World → Prop} {α : Type}
theorem Q_run (d : Kd α) {w0 W : World} (base : Nat) (t ty e : TypeId) (z : Value) (bytes : Nat)
    (ht : P.underlying t = some (.slice e)) (hinfo : (P.info? e).map (fun i => (i.zero, i.size, i.bytes)) = some (some z, d.sz, bytes)) (hz : z.cells.size = d.sz) (hs0 : 0 < d.sz) (hb0 : 0 < bytes)
    (v : Value) (xs : List α) (p : α) (cs : List Value) (ok okp : Nat → Prop) (hp : d.M W base okp p cs) (hokp : ∀ k, okp k → ok k ∧ some k ≠ v.ownBlock) (hfresh : ∀ k, W.heap.size ≤ k → ok k)
    (HO : d.Q e W base ok v xs) (HB : Below base w0 W) (hbase : base ≤ W.heap.size) (hl : (xs.length + 1) * bytes ≤ 140737488355328) :
    ∃ v1 w1, (Builtin.append_ #[t, t] ty #[v, .slice (some ⟨W.heap.size, 0, none⟩) 1 1]).run P (W.alloc (.cells cs.toArray e)) = .ok v1 w1 ∧ d.Q e w1 base ok v1 (xs ++ [p]) ∧ Below base w0 w1 ∧ W.grownBy w1 v.ownBlock ∧ (v1.ownBlock = v.ownBlock ∨ ∃ b, v1.ownBlock = some b ∧ W.heap.size ≤ b) := by
  obtain ⟨h0, inner, hown, hr⟩ := HO
  obtain ⟨i0, hi, hzz⟩ := Option.map_eq_some_iff.1 hinfo
  simp only [Prod.mk.injEq] at hzz
  obtain ⟨hz0, hz1, hz2⟩ := hzz
  have hlen : xs.length + 1 ≤ 140737488355328 := Nat.le_trans (Nat.le_mul_of_pos_right _ hb0) hl
  have hcl := d.K_len (d.K_of_M hp)
  have hq : QRow (W.alloc (.cells cs.toArray e)) base e d.sz v xs.length inner := q_move hown (fun k hk => Below.heap_alloc W _ k (q_lt hown k hk))
  obtain ⟨v1, w1, hrun, hq1, hg1, hat⟩ := q_append (P := P) (W.alloc (.cells cs.toArray e)) base t ty e i0 z d.sz bytes ht hi hz0 hz1 hz2 hz hs0 v xs.length inner hq ⟨W.heap.size, 0, none⟩ 1 1 cs (by rw [hcl, Nat.one_mul])
    (by simpa using World.news_of_block (cs := cs.toArray) (t := e) (fr := (0, 0)) (heap_alloc_new W (.cells cs.toArray e))) (d.K_one (d.K_of_M hp)) (by omega) (by simp only [maxLen]; omega) hl (by simp; omega)
  have hg : W.grownBy w1 v.ownBlock := World.grownBy.trans (World.grownBy_alloc W _ _) hg1
  have hat' : v1.ownBlock = v.ownBlock ∨ ∃ b, v1.ownBlock = some b ∧ W.heap.size ≤ b := by
    rcases hat with hat | ⟨b, hb, hle⟩
    · exact .inl hat
    · exact .inr ⟨b, hb, by rw [World.size_alloc] at hle; omega⟩
  exact ⟨v1, w1, hrun, Q_appended h0 hr hp hokp hfresh hq1 hg hat', HB.grown hg hbase (fun k hk => (zf9 hown k hk).1), hg, hat'⟩
theorem zj0 (d : Kd α) {w0 W : World} (base : Nat) (hw : Region.wanted o (yielded ops a.tmps) = true) (s x : Operand) (t e : TypeId) (z : Value) (bytes : Nat)
    (ho : o.op = .call { callee := .builtin .append, args := #[s, x], argTypes := #[t, t] })
    (ht : P.underlying t = some (.slice e)) (hinfo : (P.info? e).map (fun i => (i.zero, i.size, i.bytes)) = some (some z, d.sz, bytes)) (hz : z.cells.size = d.sz) (hs0 : 0 < d.sz) (hb0 : 0 < bytes)
    (v : Value) (xs : List α) (p : α) (cs : List Value) (ok okp : Nat → Prop) (hs : a.eval s = v) (hx : a.eval x = .slice (some ⟨W.heap.size, 0, none⟩) 1 1) (hp : d.M W base okp p cs) (hokp : ∀ k, okp k → ok k ∧ some k ≠ v.ownBlock) (hfresh : ∀ k, W.heap.size ≤ k → ok k)
    (HO : d.Q e W base ok v xs) (HB : Below base w0 W) (hbase : base ≤ W.heap.size) (hl : (xs.length + 1) * bytes ≤ 140737488355328)
    (h : ∀ v1 w1, d.Q e w1 base ok v1 (xs ++ [p]) → Below base w0 w1 → W.grownBy w1 v.ownBlock → (v1.ownBlock = v.ownBlock ∨ ∃ b, v1.ownBlock = some b ∧ W.heap.size ≤ b) → Kc (a.put o.dst v1) w1) :
    if Region.wanted o (yielded ops a.tmps) = true then Oper.wp P o a (W.alloc (.cells cs.toArray e)) Kc Q' else Kc (a.put o.dst undef) (W.alloc (.cells cs.toArray e)) := by
  obtain ⟨v1, w1, hr, h1, h2, h3, h4⟩ := Q_run (P := P) d base t o.type e z bytes ht hinfo hz hs0 hb0 v xs p cs ok okp hp hokp hfresh HO HB hbase hl
  rw [if_pos hw]
  unfold Oper.wp execOp
  simp only [ho, resolve, invoke, builtin, Sem.run_bind, Sem.run_pure, Result.andThen_ok, List.map_toArray, List.map_cons, List.map_nil, hs, hx, hr]
  exact h v1 w1 h1 h2 h3 h4
end
end Kd
namespace Kd
section
variable {α : Type} {d : Kd α} {e e' : Nat} {w w1 W : World} {base : Nat} {ok : Nat → Prop} {u v : Value} {xs : List α}
theorem zdm (h : d.R e w base ok v xs) : ∀ k, v.ownBlock = some k → ∃ cells, w.heap[k]? = some (.cells cells e (0, 0)) := by
  obtain ⟨inner, ho⟩ := R_own h
  exact fun k hk => zgo ho k hk
theorem R_over' (h : d.R e W base ok u xs) (hty : ∀ k, v.ownBlock = some k → ∃ cells, W.heap[k]? = some (.cells cells e' (0, 0))) (ht : ∀ q, q ∈ e :: d.E → q ≠ e') (hg : W.grownBy w1 v.ownBlock) : d.R e w1 base ok u xs := by
  refine zba (R_move (zcz h) (fun k hk => hg.block k hk.2.2.1 (fun he => ?_))) (fun _ hk => hk.1)
  obtain ⟨_, _, _, q, hq, cells, hc⟩ := hk
  obtain ⟨cells', hc'⟩ := hty k he.symm
  rw [hc] at hc'
  injection hc' with hc'
  injection hc' with _ hc'
  exact ht q hq hc'
theorem R_apart' (h : d.R e W base ok u xs) (hty : ∀ k, v.ownBlock = some k → ∃ cells, W.heap[k]? = some (.cells cells e' (0, 0))) (ht : ∀ q, q ∈ e :: d.E → q ≠ e') : d.R e W base (fun k => ok k ∧ some k ≠ v.ownBlock) u xs := by
  refine zba (zcz h) (fun k hk => ⟨hk.1, fun he => ?_⟩)
  obtain ⟨_, _, _, q, hq, cells, hc⟩ := hk
  obtain ⟨cells', hc'⟩ := hty k he.symm
  rw [hc] at hc'
  injection hc' with hc'
  injection hc' with _ hc'
  exact ht q hq hc'
theorem R_elder' (hu : d.R e W base ok u xs) (hbase : ∀ k, v.ownBlock = some k → W.heap.size ≤ k) (hb : Below W.heap.size W w1) : d.R e w1 base (fun k => ok k ∧ some k ≠ v.ownBlock) u xs :=
  zba (R_move (zcz hu) (fun k hk => hb.block k hk.2.2.1)) (fun k hk => ⟨hk.1, fun he => by have := hbase k he.symm; have := hk.2.2.1; omega⟩)
theorem R_new' (h : d.R e w1 W.heap.size ok v xs) (hlt : ∀ k, u.ownBlock = some k → k < W.heap.size) : d.R e w1 W.heap.size (fun k => ok k ∧ some k ≠ u.ownBlock) v xs :=
  zba (zcz h) (fun k hk => ⟨hk.1, fun he => by have := hlt k he.symm; have := hk.2.1; omega⟩)
theorem zh3 (h : d.Q e w base ok v xs) : ∀ k, v.ownBlock = some k → ∃ cells, w.heap[k]? = some (.cells cells e (0, 0)) := by
  obtain ⟨_, inner, ho, _⟩ := h
  exact fun k hk => (zf9 ho k hk).2
theorem Q_apart' (h : d.Q e W base ok u xs) (hty : ∀ k, v.ownBlock = some k → ∃ cells, W.heap[k]? = some (.cells cells e' (0, 0))) (ht : ∀ q, q ∈ e :: d.E → q ≠ e') : d.Q e W base (fun k => ok k ∧ some k ≠ v.ownBlock) u xs := by
  refine zd6 (zh2 h) (fun k hk => ⟨hk.1, fun he => ?_⟩)
  obtain ⟨_, _, _, q, hq, cells, hc⟩ := hk
  obtain ⟨cells', hc'⟩ := hty k he.symm
  rw [hc] at hc'
  injection hc' with hc'
  injection hc' with _ hc'
  exact ht q hq hc'
theorem fresh' (hlt : ∀ k, u.ownBlock = some k → k < W.heap.size) : ∀ k, W.heap.size ≤ k → some k ≠ u.ownBlock := fun k hk he => by have := hlt k he.symm; omega
theorem Q_elderB (h : d.Q e w base ok v xs) (a : Nat) (ha : w.heap.size ≤ a) : d.Q e w base (fun k => ok k ∧ k ≠ a) v xs := zd6 (zh2 h) (fun k hk => ⟨hk.1, by have := hk.2.2.1; omega⟩)
end
end Kd
theorem zha {α : Type} (a seg : List α) (o : Nat) (h : o + seg.length ≤ a.length) (q : Nat) :
    (a.take o ++ seg ++ a.drop (o + seg.length))[q]? = if q < o then a[q]? else if q < o + seg.length then seg[q - o]? else a[q]? := by
  have hl : (a.take o).length = o := by rw [List.length_take]; omega
  rw [List.append_assoc]
  by_cases h1 : q < o
  · rw [if_pos h1, List.getElem?_append_left (by omega), List.getElem?_take, if_pos h1]
  · rw [if_neg h1, List.getElem?_append_right (by omega), hl]
    by_cases h2 : q < o + seg.length
    · rw [if_pos h2, List.getElem?_append_left (by omega)]
    · rw [if_neg h2, List.getElem?_append_right (by omega), List.getElem?_drop]
      congr 1
      omega
namespace Kd
section
variable {α : Type} {d : Kd α} {e base g n cap : Nat} {ok okp : Nat → Prop} {W : World} {xs : List α}
theorem R_elem (h : d.R e W base ok (.slice (some ⟨g, 0, none⟩) n cap) xs) (z : α) (i : Int) (h0 : 0 ≤ i) (h1 : i < n) :
    ∃ c, c.length = d.sz ∧ d.M W base (fun k => ok k ∧ k ≠ g) (xs.getD i.toNat z) c ∧ (∀ j u, c[j]? = some u → W.cell? ⟨g, i.toNat * d.sz + j, none⟩ = some u) ∧ ∀ j, W.frozen? ⟨g, i.toNat * d.sz + j, none⟩ = false := by
  obtain ⟨hn, hnc, hC⟩ := R_reads' h
  obtain ⟨_, inner, ho, hr⟩ := h
  have hil : i.toNat < xs.length := by omega
  have hseg : i.toNat * d.sz + d.sz ≤ inner.length := by rw [hr.1, ← Nat.succ_mul]; exact Nat.mul_le_mul_right _ hil
  have hM := hr.2 i.toNat _ (List.getElem?_eq_getElem hil)
  refine ⟨(inner.drop (i.toNat * d.sz)).take d.sz, by rw [List.length_take, List.length_drop]; omega, ?_, fun j u hu => ?_, fun j => ?_⟩
  · rw [List.getD_eq_getElem?_getD, List.getElem?_eq_getElem hil]
    exact d.M_mono (fun k hk => ⟨hk.1, fun he => hk.2 (by rw [he]; simp [Value.ownBlock])⟩) hM
  · rw [List.getElem?_take] at hu
    split at hu
    · rw [List.getElem?_drop] at hu
      have := ho.cells (g := g) (by simp [Value.ownBlock]) _ u hu
      rwa [add_plain] at this
    · cases hu
  · obtain ⟨cells, hc⟩ := zgo ho g (by simp [Value.ownBlock])
    exact zdi hc _
theorem R_seg (h : d.R e W base ok (.slice (some ⟨g, 0, none⟩) n cap) xs) (i : Int) (h0 : 0 ≤ i) (h1 : i < n) {c seg : List Value} {j : Nat} (hcl : c.length = d.sz) (hcc : ∀ j u, c[j]? = some u → W.cell? ⟨g, i.toNat * d.sz + j, none⟩ = some u)
    (hj : j + seg.length ≤ d.sz) {x' : α} (hM : d.M W base okp x' (c.take j ++ seg ++ c.drop (j + seg.length))) (hokp : ∀ k, okp k → ok k ∧ k ≠ g) :
    d.R e (W.setCells g (i.toNat * d.sz + j) seg) base ok (.slice (some ⟨g, 0, none⟩) n cap) (xs.set i.toNat x') ∧ W.grownBy (W.setCells g (i.toNat * d.sz + j) seg) (some g) := by
  obtain ⟨hn, hnc, _⟩ := R_reads' h
  obtain ⟨hok, inner, ho, hr⟩ := h
  have hil : i.toNat < xs.length := by omega
  have hseg : i.toNat * d.sz + d.sz ≤ inner.length := by rw [hr.1, ← Nat.succ_mul]; exact Nat.mul_le_mul_right _ hil
  have hin : inner.length = n * d.sz := by rw [hr.1, hn]
  obtain ⟨ho1, ho2⟩ := ho
  rcases ho2 with ⟨hv, _⟩ | ⟨g', cap', cur, hv, hb, hh, hnc', hcm, hcs, ht⟩
  · cases hv
  injection hv with ha _ hc
  injection ha with ha
  injection ha with hg
  subst hg; subst hc
  have hfit : i.toNat * d.sz + j + seg.length ≤ cur.size := by
    have : n * d.sz ≤ cap * d.sz := Nat.mul_le_mul_right _ hnc
    omega
  obtain ⟨cur', h3, h4, h5⟩ := zgi seg (i.toNat * d.sz + j) W cur hh hfit
  obtain ⟨s1, s2, s3, s4⟩ := zfq g seg (i.toNat * d.sz + j) W
  have hfar : ∀ k, k ≠ g → (W.setCells g (i.toNat * d.sz + j) seg).heap[k]? = W.heap[k]? := fun k hk => zgh seg _ k hk
  have hcin : ∀ q, q < d.sz → c[q]? = inner[i.toNat * d.sz + q]? := by
    intro q hq
    have hq' : q < c.length := by omega
    have h6 := hcc q _ (List.getElem?_eq_getElem hq')
    rw [cell_of_row W g _ cur e (0, 0) hh] at h6
    rw [List.getElem?_eq_getElem hq', ← h6, ← ht, List.getElem?_take, if_pos (by rw [← hn]; omega), Array.getElem?_toList]
  refine ⟨⟨hok, inner.take (i.toNat * d.sz + j) ++ seg ++ inner.drop (i.toNat * d.sz + j + seg.length), ⟨?_, .inr ⟨g, cap, cur', by rw [List.length_set, hn], hb, h3, by rw [List.length_set, ← hn]; exact hnc, hcm, by rw [h4, hcs], ?_⟩⟩, ?_⟩,
    ⟨s1, s2, s3, by rw [s4]; exact Nat.le_refl _, fun k _ hk => hfar k (fun he => hk (by rw [he]))⟩⟩
  · rw [List.length_set]
    simp only [List.length_append, List.length_take, List.length_drop]
    rw [hr.1] at hseg ⊢
    omega
  · rw [List.length_set, ← hn]
    apply List.ext_getElem?
    intro q
    rw [List.getElem?_take, h5]
    rw [zha cur.toList seg (i.toNat * d.sz + j) (by rw [Array.length_toList]; omega) q, zha inner seg (i.toNat * d.sz + j) (by omega) q]
    have hcur : ∀ q, q < n * d.sz → cur.toList[q]? = inner[q]? := by
      intro q hq
      rw [← ht, List.getElem?_take, if_pos (by rw [← hn]; exact hq)]
    by_cases hq : q < n * d.sz
    · rw [if_pos hq, hcur q hq]
    · rw [if_neg hq, if_neg (by omega), if_neg (by omega), List.getElem?_eq_none (by omega)]
  · refine ⟨?_, fun m p hm => ?_⟩
    · rw [List.length_set]
      simp only [List.length_append, List.length_take, List.length_drop]
      rw [hr.1] at hseg ⊢
      omega
    · have hml : m < xs.length := by
        have := (List.getElem?_eq_some_iff.1 hm).1
        rwa [List.length_set] at this
      have hmfit : m * d.sz + d.sz ≤ inner.length := by rw [hr.1, ← Nat.succ_mul]; exact Nat.mul_le_mul_right _ hml
      have hgo : some g = (Value.slice (some ⟨g, 0, none⟩) n cap).ownBlock := by simp [Value.ownBlock]
      by_cases hmi : m = i.toNat
      · subst hmi
        rw [List.getElem?_set_self (by omega)] at hm
        injection hm with hm
        subst hm
        have hcells : ((inner.take (i.toNat * d.sz + j) ++ seg ++ inner.drop (i.toNat * d.sz + j + seg.length)).drop (i.toNat * d.sz)).take d.sz = c.take j ++ seg ++ c.drop (j + seg.length) := by
          apply List.ext_getElem?
          intro q
          rw [List.getElem?_take, List.getElem?_drop, zha inner seg _ (by omega), zha c seg j (by omega) q]
          by_cases hq : q < d.sz
          · rw [if_pos hq, hcin q hq]
            by_cases hq1 : q < j
            · rw [if_pos (by omega), if_pos hq1]
            · rw [if_neg (by omega), if_neg hq1]
              by_cases hq2 : q < j + seg.length
              · rw [if_pos (by omega), if_pos hq2]
                congr 1
                omega
              · rw [if_neg (by omega), if_neg hq2]
          · rw [if_neg hq, if_neg (by omega), if_neg (by omega), List.getElem?_eq_none (by omega)]
        rw [hcells]
        refine d.M_mono (fun k hk => ?_) (d.M_move (w1 := W.setCells g (i.toNat * d.sz + j) seg) (fun k hk => hfar k (hokp k hk).2) hM)
        exact ⟨(hokp k hk).1, fun he => (hokp k hk).2 (by rw [← hgo] at he; injection he)⟩
      · rw [List.getElem?_set_ne (by omega)] at hm
        have hold := hr.2 m p hm
        have hcells : ((inner.take (i.toNat * d.sz + j) ++ seg ++ inner.drop (i.toNat * d.sz + j + seg.length)).drop (m * d.sz)).take d.sz = (inner.drop (m * d.sz)).take d.sz := by
          apply List.ext_getElem?
          intro q
          rw [List.getElem?_take, List.getElem?_take, List.getElem?_drop, List.getElem?_drop, zha inner seg _ (by omega)]
          by_cases hq : q < d.sz
          · rw [if_pos hq, if_pos hq]
            rcases Nat.lt_or_gt_of_ne hmi with hlt | hgt
            · have : m * d.sz + d.sz ≤ i.toNat * d.sz := by rw [← Nat.succ_mul]; exact Nat.mul_le_mul_right _ hlt
              rw [if_pos (by omega)]
            · have : i.toNat * d.sz + d.sz ≤ m * d.sz := by rw [← Nat.succ_mul]; exact Nat.mul_le_mul_right _ hgt
              rw [if_neg (by omega), if_neg (by omega)]
          · rw [if_neg hq, if_neg hq]
        rw [hcells]
        refine d.M_move (fun k hk => hfar k (fun he => hk.2 (by rw [he]; exact hgo))) hold
end
end Kd
namespace Kd
section
variable {α : Type} {F : Kd α → Kd α} {sz : Nat} {E : List Nat} {hs : ∀ n, (upto F sz E n).sz = sz} {hE : ∀ n q, q ∈ (upto F sz E n).E → q ∈ E}
end
end Kd
namespace Kd
theorem zir {α : Type} {R : α → List Value → Prop} {size : Nat} {ps qs : List α} {cs ds : List Value} (h : Reps R size ps cs) (h' : Reps R size qs ds) : Reps R size (ps ++ qs) (cs ++ ds) := by
  refine ⟨by rw [List.length_append, List.length_append, h.1, h'.1, Nat.add_mul], fun j p hj => ?_⟩
  rcases Nat.lt_or_ge j ps.length with hlt | hge
  · rw [List.getElem?_append_left hlt] at hj
    have hle : j * size + size ≤ cs.length := by rw [h.1, ← Nat.succ_mul]; exact Nat.mul_le_mul_right _ hlt
    rw [List.drop_append_of_le_length (by omega), List.take_append_of_le_length (by rw [List.length_drop]; omega)]
    exact h.2 j p hj
  · rw [List.getElem?_append_right hge] at hj
    have h2 := h'.2 (j - ps.length) p hj
    have hle : ps.length * size ≤ j * size := Nat.mul_le_mul_right _ hge
    rw [List.drop_append, List.drop_eq_nil_of_le (by rw [h.1]; exact hle), List.nil_append, h.1, ← Nat.sub_mul]
    exact h2
section
variable {P : Program} {ops : Array Oper} {rest : List Oper} {o : Oper} {a : Act} {Q : Exit → Act → World → Prop} {α : Type}
theorem zb9 (d : Kd α) {Rr : α → List Value → Prop} {w0 W : World} (base : Nat) (hgd : o.guard = none) (s x : Operand) (t e : TypeId) (z : Value) (bytes : Nat)
    (ho : o.op = .call { callee := .builtin .append, args := #[s, x], argTypes := #[t, t] })
    (ht : P.underlying t = some (.slice e)) (hinfo : (P.info? e).map (fun i => (i.zero, i.size, i.bytes)) = some (some z, d.sz, bytes)) (hz : z.cells.size = d.sz) (hs0 : 0 < d.sz) (hb0 : 0 < bytes)
    (v : Value) (xs ys : List α) (A : Option Addr) (m c : Nat) (ok okp : Nat → Prop) (hs : a.eval s = v) (hx : a.eval x = .slice A m c)
    (HO : d.R e W base ok v xs) (HR : zcw Rr d.sz W A m ys) (hKM : ∀ x cs, Rr x cs → d.M W base okp x cs) (hokp : ∀ k, okp k → ok k ∧ some k ≠ v.ownBlock) (hfresh : ∀ k, W.heap.size ≤ k → ok k)
    (HB : Below base w0 W) (hbase : base ≤ W.heap.size) (hl : (xs.length + m) * bytes ≤ 140737488355328)
    (h : ∀ v1 w1, d.R e w1 base ok v1 (xs ++ ys) → Below base w0 w1 → W.grownBy w1 v.ownBlock → (v1.ownBlock = v.ownBlock ∨ ∃ b, v1.ownBlock = some b ∧ W.heap.size ≤ b) → wpList P ops Q rest (a.put o.dst v1) w1) :
    wpList P ops Q (o :: rest) a W := by
  obtain ⟨i0, hi, hzz⟩ := Option.map_eq_some_iff.1 hinfo
  simp only [Prod.mk.injEq] at hzz
  obtain ⟨hz0, hz1, hz2⟩ := hzz
  have hm : ys.length = m := HR.1
  have hlen : xs.length + m ≤ 140737488355328 := Nat.le_trans (Nat.le_mul_of_pos_right _ hb0) hl
  obtain ⟨hok, inner, hown, hr⟩ := HO
  have hrun : ∃ v1 w1, (Builtin.append_ #[t, t] o.type #[v, .slice A m c]).run P W = .ok v1 w1 ∧ d.R e w1 base ok v1 (xs ++ ys) ∧ W.grownBy w1 v.ownBlock ∧ (v1.ownBlock = v.ownBlock ∨ ∃ b, v1.ownBlock = some b ∧ W.heap.size ≤ b) := by
    rcases A with _ | ad
    · have h0 : m = 0 := by
        rcases Nat.eq_zero_or_pos m with h0 | h0
        · exact h0
        · obtain ⟨ad, h, _⟩ := HR.2.2 h0
          cases h
      subst h0
      obtain rfl : ys = [] := List.eq_nil_of_length_eq_zero hm
      refine ⟨v, W, ?_, by rw [List.append_nil]; exact ⟨hok, inner, hown, hr⟩, World.grownBy.refl W _, .inl rfl⟩
      rcases hown.2 with ⟨rfl, hn⟩ | ⟨g, cap, cur, rfl, _, _, hnc, _⟩
      · simp [Builtin.append_, run_underlying ht, sizeOf, typeInfo, hi, Builtin.lenOf, Builtin.firstCells]
      · simp [Builtin.append_, run_underlying ht, sizeOf, typeInfo, hi, Builtin.lenOf, Builtin.firstCells, hnc, storeCells]
    · obtain ⟨news, hnr, hnc⟩ := zcw.inner_ HR
      have hnM : Reps (d.M W base okp) d.sz ys news := hnr.imp_ (fun p c hp => hKM p c hp)
      have hone : ∀ u ∈ news, u.oneCell' = true := by
        intro u hu
        obtain ⟨q, hq, rfl⟩ := List.mem_iff_getElem.1 hu
        have hql : q / d.sz < ys.length := by
          rw [Nat.div_lt_iff_lt_mul hs0]
          rw [← hnM.1]
          exact hq
        have hc := hnM.2 (q / d.sz) _ (List.getElem?_eq_getElem hql)
        refine d.K_one (d.K_of_M hc) _ ?_
        rw [List.mem_iff_getElem?]
        refine ⟨q % d.sz, ?_⟩
        rw [List.getElem?_take, if_pos (Nat.mod_lt _ hs0), List.getElem?_drop, Nat.mul_comm, Nat.div_add_mod, List.getElem?_eq_getElem hq]
      obtain ⟨v1, w1, hrun, h2, hg, _, hat⟩ := run_append_own_at (P := P) W base t o.type e i0 z d.sz bytes ht hi hz0 hz1 hz2 hz hs0 v xs.length inner hown ad m c news (by rw [hnM.1, hm]) hnc hone (by simp only [maxLen]; omega) hl hbase
      have hat' : v1.ownBlock = v.ownBlock ∨ ∃ b, v1.ownBlock = some b ∧ W.heap.size ≤ b := by
        rcases hat with hat | hat
        · exact .inl hat
        · exact .inr ⟨_, hat, Nat.le_refl _⟩
      have hne : ∀ k, some k ≠ v.ownBlock → k < W.heap.size → some k ≠ v1.ownBlock := by
        intro k hk hlt
        rcases hat' with hat | ⟨b, hb, hle⟩
        · rw [hat]; exact hk
        · rw [hb]
          intro he
          injection he with he
          omega
      have step : ∀ {q : α} {c : List Value} {o : Nat → Prop}, d.M W base o q c → (∀ k, o k → ok k ∧ some k ≠ v.ownBlock) → d.M w1 base (fun k => ok k ∧ some k ≠ v1.ownBlock) q c := by
        intro q c o hq ho
        have h1 := d.M_move (w1 := w1) (fun k hk => hg.block k hk.2.2.1 (ho k hk.1).2) (d.M_bound hq)
        exact d.M_mono (fun k hk => ⟨(ho k hk.1).1, hne k (ho k hk.1).2 hk.2.2.1⟩) h1
      refine ⟨v1, w1, hrun, ⟨fun k hk => ?_, inner ++ news, by rw [List.length_append, hm]; exact h2, zir (hr.imp_ (fun _ _ hq => step hq (fun _ hk => hk))) (hnM.imp_ (fun _ _ hq => step hq hokp))⟩, hg, hat'⟩
      rcases hat' with hat | ⟨b, hb, hle⟩
      · exact hok k (hat ▸ hk)
      · rw [hb] at hk
        injection hk with hk
        exact hfresh k (by omega)
  obtain ⟨v1, w1, hr1, h1, hg, hat⟩ := hrun
  refine wpList_plain hgd fun K hK => ?_
  unfold Oper.wp execOp
  simp only [ho, resolve, invoke, builtin, Sem.run_bind, Sem.run_pure, Result.andThen_ok, List.map_toArray, List.map_cons, List.map_nil, hs, hx, hr1]
  exact hK _ _ (h v1 w1 h1 (HB.grown hg hbase (zd4 hown)) hg hat)
end
end Kd
namespace Kd
section
variable {P : Program} {ops : Array Oper} {rest : List Oper} {o : Oper} {a : Act} {Q : Exit → Act → World → Prop} {α : Type}
end
end Kd
theorem add_add (a : Addr) (i j : Nat) : (a.add i).add j = a.add (i + j) := by
  unfold Addr.add
  by_cases h1 : i = 0 <;> by_cases h2 : j = 0 <;> simp [h1, h2, Nat.add_assoc]
namespace Kd
section
variable {α : Type} {k : Kd α} {w : World} {A : Option Addr} {xs : List α} {m c : Nat}
theorem zc9 (h : k.C w A xs.length xs) (hm : m ≤ xs.length) : k.C w A (xs.take m).length (xs.take m) := by
  have hl : (xs.take m).length = m := by rw [List.length_take]; omega
  refine ⟨rfl, by rw [hl]; have := h.2.1; omega, fun hp => ?_⟩
  obtain ⟨ad, e, hc⟩ := h.2.2 (by omega)
  refine ⟨ad, e, fun j p hj => hc j p ?_⟩
  rw [List.getElem?_take] at hj
  split at hj
  · exact hj
  · cases hj
theorem zd5 (h : k.C w A xs.length xs) (hm : m ≤ xs.length) (hc : xs.length ≤ c) : k.C w (if c = m then A else A.map (·.add (m * k.sz))) (xs.drop m).length (xs.drop m) := by
  have hl : (xs.drop m).length = xs.length - m := List.length_drop
  refine ⟨rfl, by rw [hl]; have := h.2.1; omega, fun hp => ?_⟩
  rw [hl] at hp
  obtain ⟨ad, rfl, hcell⟩ := h.2.2 (by omega)
  rw [if_neg (by omega)]
  refine ⟨ad.add (m * k.sz), rfl, fun j p hj => ?_⟩
  rw [List.getElem?_drop] at hj
  obtain ⟨cs, h1, h2, h3⟩ := hcell (m + j) p hj
  refine ⟨cs, h1, h2, fun i u hu => ?_⟩
  rw [add_add, show m * k.sz + (j * k.sz + i) = (m + j) * k.sz + i by rw [Nat.add_mul]; omega]
  exact h3 i u hu
end
end Kd
section
variable {P : Program}
end
theorem za8 {w W : World} (h : Below w.heap.size w W) : w.heap.size ≤ W.heap.size := h.size
theorem zay {w W w2 : World} (h : Below w.heap.size w W) (k : Below W.heap.size W w2) : Below w.heap.size w w2 := below_then h h.size k
theorem za6 {w W : World} {g j : Nat} {v : Value} (h : Below w.heap.size w W) (hg : w.heap.size ≤ g) : Below w.heap.size w (W.setCell ⟨g, j, none⟩ v) := h.setCell hg _
theorem add_block (a : Addr) (i : Nat) : (a.add i).block = a.block := by unfold Addr.add; split <;> rfl
theorem cell_far {W : World} {p a : Addr} (h : a.block ≠ p.block) (u : Value) : (W.setCell p u).cell? a = W.cell? a := by
  have := Below.heap_setCell W p u a.block h
  simp [World.cell?, this]
theorem zbu {w : World} {g : Nat} {t : TypeId} {cs cs' : Array Value} (h : w.heap[g]? = some (.cells cs t (0, 0))) (i : Nat) (u : Value) (e : cs.setIfInBounds i u = cs') : (w.setCell ⟨g, i, none⟩ u).heap[g]? = some (.cells cs' t (0, 0)) := e ▸ zg0 h i u
theorem zib {W : World} {base n c : Nat} {e : TypeId} {size g : Nat} {ad : Addr} {xs : List Value} (_ : W.ownsRow base e size (.slice (some ad) n c) n xs) (hne : some g ≠ (Value.slice (some ad) n c).ownBlock) : ad.block ≠ g := by
  rintro rfl
  exact hne (by simp [Value.ownBlock])
theorem zas {base : Nat} {w W : World} (h : Below base w W) : Below base w W.drew := h.drew
namespace Kd
section
variable {α β : Type} {d : Kd α} {d' : Kd β} {e e' base base' n : Nat} {ok ok' : Nat → Prop} {w W w1 W1 : World} {v u : Value} {xs : List α} {ys : List β} {A : Option Addr} {c : Nat}
theorem zib {ad : Addr} {g : Nat} (hne : some g ≠ (Value.slice (some ad) n c).ownBlock) : ad.block ≠ g := by
  rintro rfl
  exact hne (by simp [Value.ownBlock])
end
section
variable {α : Type} {enc : α → Value} {h1 : ∀ x, (enc x).oneCell' = true} {w W : World} {A : Option Addr} {n g : Nat} {xs : List α}
end
end Kd
namespace Kd
section
variable {α : Type} {d : Kd α} {e base g : Nat} {ok : Nat → Prop} {w w1 : World} {v : Value} {xs : List α} {o : Obj}
theorem R_elderB (h : d.R e w base ok v xs) (a : Nat) (ha : w.heap.size ≤ a) : d.R e w base (fun k => ok k ∧ k ≠ a) v xs := zba (zcz h) (fun k hk => ⟨hk.1, by have := hk.2.2.1; omega⟩)
theorem zcl (hb : w.heap[g]? = some o) : ∀ k, w.heap.size ≤ k → k ≠ g := fun k hk => by have := zbk hb; omega
end
end Kd
section
variable {P : Program} {ops : Array Oper} {rest : List Oper} {o : Oper} {a : Act} {Q : Exit → Act → World → Prop}
theorem box_event {W : World} (hgd : o.guard = none) {N : Tmp} (_hd : o.dst = some N) {cs : Array Value} {t : TypeId}
    (hrun : (execOp a.eval o).run P W = .ok (.value (.pointer (some ⟨W.heap.size, 0, none⟩))) (W.alloc (.cells cs t (0, 0))))
    (h : ∀ g, g = W.heap.size → ∀ w1, w1.heap[g]? = some (.cells cs t (0, 0)) → Below W.heap.size W w1 → wpList P ops Q rest (a.put o.dst (.pointer (some ⟨g, 0, none⟩))) w1) : wpList P ops Q (o :: rest) a W :=
  Kd.event_run hgd hrun (h _ rfl _ (za9 W _) (za2 (Below.refl _ _) _))
end
namespace Kd
section
variable {α : Type} {enc : α → Value} {h1 : ∀ x, (enc x).oneCell' = true} {e base g n cap : Nat} {ok : Nat → Prop} {W : World} {xs : List α}
theorem R_celln (d : α) (h : (scalar enc h1).R e W base ok (.slice (some ⟨g, 0, none⟩) n cap) xs) (i : Int) (h0 : 0 ≤ i) (hi : i < n) : W.cell? ⟨g, i.toNat, none⟩ = some (enc (rdOf d xs i)) ∧ W.frozen? ⟨g, i.toNat, none⟩ = false := by
  obtain ⟨rfl, _⟩ := R_reads' h
  exact R_cell d h i h0 hi
end
end Kd
section
variable {P : Program} {ops : Array Oper} {rest : List Oper} {o : Oper} {a : Act} {Q : Exit → Act → World → Prop}
theorem ziv {W w1 : World} (hgd : o.guard = none) {t : TypeId} {p : Tmp} {v : Operand} (_ho : o.op = .store t (.tmp p) v) (hN : o.dst = none)
    (hrun : (execOp a.eval o).run P W = .ok .skip w1) (h : ∀ w', w' = w1 → wpList P ops Q rest a w') : wpList P ops Q (o :: rest) a W := by
  refine wpList_plain hgd fun K hK => ?_
  unfold Oper.wp
  rw [hrun]
  show K (a.put o.dst undef) w1
  rw [hN]
  exact hK _ _ (h _ rfl)
end
namespace Kd
section
variable {α : Type} {enc : α → Value} {h1 : ∀ x, (enc x).oneCell' = true} {e base g n cap : Nat} {ok : Nat → Prop} {W : World} {xs : List α}
theorem R_putg (h : (scalar enc h1).R e W base ok (.slice (some ⟨g, 0, none⟩) n cap) xs) (i : Int) (x : α) : (scalar enc h1).R e (W.setCell ⟨g, i.toNat, none⟩ (enc x)) base ok (.slice (some ⟨g, 0, none⟩) n cap) (xs.set i.toNat x) ∧ W.grownBy (W.setCell ⟨g, i.toNat, none⟩ (enc x)) (some g) := by
  obtain ⟨rfl, _⟩ := R_reads' h
  exact R_put h i x
end
end Kd
section
variable {P : Program} {ops : Array Oper} {rest : List Oper} {o : Oper} {a : Act} {Q : Exit → Act → World → Prop} {W : World}
theorem zau {N : Tmp} (_hN : o.dst = some N) (h : wpList P ops Q (o :: rest) a W) : wpList P ops Q (o :: rest) a W := h
theorem zjg {t : TypeId} {p : Tmp} {v : Operand} (_ho : o.op = .store t (.tmp p) v) (h : wpList P ops Q (o :: rest) a W) : wpList P ops Q (o :: rest) a W := h
end
section
variable {P : Program} {ops : Array Oper} {o : Oper} {a : Act} {Q : Exit → Act → World → Prop} {Kc : Act → World → Prop}
namespace Kd
variable {α : Type}
theorem zhq (d : Kd α) {Rr : α → List Value → Prop} {w0 W : World} (base : Nat) (hw : Region.wanted o (yielded ops a.tmps) = true) (s x : Operand) (t e : TypeId) (z : Value) (bytes : Nat)
    (ho : o.op = .call { callee := .builtin .append, args := #[s, x], argTypes := #[t, t] })
    (ht : P.underlying t = some (.slice e)) (hinfo : (P.info? e).map (fun i => (i.zero, i.size, i.bytes)) = some (some z, d.sz, bytes)) (hz : z.cells.size = d.sz) (hs0 : 0 < d.sz) (hb0 : 0 < bytes)
    (v : Value) (xs ys : List α) (A : Option Addr) (m c : Nat) (ok okp : Nat → Prop) (hs : a.eval s = v) (hx : a.eval x = .slice A m c)
    (HO : d.R e W base ok v xs) (HR : zcw Rr d.sz W A m ys) (hKM : ∀ x cs, Rr x cs → d.M W base okp x cs) (hokp : ∀ k, okp k → ok k ∧ some k ≠ v.ownBlock) (hfresh : ∀ k, W.heap.size ≤ k → ok k)
    (HB : Below base w0 W) (hbase : base ≤ W.heap.size) (hl : (xs.length + m) * bytes ≤ 140737488355328)
    (h : ∀ v1 w1, d.R e w1 base ok v1 (xs ++ ys) → Below base w0 w1 → W.grownBy w1 v.ownBlock → (v1.ownBlock = v.ownBlock ∨ ∃ b, v1.ownBlock = some b ∧ W.heap.size ≤ b) → Kc (a.put o.dst v1) w1) :
    if Region.wanted o (yielded ops a.tmps) = true then Oper.wp P o a W Kc Q else Kc (a.put o.dst undef) W := by
  obtain ⟨i0, hi, hzz⟩ := Option.map_eq_some_iff.1 hinfo
  simp only [Prod.mk.injEq] at hzz
  obtain ⟨hz0, hz1, hz2⟩ := hzz
  have hm : ys.length = m := HR.1
  have hlen : xs.length + m ≤ 140737488355328 := Nat.le_trans (Nat.le_mul_of_pos_right _ hb0) hl
  obtain ⟨hok, inner, hown, hr⟩ := HO
  have hrun : ∃ v1 w1, (Builtin.append_ #[t, t] o.type #[v, .slice A m c]).run P W = .ok v1 w1 ∧ d.R e w1 base ok v1 (xs ++ ys) ∧ W.grownBy w1 v.ownBlock ∧ (v1.ownBlock = v.ownBlock ∨ ∃ b, v1.ownBlock = some b ∧ W.heap.size ≤ b) := by
    rcases A with _ | ad
    · have h0 : m = 0 := by
        rcases Nat.eq_zero_or_pos m with h0 | h0
        · exact h0
        · obtain ⟨ad, h, _⟩ := HR.2.2 h0
          cases h
      subst h0
      obtain rfl : ys = [] := List.eq_nil_of_length_eq_zero hm
      refine ⟨v, W, ?_, by rw [List.append_nil]; exact ⟨hok, inner, hown, hr⟩, World.grownBy.refl W _, .inl rfl⟩
      rcases hown.2 with ⟨rfl, hn⟩ | ⟨g, cap, cur, rfl, _, _, hnc, _⟩
      · simp [Builtin.append_, run_underlying ht, sizeOf, typeInfo, hi, Builtin.lenOf, Builtin.firstCells]
      · simp [Builtin.append_, run_underlying ht, sizeOf, typeInfo, hi, Builtin.lenOf, Builtin.firstCells, hnc, storeCells]
    · obtain ⟨news, hnr, hnc⟩ := zcw.inner_ HR
      have hnM : Reps (d.M W base okp) d.sz ys news := hnr.imp_ (fun p c hp => hKM p c hp)
      have hone : ∀ u ∈ news, u.oneCell' = true := by
        intro u hu
        obtain ⟨q, hq, rfl⟩ := List.mem_iff_getElem.1 hu
        have hql : q / d.sz < ys.length := by
          rw [Nat.div_lt_iff_lt_mul hs0]
          rw [← hnM.1]
          exact hq
        have hc := hnM.2 (q / d.sz) _ (List.getElem?_eq_getElem hql)
        refine d.K_one (d.K_of_M hc) _ ?_
        rw [List.mem_iff_getElem?]
        refine ⟨q % d.sz, ?_⟩
        rw [List.getElem?_take, if_pos (Nat.mod_lt _ hs0), List.getElem?_drop, Nat.mul_comm, Nat.div_add_mod, List.getElem?_eq_getElem hq]
      obtain ⟨v1, w1, hrun, h2, hg, _, hat⟩ := run_append_own_at (P := P) W base t o.type e i0 z d.sz bytes ht hi hz0 hz1 hz2 hz hs0 v xs.length inner hown ad m c news (by rw [hnM.1, hm]) hnc hone (by simp only [maxLen]; omega) hl hbase
      have hat' : v1.ownBlock = v.ownBlock ∨ ∃ b, v1.ownBlock = some b ∧ W.heap.size ≤ b := by
        rcases hat with hat | hat
        · exact .inl hat
        · exact .inr ⟨_, hat, Nat.le_refl _⟩
      have hne : ∀ k, some k ≠ v.ownBlock → k < W.heap.size → some k ≠ v1.ownBlock := by
        intro k hk hlt
        rcases hat' with hat | ⟨b, hb, hle⟩
        · rw [hat]; exact hk
        · rw [hb]
          intro he
          injection he with he
          omega
      have step : ∀ {q : α} {c : List Value} {o : Nat → Prop}, d.M W base o q c → (∀ k, o k → ok k ∧ some k ≠ v.ownBlock) → d.M w1 base (fun k => ok k ∧ some k ≠ v1.ownBlock) q c := by
        intro q c o hq ho
        have h1 := d.M_move (w1 := w1) (fun k hk => hg.block k hk.2.2.1 (ho k hk.1).2) (d.M_bound hq)
        exact d.M_mono (fun k hk => ⟨(ho k hk.1).1, hne k (ho k hk.1).2 hk.2.2.1⟩) h1
      refine ⟨v1, w1, hrun, ⟨fun k hk => ?_, inner ++ news, by rw [List.length_append, hm]; exact h2, zir (hr.imp_ (fun _ _ hq => step hq (fun _ hk => hk))) (hnM.imp_ (fun _ _ hq => step hq hokp))⟩, hg, hat'⟩
      rcases hat' with hat | ⟨b, hb, hle⟩
      · exact hok k (hat ▸ hk)
      · rw [hb] at hk
        injection hk with hk
        exact hfresh k (by omega)
  obtain ⟨v1, w1, hr1, h1, hg, hat⟩ := hrun
  rw [if_pos hw]
  unfold Oper.wp execOp
  simp only [ho, resolve, invoke, builtin, Sem.run_bind, Sem.run_pure, Result.andThen_ok, List.map_toArray, List.map_cons, List.map_nil, hs, hx, hr1]
  exact h v1 w1 h1 (HB.grown hg hbase (zd4 hown)) hg hat
end Kd
end
section
variable {P : Program} {tmps : Array Value} {w : World}
end
namespace Kd
section
variable {P : Program} {α : Type}
end
section
variable {P : Program} {ops : Array Oper} {rest : List Oper} {o : Oper} {a : Act} {Q : Exit → Act → World → Prop} {Kc : Act → World → Prop} {α : Type}
end
end Kd
end Go.Proofs.ZW.PrintWords
end
section
namespace Go.Proofs.ZW.PrintLast
section
variable {P : Program} {ops : Array Oper} {Q : Exit → Act → World → Prop} {md : Region.Mode} {S : World → Prop} {ds : List Nat}
def Region.zd7 (md : Region.Mode) (ops : Array Oper) (i : Nat) : Nat → Nat → Bool
 | 0, _ => false
 | fuel + 1, d => match ops[d]? with
  | some o => o.after.any fun e => Region.binds md e && (e.on == i || Region.zd7 md ops i fuel e.on)
  | none => false
def Region.zg2 (md : Region.Mode) (ops : Array Oper) (listed : Array Bool) : Bool :=
 (List.range ops.size).all fun j => !listed.getD j false || match ops[j]? with
  | some o => o.after.all fun e => !Region.binds md e || listed.getD e.on false
  | none => true
def Region.lastB (md : Region.Mode) (ops : Array Oper) (listed : Array Bool) (ds : List Nat) (i : Nat) : Bool :=
 ds.all fun d => listed.getD d true || Region.zd7 md ops i ops.size d
def zdn (md : Region.Mode) (ops : Array Oper) (listed : Array Bool) : Prop :=
 ∀ j oj, ops[j]? = some oj → listed.getD j false = true → ∀ e ∈ oj.after, Region.binds md e = true → listed.getD e.on false = true
theorem Region.closedB_spec {listed : Array Bool} (h : Region.zg2 md ops listed = true) : zdn md ops listed := by
 intro j oj hj hl e he hb
 have hlt : j < ops.size := (Array.getElem?_eq_some_iff.1 hj).1
 have h1 := List.all_eq_true.1 h j (List.mem_range.2 hlt)
 simp only [hl, hj, Bool.not_true, Bool.false_or] at h1
 have h2 := Array.all_eq_true_iff_forall_mem.1 h1 e he
 simpa [hb] using h2
theorem zdn.set {listed : Array Bool} {i : Nat} (h : zdn md ops listed) (hi : i ∈ Region.ready md ops listed) : zdn md ops (listed.setIfInBounds i true) := by
 obtain ⟨_, oi, hoi, hall⟩ := mem_ready.1 hi
 intro j oj hj hl e he hb
 by_cases hij : i = j
 ·subst hij
  have : oj = oi := Option.some.inj (hj.symm.trans hoi)
  subst this
  exact getD_set_true (hall e he hb)
 ·rw [getD_set_ne false hij] at hl
  exact getD_set_true (h j oj hj hl e he hb)
theorem Region.zhy {listed : Array Bool} {i : Nat} (hc : zdn md ops listed) : ∀ (fuel d : Nat), Region.zd7 md ops i fuel d = true → listed.getD d false = true → listed.getD i false = true
 | 0, _, h, _ => by simp [Region.zd7] at h
 | fuel + 1, d, h, hl => by
  unfold Region.zd7 at h
  cases ho : ops[d]? with
  | none => rw [ho] at h; simp at h
  | some o =>
   rw [ho] at h
   obtain ⟨e, he, h1⟩ := Array.any_eq_true'.1 h
   simp only [Bool.and_eq_true, Bool.or_eq_true, beq_iff_eq] at h1
   have hle := hc d o ho hl e he h1.1
   rcases h1.2 with h2 | h2
   ·rw [← h2]; exact hle
   ·exact Region.zhy hc fuel e.on h2 hle
theorem Region.zjm {listed : Array Bool} {i d fuel : Nat} (hc : zdn md ops listed) (hr : Region.zd7 md ops i fuel d = true) (hun : listed.getD i true = false) : d ∉ Region.ready md ops listed := by
 intro hd
 obtain ⟨_, o, ho, hall⟩ := mem_ready.1 hd
 have hi : listed.getD i false = true := by
  cases fuel with
  | zero => simp [Region.zd7] at hr
  | succ n =>
   unfold Region.zd7 at hr
   rw [ho] at hr
   obtain ⟨e, he, h1⟩ := Array.any_eq_true'.1 hr
   simp only [Bool.and_eq_true, Bool.or_eq_true, beq_iff_eq] at h1
   have hle := hall e he h1.1
   rcases h1.2 with h2 | h2
   ·rw [← h2]; exact hle
   ·exact Region.zhy hc n e.on h2 hle
 rcases Nat.lt_or_ge i listed.size with h' | h'
 ·simp [h'] at hun hi
  rw [hun] at hi
  cases hi
 ·simp [Array.getElem?_eq_none h'] at hun
def za0 (P : Program) (md : Region.Mode) (ops : Array Oper) (Q : Exit → Act → World → Prop) (S : World → Prop) (ds : List Nat) : Nat → Array Bool → Act → World → Prop
 | 0, listed, a, w => Region.ready md ops listed = [] ∧ Q .normal a w
 | fuel + 1, listed, a, w =>
  (Region.ready md ops listed = [] → Q .normal a w) ∧
  ∀ i ∈ Region.ready md ops listed, wpOp P ops Q i (fun a' w' => (i ∉ ds → S w → S w') ∧ za0 P md ops Q S ds fuel (listed.setIfInBounds i true) a' w') a w
theorem zfr : ∀ (fuel : Nat) (listed : Array Bool) (a : Act) (w : World), za0 P md ops Q S ds fuel listed a w → wpAny P md ops Q fuel listed a w
 | 0, _, _, _, h => h
 | fuel + 1, _, _, _, h => ⟨h.1, fun i hi => wpOp_mono (fun a' w' h' => zfr fuel _ a' w' h'.2) (h.2 i hi)⟩
theorem zjs {i : Nat} {oi : Oper} {v : Value} (hi : ops[i]? = some oi) (hsel : ∀ (j : Nat) (o : Oper) cs b, ops[j]? = some o → o.op ≠ .select cs b)
  (hQ : ∀ c a w, Q (.panic c) (a.put oi.dst v) w → Q (.panic c) a w) (n : Nat) :
  ∀ (fuel : Nat) (listed : Array Bool) (a : Act) (w : World),
   (∀ j oj, ops[j]? = some oj → j ≠ i → listed.getD j true = false → (∀ e ∈ oj.after, Region.binds md e = true → e.on ≠ i) → oi.apart ops oj = true) →
   zdn md ops listed → (∀ d ∈ ds, listed.getD d true = false → Region.zd7 md ops i n d = true) →
   i ∈ Region.ready md ops listed → YieldsIf P ops S oi v a → S w →
   za0 P md ops Q S ds fuel (listed.setIfInBounds i true) (a.put oi.dst v) w → za0 P md ops Q S ds (fuel + 1) listed a w := by
 intro fuel
 induction fuel with
 | zero =>
  intro listed a w _ _ _ hr hy hS H
  refine ⟨fun h => (by rw [h] at hr; cases hr), fun j hj => ?_⟩
  by_cases hji : j = i
  ·subst hji; exact hy.wpOp hi hS ⟨fun _ h => h, H⟩
  ·have := ready_mono hj hji
   rw [H.1] at this
   cases this
 | succ fuel ih =>
  intro listed a w hfree hc hd hr hy hS H
  refine ⟨fun h => (by rw [h] at hr; cases hr), fun j hj => ?_⟩
  by_cases hji : j = i
  ·subst hji; exact hy.wpOp hi hS ⟨fun _ h => h, H⟩
  ·have h1 := H.2 j (ready_mono hj hji)
   obtain ⟨hjun, oj, hoj, hall⟩ := mem_ready.1 hj
   have hiun := (mem_ready.1 hr).1
   have hnot : ∀ e ∈ oj.after, Region.binds md e = true → e.on ≠ i := fun e he hb heq => by
    have h1 := hall e he hb
    rw [heq] at h1
    rcases Nat.lt_or_ge i listed.size with h' | h'
    ·simp [h'] at hiun h1; rw [hiun] at h1; cases h1
    ·simp [Array.getElem?_eq_none h'] at h1
   have hjd : j ∉ ds := fun hm => Region.zjm hc (hd j hm hjun) hiun hj
   have h2 := wpOp_putIf hoj (hfree j oj hoj hji hjun hnot) (fun cs b => hsel i oi cs b hi) (fun cs b => hsel j oj cs b hoj) hQ hy h1
   have hfree' : ∀ k ok, ops[k]? = some ok → k ≠ i → (listed.setIfInBounds j true).getD k true = false →
     (∀ e ∈ ok.after, Region.binds md e = true → e.on ≠ i) → oi.apart ops ok = true := fun k ok hk hki hun hno => by
    refine hfree k ok hk hki ?_ hno
    by_cases hjk : j = k
    ·subst hjk; exact hjun
    ·rw [getD_set_ne true hjk] at hun; exact hun
   have hd' : ∀ d ∈ ds, (listed.setIfInBounds j true).getD d true = false → Region.zd7 md ops i n d = true := fun d hm hun => by
    refine hd d hm ?_
    by_cases hjk : j = d
    ·subst hjk; exact hjun
    ·rw [getD_set_ne true hjk] at hun; exact hun
   refine wpOp_mono (fun a' w' h3 => ⟨h3.2.1, ih (listed.setIfInBounds j true) a' w' hfree' (hc.set hj) hd' (ready_mono hr (Ne.symm hji)) h3.1 (h3.2.1 hjd hS) ?_⟩) h2
   rw [Array.setIfInBounds_comm _ _ hji]
   exact h3.2.2
theorem zj7 {i : Nat} {oi : Oper} {v : Value} (hi : ops[i]? = some oi) (hsel : ∀ (j : Nat) (o : Oper) cs b, ops[j]? = some o → o.op ≠ .select cs b)
  (hQ : ∀ c a w, Q (.panic c) (a.put oi.dst v) w → Q (.panic c) a w) :
  ∀ (fuel : Nat) (listed : Array Bool) (a : Act) (w : World),
   (∀ j oj, ops[j]? = some oj → j ≠ i → listed.getD j true = false → (∀ e ∈ oj.after, Region.binds md e = true → e.on ≠ i) → oi.apart ops oj = true) →
   i ∈ Region.ready md ops listed → Yields P ops oi v a →
   za0 P md ops Q S ds fuel (listed.setIfInBounds i true) (a.put oi.dst v) w → za0 P md ops Q S ds (fuel + 1) listed a w := by
 intro fuel
 induction fuel with
 | zero =>
  intro listed a w _ hr hy H
  refine ⟨fun h => (by rw [h] at hr; cases hr), fun j hj => ?_⟩
  by_cases hji : j = i
  ·subst hji; exact (hy.yieldsIf (S := fun _ => True)).wpOp hi trivial ⟨fun _ h => h, H⟩
  ·have := ready_mono hj hji
   rw [H.1] at this
   cases this
 | succ fuel ih =>
  intro listed a w hfree hr hy H
  refine ⟨fun h => (by rw [h] at hr; cases hr), fun j hj => ?_⟩
  by_cases hji : j = i
  ·subst hji; exact (hy.yieldsIf (S := fun _ => True)).wpOp hi trivial ⟨fun _ h => h, H⟩
  ·have h1 := H.2 j (ready_mono hj hji)
   obtain ⟨hjun, oj, hoj, hall⟩ := mem_ready.1 hj
   have hiun := (mem_ready.1 hr).1
   have hnot : ∀ e ∈ oj.after, Region.binds md e = true → e.on ≠ i := fun e he hb heq => by
    have h1 := hall e he hb
    rw [heq] at h1
    rcases Nat.lt_or_ge i listed.size with h' | h'
    ·simp [h'] at hiun h1; rw [hiun] at h1; cases h1
    ·simp [Array.getElem?_eq_none h'] at h1
   have h2 := wpOp_put hoj (hfree j oj hoj hji hjun hnot) (fun cs b => hsel i oi cs b hi) (fun cs b => hsel j oj cs b hoj) hQ hy h1
   have hfree' : ∀ k ok, ops[k]? = some ok → k ≠ i → (listed.setIfInBounds j true).getD k true = false →
     (∀ e ∈ ok.after, Region.binds md e = true → e.on ≠ i) → oi.apart ops ok = true := fun k ok hk hki hun hno => by
    refine hfree k ok hk hki ?_ hno
    by_cases hjk : j = k
    ·subst hjk; exact hjun
    ·rw [getD_set_ne true hjk] at hun; exact hun
   refine wpOp_mono (fun a' w' h3 => ⟨h3.2.1, ih (listed.setIfInBounds j true) a' w' hfree' (ready_mono hr (Ne.symm hji)) h3.1 ?_⟩) h2
   rw [Array.setIfInBounds_comm _ _ hji]
   exact h3.2.2
theorem zjy {i : Nat} {oi : Oper} {v : Value} {fuel : Nat} {listed : Array Bool} {a : Act} {w : World} (hi : ops[i]? = some oi)
  (hs : Region.noSelect ops = true) (hf : Region.free md ops listed i = true) (hr : (Region.ready md ops listed).contains i = true)
  (hc : Region.zg2 md ops listed = true) (hl : Region.lastB md ops listed ds i = true)
  (hQ : ∀ c a w, Q (.panic c) (a.put oi.dst v) w → Q (.panic c) a w) (hy : YieldsIf P ops S oi v a) (hS : S w)
  (h : za0 P md ops Q S ds fuel (listed.setIfInBounds i true) (a.put oi.dst v) w) : za0 P md ops Q S ds (fuel + 1) listed a w :=
 zjs hi (Region.noSelect_spec hs) hQ ops.size fuel listed a w (Region.free_spec hi hf) (Region.closedB_spec hc)
  (fun d hm hun => by have := List.all_eq_true.1 hl d hm; rw [hun] at this; simpa using this) (by simpa using hr) hy hS h
theorem zj6 {rs : List Nat} {fuel : Nat} {listed : Array Bool} {a : Act} {w : World} (hr : Region.ready md ops listed = rs) (hne : rs ≠ [])
  (h : ∀ i ∈ rs, wpOp P ops Q i (fun a' w' => (i ∉ ds → S w → S w') ∧ za0 P md ops Q S ds fuel (listed.setIfInBounds i true) a' w') a w) : za0 P md ops Q S ds (fuel + 1) listed a w :=
 ⟨fun h0 => absurd (hr ▸ h0) hne, hr ▸ h⟩
theorem zjx {listed : Array Bool} {a : Act} {w : World} (hr : Region.ready md ops listed = []) (h : Q .normal a w) :
  ∀ fuel, za0 P md ops Q S ds fuel listed a w
 | 0 => ⟨hr, h⟩
 | _ + 1 => ⟨fun _ => h, by rw [hr]; simp⟩
theorem zjz {id : Nat} {a : Act} {w : World} (hm : P.follows .mixedOrders = true)
  (h : za0 P .any ops Q S ds ops.size (Array.replicate ops.size false) a { w with drawn := w.drawn + 1 }) : (Code.region id ops true).wp P Q a w :=
 wp_region_any hm (zfr _ _ _ _ h)
end
section
variable {P : Program} {ops : Array Oper} {Q : Exit → Act → World → Prop} {md : Region.Mode} {S : World → Prop} {ds : List Nat}
def zcs (P : Program) (md : Region.Mode) (ops : Array Oper) (Q : Exit → Act → World → Prop) (S : World → Prop) (ds : List Nat) (fuel : Nat) (listed : Array Bool) (a : Act) (w : World) (rs : List Nat) : Prop :=
 ∀ i ∈ rs, wpOp P ops Q i (fun a' w' => (i ∉ ds → S w → S w') ∧ za0 P md ops Q S ds fuel (listed.setIfInBounds i true) a' w') a w
theorem zcs.nil {fuel : Nat} {listed : Array Bool} {a : Act} {w : World} : zcs P md ops Q S ds fuel listed a w [] := fun _ h => by cases h
theorem zcs.cons {fuel : Nat} {listed : Array Bool} {a : Act} {w : World} {i : Nat} {o : Oper} {rs : List Nat} (ho : ops[i]? = some o) (hd : i ∉ ds)
  (h : ∀ K' : Act → World → Prop, Shut (∀ a w, S w → (S w → za0 P md ops Q S ds fuel (listed.setIfInBounds i true) a w) → K' a w) → if Region.wanted o (yielded ops a.tmps) = true then Oper.wp P o a w K' Q else K' (a.put o.dst undef) w)
  (hs : zcs P md ops Q S ds fuel listed a w rs) : zcs P md ops Q S ds fuel listed a w (i :: rs) := fun j hj => by
 rcases List.mem_cons.1 hj with rfl | hj
 ·exact wpOp_step ho (fun K' hK => h K' (fun a w hS hW => hK a w ⟨fun _ _ => hS, hW hS⟩))
 ·exact hs j hj
theorem zcs.cons_last {fuel : Nat} {listed : Array Bool} {a : Act} {w : World} {i : Nat} {o : Oper} {rs : List Nat} (ho : ops[i]? = some o) (hd : i ∈ ds)
  (h : ∀ K' : Act → World → Prop, Shut (∀ a w, za0 P md ops Q S ds fuel (listed.setIfInBounds i true) a w → K' a w) → if Region.wanted o (yielded ops a.tmps) = true then Oper.wp P o a w K' Q else K' (a.put o.dst undef) w)
  (hs : zcs P md ops Q S ds fuel listed a w rs) : zcs P md ops Q S ds fuel listed a w (i :: rs) := fun j hj => by
 rcases List.mem_cons.1 hj with rfl | hj
 ·exact wpOp_step ho (fun K' hK => h K' (fun a w hW => hK a w ⟨fun hn => absurd hd hn, hW⟩))
 ·exact hs j hj
theorem ze0 {rs : List Nat} {fuel : Nat} {listed : Array Bool} {a : Act} {w : World} (hr : Region.ready md ops listed = rs) (hne : rs ≠ [])
  (h : zcs P md ops Q S ds fuel listed a w rs) : za0 P md ops Q S ds (fuel + 1) listed a w := zj6 hr hne h
theorem zbl {id n : Nat} {a : Act} {w : World} (l : Array Bool) (hm : P.follows .mixedOrders = true) (hn : ops.size = n) (hl : Array.replicate n false = l) (hS : S w.drew)
  (h : S w.drew → za0 P .any ops Q S ds n l a w.drew) : (Code.region id ops true).wp P Q a w := by
 subst hn;subst hl
 exact zjz hm (h hS)
def takeB (md : Region.Mode) (ops : Array Oper) (ds : List Nat) (l l' : Array Bool) (i : Nat) : Bool :=
 Region.noSelect ops && Region.free md ops l i && (Region.ready md ops l).contains i && Region.zg2 md ops l && Region.lastB md ops l ds i && (l.setIfInBounds i true == l')
theorem take_ {i : Nat} {N : Option Tmp} {oi : Oper} {v : Value} {fuel : Nat} {l : Array Bool} {a : Act} {w : World} (l' : Array Bool) (hi : ops[i]? = some oi) (hN : oi.dst = N) (hc : takeB md ops ds l l' i = true)
  (hQ : ∀ c a w, Q (.panic c) (a.put oi.dst v) w → Q (.panic c) a w) (hy : YieldsIf P ops S oi v a) (hS : S w) {a' : Act} (ha : a.put N v = a')
  (h : za0 P md ops Q S ds fuel l' a' w) : za0 P md ops Q S ds (fuel + 1) l a w := by
 subst ha;subst hN
 simp only [takeB, Bool.and_eq_true, beq_iff_eq] at hc
 obtain ⟨⟨⟨⟨⟨h1, h2⟩, h3⟩, h4⟩, h5⟩, h6⟩ := hc
 subst h6
 exact zjy hi h1 h2 h3 h4 h5 hQ hy hS h
def anyB (md : Region.Mode) (ops : Array Oper) (l l' : Array Bool) (i : Nat) : Bool :=
 Region.noSelect ops && Region.free md ops l i && (Region.ready md ops l).contains i && (l.setIfInBounds i true == l')
theorem pure_ {i : Nat} {N : Option Tmp} {oi : Oper} {v : Value} {fuel : Nat} {l : Array Bool} {a : Act} {w : World} (l' : Array Bool) (hi : ops[i]? = some oi) (hN : oi.dst = N) (hc : anyB md ops l l' i = true)
  (hQ : ∀ c a w, Q (.panic c) (a.put oi.dst v) w → Q (.panic c) a w) (hy : Yields P ops oi v a) {a' : Act} (ha : a.put N v = a')
  (h : za0 P md ops Q S ds fuel l' a' w) : za0 P md ops Q S ds (fuel + 1) l a w := by
 subst ha;subst hN
 simp only [anyB, Bool.and_eq_true, beq_iff_eq] at hc
 obtain ⟨⟨⟨h1, h2⟩, h3⟩, h6⟩ := hc
 subst h6
 exact zj7 hi (Region.noSelect_spec h1) hQ fuel l a w (Region.free_spec hi h2) (by simpa using h3) hy h
def zfm (md : Region.Mode) (ops : Array Oper) (l l' : Array Bool) (i : Nat) : Bool := (Region.ready md ops l == [i]) && (l.setIfInBounds i true == l')
theorem one_ {i : Nat} {N : Option Tmp} {oi : Oper} {fuel : Nat} {l : Array Bool} {a : Act} {w : World} (l' : Array Bool) (hi : ops[i]? = some oi) (hN : oi.dst = N) (hc : zfm md ops l l' i = true) (hd : i ∉ ds)
  (h : ∀ K : Act → World → Prop, Shut (∀ a' w', S w' → (S w' → za0 P md ops Q S ds fuel l' a' w') → K a' w') → if Region.wanted oi (yielded ops a.tmps) = true then Oper.wp P oi a w K Q else K (a.put N undef) w) :
  za0 P md ops Q S ds (fuel + 1) l a w := by
 subst hN
 simp only [zfm, Bool.and_eq_true, beq_iff_eq] at hc
 obtain ⟨h1, h2⟩ := hc
 subst h2
 exact ze0 h1 (by simp) (zcs.cons hi hd (fun K hK => h K hK) zcs.nil)
theorem zfv {i : Nat} {N : Option Tmp} {oi : Oper} {fuel : Nat} {l : Array Bool} {a : Act} {w : World} (l' : Array Bool) (hi : ops[i]? = some oi) (hN : oi.dst = N) (hc : zfm md ops l l' i = true) (hd : i ∈ ds)
  (h : ∀ K : Act → World → Prop, Shut (∀ a' w', za0 P md ops Q S ds fuel l' a' w' → K a' w') → if Region.wanted oi (yielded ops a.tmps) = true then Oper.wp P oi a w K Q else K (a.put N undef) w) :
  za0 P md ops Q S ds (fuel + 1) l a w := by
 subst hN
 simp only [zfm, Bool.and_eq_true, beq_iff_eq] at hc
 obtain ⟨h1, h2⟩ := hc
 subst h2
 exact ze0 h1 (by simp) (zcs.cons_last hi hd (fun K hK => h K hK) zcs.nil)
theorem zbq {l : Array Bool} {a : Act} {w : World} {n : Nat} (hr : (Region.ready md ops l == []) = true) (h : Q .normal a w) : za0 P md ops Q S ds n l a w := zjx (by simpa using hr) h n
theorem two_ {i j : Nat} {Ni Nj : Option Tmp} {oi oj : Oper} {fuel : Nat} {l : Array Bool} {a : Act} {w : World} (li lj : Array Bool) (hi : ops[i]? = some oi) (hj : ops[j]? = some oj) (hNi : oi.dst = Ni) (hNj : oj.dst = Nj)
  (hc : (Region.ready md ops l == [i, j] && l.setIfInBounds i true == li && l.setIfInBounds j true == lj) = true) (hdi : i ∉ ds) (hdj : j ∉ ds)
  (h1 : ∀ K : Act → World → Prop, Shut (∀ a' w', S w' → (S w' → za0 P md ops Q S ds fuel li a' w') → K a' w') → if Region.wanted oi (yielded ops a.tmps) = true then Oper.wp P oi a w K Q else K (a.put Ni undef) w)
  (h2 : ∀ K : Act → World → Prop, Shut (∀ a' w', S w' → (S w' → za0 P md ops Q S ds fuel lj a' w') → K a' w') → if Region.wanted oj (yielded ops a.tmps) = true then Oper.wp P oj a w K Q else K (a.put Nj undef) w) :
  za0 P md ops Q S ds (fuel + 1) l a w := by
 subst hNi;subst hNj
 simp only [Bool.and_eq_true, beq_iff_eq] at hc
 obtain ⟨⟨h3, h4⟩, h5⟩ := hc
 subst h4;subst h5
 exact ze0 h3 (by simp) (zcs.cons hi hdi (fun K hK => h1 K hK) (zcs.cons hj hdj (fun K hK => h2 K hK) zcs.nil))
def zc1 : Act → List (Tmp × Value) → Act
 | a, [] => a
 | a, (n, v) :: r => zc1 (a.put (some n) v) r
theorem join_ {σ : Type} {fuel : Nat} {l : Array Bool} {a : Act} {w : World} (fuel' : Nat) (l' : Array Bool) (ns : σ → List (Tmp × Value)) (F : σ → World → Prop)
  (hcont : ∀ s w', F s w' → za0 P md ops Q S ds fuel' l' (zc1 a (ns s)) w')
  (h : (∀ s w', F s w' → za0 P md ops Q S ds fuel' l' (zc1 a (ns s)) w') → za0 P md ops Q S ds fuel l a w) : za0 P md ops Q S ds fuel l a w := h hcont
theorem zep {fuel : Nat} {l : Array Bool} {a a' : Act} {w : World} (ha : a = a') (h : za0 P md ops Q S ds fuel l a' w) : za0 P md ops Q S ds fuel l a w := by
 subst ha
 exact h
theorem call_ {oi : Oper} {N : Option Tmp} {a : Act} {w : World} {K : Act → World → Prop} (f : FuncId) (args : Array Value) (hw : Region.wanted oi (yielded ops a.tmps) = true) (hN : oi.dst = N) (hrun : (execOp a.eval oi).run P w = .ok (.enter f args) w)
  (h : Calls P f args w fun e w' => ∃ v, e = .returned v ∧ K (a.put N v) w') : if Region.wanted oi (yielded ops a.tmps) = true then Oper.wp P oi a w K Q else K (a.put N undef) w := by
 rw [if_pos hw]
 subst hN
 unfold Oper.wp
 rw [hrun, Oper.upon_enter]
 refine h.mono fun e w'' hh => ?_
 obtain ⟨v, rfl, hk⟩ := hh
 exact hk
theorem enters_ {f : FuncId} {fn : Func} (hf : P.funcs[f]? = some fn) (hname : (fn.name == "runtime.NumGoroutine") = false) (hb : fn.body.isSome = true) (args : Array Value) (w : World) : (callFunc f args).run P w = .ok (.enter f args) w := by
 have h1 : fn.name ≠ "runtime.NumGoroutine" := by simpa using hname
 obtain ⟨c, hc⟩ := Option.isSome_iff_exists.1 hb
 simp [callFunc, hf, h1, hc]
theorem goes_ {oi : Oper} {N : Option Tmp} {a : Act} {w : World} {K : Act → World → Prop} {f : FuncId} {fn : Func} {as_ : Array Operand} {ts : Array TypeId} (hf : P.funcs[f]? = some fn) (hname : (fn.name == "runtime.NumGoroutine") = false) (hb : fn.body.isSome = true) (args : Array Value)
  (hw : Region.wanted oi (yielded ops a.tmps) = true) (hN : oi.dst = N) (hop : oi.op = .call { callee := .value (.func f), args := as_, argTypes := ts }) (hargs : as_.map a.eval = args)
  (h : Calls P f args w fun e w' => ∃ v, e = .returned v ∧ K (a.put N v) w') : if Region.wanted oi (yielded ops a.tmps) = true then Oper.wp P oi a w K Q else K (a.put N undef) w := by
 refine call_ f args hw hN ?_ h
 have he := enters_ hf hname hb args w
 unfold execOp
 simp [hop, resolve, Deferred.ofValue, invoke, Act.eval, hargs, he]
theorem goesL_ {rest : List Oper} {oi : Oper} {a : Act} {w : World} (N : Option Tmp) (hd : oi.dst = N) (hg : oi.guard = none) {f : FuncId} {fn : Func} {as_ : Array Operand} {ts : Array TypeId} (hf : P.funcs[f]? = some fn) (hname : (fn.name == "runtime.NumGoroutine") = false) (hb : fn.body.isSome = true) (args : Array Value)
  (hop : oi.op = .call { callee := .value (.func f), args := as_, argTypes := ts }) (hargs : as_.map a.eval = args)
  (h : Calls P f args w fun e w' => ∃ v, e = .returned v ∧ wpList P ops Q rest (a.put N v) w') : wpList P ops Q (oi :: rest) a w := by
 refine wpList_plain hg fun K hK => ?_
 have he := enters_ hf hname hb args w
 have hrun : (execOp a.eval oi).run P w = .ok (.enter f args) w := by
  unfold execOp
  simp [hop, resolve, Deferred.ofValue, invoke, Act.eval, hargs, he]
 unfold Oper.wp
 rw [hrun, Oper.upon_enter]
 refine h.mono fun e w'' hh => ?_
 obtain ⟨v, rfl, hk⟩ := hh
 subst hd
 exact hK _ _ hk
theorem zcm {oi : Oper} {N : Option Tmp} {a : Act} {w w1 : World} {v : Value} {K : Act → World → Prop} (hw : Region.wanted oi (yielded ops a.tmps) = true) (hN : oi.dst = N) (hrun : (execOp a.eval oi).run P w = .ok (.value v) w1)
  (h : K (a.put N v) w1) : if Region.wanted oi (yielded ops a.tmps) = true then Oper.wp P oi a w K Q else K (a.put N undef) w := by
 rw [if_pos hw]
 subst hN
 unfold Oper.wp
 rw [hrun]
 exact h
theorem skip_ {oi : Oper} {a : Act} {w w1 : World} {K : Act → World → Prop} (hw : Region.wanted oi (yielded ops a.tmps) = true) (hN : oi.dst = none) (hrun : (execOp a.eval oi).run P w = .ok .skip w1)
  (h : K a w1) : if Region.wanted oi (yielded ops a.tmps) = true then Oper.wp P oi a w K Q else K (a.put none undef) w := by
 rw [if_pos hw]
 unfold Oper.wp
 rw [hrun]
 show K (a.put oi.dst undef) w1
 rw [hN]
 exact h
theorem zd9 (n : Int) : IntKind.i64.wrap n = Go.RowKit.wrap64 n := by unfold Go.RowKit.wrap64; exact IntKind.wrap_i64 n
theorem zeo (n : Int) : IntKind.i32.wrap n = Go.RowKit.wrap32 n := by unfold Go.RowKit.wrap32; exact IntKind.wrap_i32 n
end
end Go.Proofs.ZW.PrintLast
end
section
namespace Go.Proofs.ZW.PrintWords
open Go.RowKit
namespace Kd
def tag {α : Type} (f : Nat → Nat) (d : Kd α) : Kd (α × Nat) where
 sz := d.sz
 E := d.E
 K := fun w x cs => d.K w x.1 cs
 M := fun w base ok x cs => d.M w base (fun k => ok k ∧ f k = x.2) x.1 cs
 K_len := fun h => d.K_len h
 K_one := fun h => d.K_one h
 K_below := fun hb h => d.K_below hb h
 K_of_M := fun h => d.K_of_M h
 M_mono := fun hok h => d.M_mono (fun k hk => ⟨hok k hk.1, hk.2⟩) h
 M_bound := fun h => d.M_mono (fun _ hk => ⟨⟨hk.1.1, hk.2⟩, hk.1.2⟩) (d.M_bound h)
 M_move := fun hm h => d.M_move (fun k hk => hm k hk.1) h
 M_lower := fun hb h => d.M_lower hb h
def raw (sz : Nat) : Kd (List Value) where
 sz := sz
 E := []
 K := fun _ x cs => cs = x ∧ cs.length = sz ∧ ∀ u ∈ cs, u.oneCell' = true
 M := fun _ _ _ x cs => cs = x ∧ cs.length = sz ∧ ∀ u ∈ cs, u.oneCell' = true
 K_len := fun h => h.2.1
 K_one := fun h => h.2.2
 K_below := fun _ h => h
 K_of_M := fun h => h
 M_mono := fun _ h => h
 M_bound := fun h => h
 M_move := fun _ h => h
 M_lower := fun _ h => h
def S {α : Type} (d : Kd α) (e : Nat) (w : World) (base : Nat) (ok : Nat → Prop) (v : Value) (xs : List α) : Prop := ∃ f, (tag f d).R e w base ok v xs.zipIdx
section
variable {α β : Type} {d : Kd α} {d' : Kd β} {e e' : Nat} {w w1 W : World} {base b : Nat} {ok ok' okv oku : Nat → Prop} {u v : Value} {xs : List α} {ys : List β}
theorem zgx (hE : d.E = []) (h : d.R e w base ok v xs) : d.R e w base (fun k => some k = v.ownBlock) v xs := by
 obtain ⟨h0, inner, ho, hr⟩ := h
 refine ⟨fun k hk => hk.symm, inner, ho, hr.imp_ (fun p c hp => d.M_mono (fun k hk => ?_) (d.M_bound hp))⟩
 obtain ⟨_, _, _, q, hq, _⟩ := hk
 rw [hE] at hq
 cases hq
end
section
variable {α β : Type} {d : Kd α} {d' : Kd β} {e e' g : Nat} {w w1 W : World} {base b : Nat} {ok ok' okv oku : Nat → Prop} {u v : Value} {xs : List α} {ys : List β}
end
section
variable {P : Program} {ops : Array Oper} {rest : List Oper} {o : Oper} {a : Act} {Q : Exit → Act → World → Prop} {Kc : Act → World → Prop} {α : Type}
end
def gap {α : Type} (f : Nat → Nat) (d : Kd α) (i : Nat) (c : List Value) : Kd (α × Nat) where
 sz := d.sz
 E := d.E
 K := fun w x cs => (x.2 = i → cs = c ∧ cs.length = d.sz ∧ ∀ u ∈ cs, u.oneCell' = true) ∧ (x.2 ≠ i → d.K w x.1 cs)
 M := fun w base ok x cs => (x.2 = i → cs = c ∧ cs.length = d.sz ∧ ∀ u ∈ cs, u.oneCell' = true) ∧ (x.2 ≠ i → d.M w base (fun k => ok k ∧ f k = x.2) x.1 cs)
 K_len := fun {w x cs} h => by
  by_cases hx : x.2 = i
  ·exact (h.1 hx).2.1
  ·exact d.K_len (h.2 hx)
 K_one := fun {w x cs} h => by
  by_cases hx : x.2 = i
  ·exact (h.1 hx).2.2
  ·exact d.K_one (h.2 hx)
 K_below := fun hb h => ⟨h.1, fun hx => d.K_below hb (h.2 hx)⟩
 K_of_M := fun h => ⟨h.1, fun hx => d.K_of_M (h.2 hx)⟩
 M_mono := fun hok h => ⟨h.1, fun hx => d.M_mono (fun k hk => ⟨hok k hk.1, hk.2⟩) (h.2 hx)⟩
 M_bound := fun h => ⟨h.1, fun hx => d.M_mono (fun _ hk => ⟨⟨hk.1.1, hk.2⟩, hk.1.2⟩) (d.M_bound (h.2 hx))⟩
 M_move := fun hm h => ⟨h.1, fun hx => d.M_move (fun k hk => hm k hk.1) (h.2 hx)⟩
 M_lower := fun hb h => ⟨h.1, fun hx => d.M_lower hb (h.2 hx)⟩
def H {α : Type} (d : Kd α) (e : Nat) (w : World) (base : Nat) (ok : Nat → Prop) (v : Value) (xs : List α) (i : Int) (oki : Nat → Prop) (c : List Value) : Prop :=
 (∀ k, oki k → ok k) ∧ ∃ f, (gap f d i.toNat c).R e w base (fun k => ok k ∧ ¬ oki k) v xs.zipIdx
section
variable {α β : Type} {d : Kd α} {e e' g n cap : Nat} {w w1 W : World} {base : Nat} {ok ok' oki okp : Nat → Prop} {u v : Value} {xs : List α} {i : Int} {c : List Value}
end
section
variable {P : Program} {ops : Array Oper} {rest : List Oper} {o : Oper} {a : Act} {Q : Exit → Act → World → Prop} {α : Type}
end
end Kd
end Go.Proofs.ZW.PrintWords
end
section
namespace Go.Proofs.ZW.PrintWords
open Go.RowKit
namespace Kd
structure Heap {α : Type} (d : Kd α) : Prop where
 K : ∀ {w w1 : World} {x : α} {cs : List Value}, (∀ k, k < w.heap.size → w1.heap[k]? = w.heap[k]?) → d.K w x cs → d.K w1 x cs
theorem cell_heap {w w1 : World} (hb : ∀ k, k < w.heap.size → w1.heap[k]? = w.heap[k]?) {a : Addr} {v : Value} (h : w.cell? a = some v) : w1.cell? a = some v := by
 have := hb a.block (World.block_lt_of_cell? w a h)
 simpa [World.cell?, this] using h
theorem Heap.C {α : Type} {d : Kd α} (hd : Heap d) {w w1 : World} {A : Option Addr} {n : Nat} {xs : List α} (hb : ∀ k, k < w.heap.size → w1.heap[k]? = w.heap[k]?) (h : d.C w A n xs) : d.C w1 A n xs :=
 ⟨h.1, h.2.1, fun hn => by
  obtain ⟨ad, e, hc⟩ := h.2.2 hn
  refine ⟨ad, e, fun j p hj => ?_⟩
  obtain ⟨c, hs, hr, hcell⟩ := hc j p hj
  exact ⟨c, hs, hd.K hb hr, fun i u hu => cell_heap hb (hcell i u hu)⟩⟩
theorem ze5 (k : IntKind) : Heap (Kd.int k) := ⟨fun _ h => h⟩
theorem zfb : Heap Kd.string := ⟨fun _ h => h⟩
theorem zji {α : Type} {d : Kd α} (e : Nat) (hd : Heap d) : Heap (slice e d) := ⟨by
 rintro w w1 x cs hb ⟨A, c, rfl, hl, hr⟩
 exact ⟨A, c, rfl, hl, hd.C hb hr⟩⟩
theorem zd1 {α β : Type} {a : Kd α} {b : Kd β} (ha : Heap a) (hb' : Heap b) : Heap (pair a b) := ⟨by
 rintro w w1 x cs hb ⟨c0, c1, rfl, h0, h1⟩
 exact ⟨c0, c1, rfl, ha.K hb h0, hb'.K hb h1⟩⟩
theorem zhh {α β : Type} {d : Kd α} (f : β → α) (hd : Heap d) : Heap (iso d f) := ⟨fun hb h => hd.K hb h⟩
section
variable {α : Type} {d : Kd α} {e base g n c : Nat} {ok : Nat → Prop} {w w0 W : World} {A : Option Addr} {xs : List α}
end
end Kd
end Go.Proofs.ZW.PrintWords
end
section
namespace Go.Proofs.ZW.PrintWords
open Go.RowKit
def Kept (w W : World) (S : Nat → Prop) : Prop := w.heap.size ≤ W.heap.size ∧ ∀ i, i < w.heap.size → ¬ S i → W.heap[i]? = w.heap[i]?
section
variable {w W W2 : World} {S S2 S' : Nat → Prop}
theorem Kept.refl (w : World) (S : Nat → Prop) : Kept w w S := ⟨Nat.le_refl _, fun _ _ _ => rfl⟩
theorem Kept.of_below (h : Below w.heap.size w W) (S : Nat → Prop) : Kept w W S := ⟨h.size, fun i hi _ => h.block i hi⟩
theorem Kept.then_ (h : Kept w W S) (k : Kept W W2 S2) (hs : ∀ k, S2 k → S k ∨ w.heap.size ≤ k) : Kept w W2 S :=
 ⟨Nat.le_trans h.1 k.1, fun i hi hn => (k.2 i (Nat.lt_of_lt_of_le hi h.1) (fun h2 => (hs i h2).elim hn (fun h3 => by omega))).trans (h.2 i hi hn)⟩
theorem Kept.zde {row : Option Nat} (hg : W.grownBy W2 row) (h : Kept w W S) (hr : ∀ k, row = some k → S k ∨ w.heap.size ≤ k) : Kept w W2 S :=
 h.then_ (S2 := fun k => row = some k) ⟨hg.size, fun i hi hn => hg.block i hi (fun he => hn he.symm)⟩ hr
theorem Kept.below (h : Kept w W S) (hb : Below W.heap.size W W2) : Kept w W2 S := h.then_ (Kept.of_below hb (fun _ => False)) (fun _ hk => hk.elim)
theorem Kept.drew (h : Kept w W S) : Kept w W.drew S := h
theorem ze3 {g : Nat} {o : Obj} (hb : W.heap[g]? = some o) (hk : Kept W W2 S) (hne : ¬ S g) : W2.heap[g]? = some o := (hk.2 g (zbk hb) hne).trans hb
end
namespace Kd
section
variable {α : Type} {d : Kd α} {e base n c : Nat} {ok oki S S2 : Nat → Prop} {w w0 W W1 W2 : World} {v : Value} {A : Option Addr} {xs : List α} {i : Int} {cs : List Value}
theorem R_kept (h : d.R e W base ok v xs) (hk : Kept W W2 S) (hne : ∀ k, ok k → ¬ S k) : d.R e W2 base ok v xs := R_step h (fun k ho hlt => hk.2 k hlt (hne k ho))
theorem Q_kept (h : d.Q e W base ok v xs) (hk : Kept W W2 S) (hne : ∀ k, ok k → ¬ S k) : d.Q e W2 base ok v xs := Q_step h (fun k ho hlt => hk.2 k hlt (hne k ho))
theorem zjd (h : d.R e W base ok (.slice A n c) xs) (hok : ∀ k, ok k → ¬ S k) : ∀ W', Kept W W' S → d.C W' A n xs := fun W' hk => by
 have h2 := R_reads' (R_kept h hk hok)
 rw [h2.1]
 exact h2.2.2
theorem C_kept_now (h : ∀ W', Kept w W' S → d.C W' A n xs) (hk : Kept w W S) : d.C W A n xs := h W hk
end
end Kd
def Foot (P : World → Prop) (W : World) (ok : Nat → Prop) : Prop := ∀ W' : World, (∀ k, ok k → k < W.heap.size → W'.heap[k]? = W.heap[k]?) → P W'
theorem heap_lt {W W1 : World} {k : Nat} (h : W1.heap[k]? = W.heap[k]?) (hlt : k < W.heap.size) : k < W1.heap.size := by
 rw [Array.getElem?_eq_getElem hlt] at h
 exact (Array.getElem?_eq_some_iff.1 h).1
namespace Foot
variable {P Q : World → Prop} {W W1 : World} {ok ok' : Nat → Prop}
theorem now (h : Foot P W ok) : P W := h W (fun _ _ _ => rfl)
theorem mono (h : Foot P W ok) (hok : ∀ k, ok k → ok' k) : Foot P W ok' := fun W' hW => h W' (fun k hk hlt => hW k (hok k hk) hlt)
theorem bound (h : Foot P W ok) : Foot P W (fun k => ok k ∧ k < W.heap.size) := fun W' hW => h W' (fun k hk hlt => hW k ⟨hk, hlt⟩ hlt)
theorem step (h : Foot P W ok) (hm : ∀ k, ok k → k < W.heap.size → W1.heap[k]? = W.heap[k]?) : Foot P W1 ok := fun W' hW => h W' (fun k hk hlt => (hW k hk (heap_lt (hm k hk hlt) hlt)).trans (hm k hk hlt))
theorem imp (h : Foot P W ok) (hi : ∀ W', P W' → Q W') : Foot Q W ok := fun W' hW => hi W' (h W' hW)
theorem old (h : Foot P W ok) (hb : Below W.heap.size W W1) : Foot P W1 (fun k => ok k ∧ k < W.heap.size) := (h.bound).step (fun k _ hlt => hb.block k hlt)
end Foot
namespace Kd
def F {α : Type} (d : Kd α) (W : World) (ok : Nat → Prop) (A : Option Addr) (n : Nat) (xs : List α) : Prop := Foot (fun W => d.C W A n xs) W ok
def FK {α : Type} (d : Kd α) (W : World) (ok : Nat → Prop) (x : α) (c : List Value) : Prop := Foot (fun W => d.K W x c) W ok
section
variable {α β : Type} {d : Kd α} {e base n n' cc g N : Nat} {ok ok' okp S : Nat → Prop} {w w0 w1 W W1 : World} {A A' : Option Addr} {u v v1 : Value} {xs : List α} {xs' : List β} {d' : Kd β} {x : α} {c : List Value}
theorem F_now (h : F d W ok A n xs) : d.C W A n xs := Foot.now h
theorem F_mono (h : F d W ok A n xs) (hok : ∀ k, ok k → ok' k) : F d W ok' A n xs := Foot.mono h hok
theorem F_bound (h : F d W ok A n xs) : F d W (fun k => ok k ∧ k < W.heap.size) A n xs := Foot.bound h
theorem F_step (h : F d W ok A n xs) (hm : ∀ k, ok k → k < W.heap.size → W1.heap[k]? = W.heap[k]?) : F d W1 ok A n xs := Foot.step h hm
theorem F_imp (h : F d W ok A n xs) (hi : ∀ W', d.C W' A n xs → d'.C W' A' n' xs') : F d' W ok A' n' xs' := Foot.imp h hi
theorem zd8 (h : F d W ok A n xs) (hb : Below W.heap.size W W1) : F d W1 ok A n xs := F_step h (fun k _ hlt => hb.block k hlt)
theorem F_kept (h : F d W ok A n xs) (hk : Kept W W1 S) (hok : ∀ k, ok k → ¬ S k) : F d W1 ok A n xs := F_step h (fun k ho hlt => hk.2 k hlt (hok k ho))
theorem F_elder' (h : F d W ok A n xs) (hbase : ∀ k, v.ownBlock = some k → W.heap.size ≤ k) (hb : Below W.heap.size W W1) : F d W1 (fun k => ok k ∧ some k ≠ v.ownBlock) A n xs :=
 F_mono (Foot.old h hb) (fun k hk => ⟨hk.1, fun he => by have := hbase k he.symm; have := hk.2; omega⟩)
theorem F_elderB (h : F d W ok A n xs) (a : Nat) (ha : W.heap.size ≤ a) : F d W (fun k => ok k ∧ k ≠ a) A n xs := F_mono (F_bound h) (fun k hk => ⟨hk.1, by have := hk.2; omega⟩)
theorem C_F (hd : Heap d) (h : d.C w A n xs) : F d w (fun k => k < w.heap.size) A n xs := fun _ hW => hd.C (fun k hlt => hW k hlt hlt) h
theorem R_F (h : d.R e W base ok (.slice A n cc) xs) : F d W ok A n xs := fun W' hW => by
 have h2 := R_reads' (R_step h hW)
 rw [h2.1]
 exact h2.2.2
theorem FK_now (h : FK d W ok x c) : d.K W x c := Foot.now h
theorem emptied (W : World) (g : Nat) : ∃ W' : World, (∀ k, k ≠ g → W'.heap[k]? = W.heap[k]?) ∧ ∀ a : Addr, a.block = g → W'.cell? a = none := by
 refine ⟨{ W with heap := W.heap.setIfInBounds g (.cells #[] 0) }, fun k hk => by simp [Ne.symm hk], fun a ha => ?_⟩
 subst ha
 by_cases hlt : a.block < W.heap.size
 ·simp [World.cell?, hlt]
 ·simp [World.cell?, hlt]
end
end Kd
end Go.Proofs.ZW.PrintWords
end
section
namespace Go.Proofs.ZW.PrintWords
open Go.RowKit
namespace Kd
section
variable {α : Type} {d : Kd α} {e base n cc g : Nat} {ok ok' okp S : Nat → Prop} {w w1 W W1 : World} {A : Option Addr} {u v v1 : Value} {xs : List α} {x : α} {c : List Value}
theorem F_get (h : F d W ok A n xs) (z : α) (i : Int) (h0 : 0 ≤ i) (h1 : i < n) :
  ∃ ad c, A = some ad ∧ c.length = d.sz ∧ FK d W ok (xs.getD i.toNat z) c ∧ (∀ j u, c[j]? = some u → W.cell? (ad.add (i.toNat * d.sz + j)) = some u) ∧ (0 < d.sz → ok ad.block) := by
 obtain ⟨ad, c, rfl, hcl, hK, hcc⟩ := zeu (F_now h) z i h0 h1
 have hin : 0 < d.sz → ok ad.block := by
  intro hs
  by_cases hk : ok ad.block
  ·exact hk
  ·obtain ⟨W', h2, h3⟩ := emptied W ad.block
   obtain ⟨ad', c', he, hcl', _, hcc'⟩ := zeu (h W' (fun k hk' _ => h2 k (fun e => hk (e ▸ hk')))) z i h0 h1
   injection he with he
   subst he
   have h4 := hcc' 0 _ (List.getElem?_eq_getElem (by omega))
   rw [h3 _ (add_block _ _)] at h4
   cases h4
 refine ⟨ad, c, rfl, hcl, fun W' hW => ?_, hcc, hin⟩
 obtain ⟨ad', c', he, hcl', hK', hcc'⟩ := zeu (h W' hW) z i h0 h1
 injection he with he
 subst he
 have hc : c = c' := by
  apply List.ext_getElem?
  intro j
  by_cases hj : j < d.sz
  ·have hb : W'.heap[ad.block]? = W.heap[ad.block]? := by
    have h5 := hcc j _ (List.getElem?_eq_getElem (by omega))
    have h6 := World.block_lt_of_cell? W _ h5
    rw [add_block] at h6
    exact hW _ (hin (by omega)) h6
   have h5 := hcc j _ (List.getElem?_eq_getElem (by omega))
   have h6 := hcc' j _ (List.getElem?_eq_getElem (by omega))
   have h7 : W'.cell? (ad.add (i.toNat * d.sz + j)) = W.cell? (ad.add (i.toNat * d.sz + j)) := by simp [World.cell?, add_block, hb]
   rw [h7, h5] at h6
   rw [List.getElem?_eq_getElem (by omega), List.getElem?_eq_getElem (by omega)]
   exact h6
  ·rw [List.getElem?_eq_none (by omega), List.getElem?_eq_none (by omega)]
 rw [hc]
 exact hK'
def N {α : Type} (d : Kd α) (e : Nat) (w : World) (base : Nat) (ok : Nat → Prop) (v : Value) (xs : List α) : Prop :=
 (∀ k, v.ownBlock = some k → ok k) ∧ ∃ rows : List (List Value), rows.length = xs.length ∧ (raw d.sz).R e w base (fun k => some k = v.ownBlock) v rows ∧ ∀ (j : Nat) (x : α) (c : List Value), xs[j]? = some x → rows[j]? = some c → FK d w (fun k => ok k ∧ some k ≠ v.ownBlock) x c
end
end Kd
end Go.Proofs.ZW.PrintWords
end
section
namespace Go.Proofs.ZW.PrintWords
open Go.RowKit
section
variable {P : Program} {d : Nat} {xs ys : Array Value} {f : Field} {fs : List Field} {a b : Value} {r s : Bool} {w : World}
theorem ziz (hn : (f.name == "_") = false) (ha : (part f.type xs f.offset).run P w = .ok a w) (hb : (part f.type ys f.offset).run P w = .ok b w) (he : (Op.equalIn d f.type a b).run P w = .ok r w) : (Op.eqFields d xs ys [f]).run P w = .ok r w := by
 have hn' : f.name ≠ "_" := by simpa using hn
 simp only [Op.eqFields, if_pos hn', Sem.run_bind, ha, hb, he, Result.andThen_ok]
 cases r <;> simp
theorem ze4 (hn : (f.name == "_") = false) (ha : (part f.type xs f.offset).run P w = .ok a w) (hb : (part f.type ys f.offset).run P w = .ok b w) (he : (Op.equalIn d f.type a b).run P w = .ok r w) (hr : (Op.eqFields d xs ys fs).run P w = .ok s w) : (Op.eqFields d xs ys (f :: fs)).run P w = .ok (r && s) w := by
 have hn' : f.name ≠ "_" := by simpa using hn
 rw [Op.eqFields]
 simp only [if_pos hn', Sem.run_bind, ha, hb, he, Result.andThen_ok]
 cases r
 ·simp
 ·simpa using hr
theorem eqA_of {t : TypeId} {fs : Array Field} (hu : P.underlying t = some (.struct fs)) (hp : P.stoodInHeld t = false) (h : (Op.eqFields d xs ys fs.toList).run P w = .ok r w) : (Op.equalIn (d + 1) t (.agg xs) (.agg ys)).run P w = .ok r w := by
 have hf : P.fieldsOf t = fs := by simp [Program.fieldsOf, hu]
 rw [run_equalIn_struct (P := P) w d t xs ys (by rw [hf]; exact hu) hp, hf]
 exact h
end
end Go.Proofs.ZW.PrintWords
end
section
namespace Go.Proofs.ZW.PrintLast
open Go.Proofs.ZW.PrintWords (zaa)
def zf7 (md : Region.Mode) (o : Oper) : List Nat := (o.after.toList.filter (fun e => Region.binds md e)).map (fun e => e.on)
def clashOf (md : Region.Mode) (ops : Array Oper) (i : Nat) (oi : Oper) : List Nat := (List.range ops.size).filter fun j => !(j == i) && match ops[j]? with
 | some oj => !(oj.after.any (fun e => Region.binds md e && e.on == i) || oi.apart ops oj)
 | none => false
def rtab (md : Region.Mode) (ops : Array Oper) : Bool × List (List Nat × List Nat) := (Region.noSelect ops, (List.range ops.size).map fun i => match ops[i]? with
 | some o => (zf7 md o, clashOf md ops i o)
 | none => ([], []))
def zet (T : List (List Nat × List Nat)) (l : List Bool) (i : Nat) : Bool := !l.getD i true && match T[i]? with
 | some r => r.1.all (fun j => l.getD j false)
 | none => false
def zge (T : List (List Nat × List Nat)) (l : List Bool) : List Nat := (List.range T.length).filter (zet T l)
def freeT (T : List (List Nat × List Nat)) (l : List Bool) (i : Nat) : Bool := match T[i]? with
 | some r => r.2.all (fun j => l.getD j true)
 | none => false
def zh6 (T : List (List Nat × List Nat)) (l : List Bool) : Bool := (List.range T.length).all fun j => !l.getD j false || match T[j]? with
 | some r => r.1.all (fun k => l.getD k false)
 | none => true
def zg9 (T : List (List Nat × List Nat)) (i : Nat) : Nat → Nat → Bool
 | 0, _ => false
 | fuel + 1, d => match T[d]? with
  | some r => r.1.any fun j => j == i || zg9 T i fuel j
  | none => false
def lastT (T : List (List Nat × List Nat)) (l : List Bool) (ds : List Nat) (i : Nat) : Bool := ds.all fun d => l.getD d true || zg9 T i T.length d
section
variable {md : Region.Mode} {ops : Array Oper} {T : Bool × List (List Nat × List Nat)} {l l' li lj lk : Array Bool} {ds : List Nat} {i j k : Nat}
theorem gd (l : Array Bool) (j : Nat) (b : Bool) : l.getD j b = l.toList.getD j b := by simp [Array.getD_eq_getD_getElem?, List.getD_eq_getElem?_getD]
theorem needs_all (o : Oper) (p : Nat → Bool) : o.after.all (fun e => !Region.binds md e || p e.on) = (zf7 md o).all p := by
 unfold zf7
 rw [← Array.all_toList]
 induction o.after.toList with
 | nil => rfl
 | cons e r ih =>
  rw [List.all_cons, ih, List.filter_cons]
  cases h : Region.binds md e <;> simp
theorem needs_any (o : Oper) (p : Nat → Bool) : o.after.any (fun e => Region.binds md e && p e.on) = (zf7 md o).any p := by
 unfold zf7
 rw [← Array.any_toList]
 induction o.after.toList with
 | nil => rfl
 | cons e r ih =>
  rw [List.any_cons, ih, List.filter_cons]
  cases h : Region.binds md e <;> simp
theorem zfe : (rtab md ops).2.length = ops.size := by simp [rtab]
theorem zgt {o : Oper} (h : ops[i]? = some o) : (rtab md ops).2[i]? = some (zf7 md o, clashOf md ops i o) := by
 have hi := (Array.getElem?_eq_some_iff.1 h).1
 unfold rtab
 rw [List.getElem?_map, List.getElem?_range hi, Option.map_some, h]
theorem zgs (h : ops[i]? = none) : (rtab md ops).2[i]? = none := by
 have hi : ops.size ≤ i := Array.getElem?_eq_none_iff.1 h
 exact List.getElem?_eq_none (by rw [zfe]; exact hi)
theorem readyAt_eq : zet (rtab md ops).2 l.toList i = (!l.getD i true && ((ops[i]?).map (·.after.all fun e => !Region.binds md e || l.getD e.on false)).getD false) := by
 unfold zet
 rw [gd]
 cases h : ops[i]? with
 | none => rw [zgs h]; rfl
 | some o =>
  rw [zgt h]
  simp only [Option.map_some, Option.getD_some]
  rw [← needs_all]
  simp only [gd]
theorem ready_eq : Region.ready md ops l = zge (rtab md ops).2 l.toList := by
 unfold Region.ready zge
 rw [zfe]
 refine List.filter_congr (fun i _ => ?_)
 rw [readyAt_eq]
theorem free_eq : Region.free md ops l i = freeT (rtab md ops).2 l.toList i := by
 unfold Region.free freeT
 cases h : ops[i]? with
 | none => rw [zgs h]
 | some oi =>
  rw [zgt h]
  simp only [clashOf]
  rw [List.all_filter]
  congr 1
  funext j
  rw [gd]
  cases hj : ops[j]? with
  | none => cases (j == i) <;> cases (l.toList.getD j true) <;> simp
  | some oj =>
   cases (j == i) <;> cases (l.toList.getD j true) <;> cases (oj.after.any (fun e => Region.binds md e && e.on == i) || oi.apart ops oj) <;> simp_all
theorem closed_eq : Region.zg2 md ops l = zh6 (rtab md ops).2 l.toList := by
 unfold Region.zg2 zh6
 rw [zfe]
 congr 1
 funext j
 rw [gd]
 cases h : ops[j]? with
 | none => rw [zgs h]
 | some o =>
  rw [zgt h]
  simp only
  rw [← needs_all]
  simp only [gd]
theorem reach_eq : ∀ (fuel d : Nat), Region.zd7 md ops i fuel d = zg9 (rtab md ops).2 i fuel d
 | 0, _ => rfl
 | fuel + 1, d => by
  unfold Region.zd7 zg9
  cases h : ops[d]? with
  | none => rw [zgs h]
  | some o =>
   rw [zgt h]
   simp only
   rw [← needs_any]
   congr 1
   funext e
   rw [reach_eq fuel]
theorem last_eq : Region.lastB md ops l ds i = lastT (rtab md ops).2 l.toList ds i := by
 unfold Region.lastB lastT
 rw [zfe]
 congr 1
 funext d
 rw [gd, reach_eq]
theorem ziq (h : zet T.2 l.toList i = true) (hT : rtab md ops = T) : (Region.ready md ops l).contains i = true := by
 subst hT
 rw [ready_eq]
 unfold zge
 rw [List.contains_iff_mem, List.mem_filter, List.mem_range]
 refine ⟨?_, h⟩
 unfold zet at h
 rw [Bool.and_eq_true] at h
 cases hq : (rtab md ops).2[i]? with
 | none => rw [hq] at h; simp at h
 | some r => exact (List.getElem?_eq_some_iff.1 hq).1
theorem set_of (h : (l.toList.set i true == l'.toList) = true) : (l.setIfInBounds i true == l') = true := by
 rw [beq_iff_eq] at h ⊢
 apply Array.ext'
 rw [Array.toList_setIfInBounds]
 exact h
def anyT (T : Bool × List (List Nat × List Nat)) (l l' : List Bool) (i : Nat) : Bool := T.1 && freeT T.2 l i && zet T.2 l i && (l.set i true == l')
theorem any_of (hT : rtab md ops = T) (h : anyT T l.toList l'.toList i = true) : anyB md ops l l' i = true := by
 simp only [anyT, Bool.and_eq_true] at h
 obtain ⟨⟨⟨h1, h2⟩, h3⟩, h4⟩ := h
 have h5 := ziq h3 hT
 have h6 := set_of h4
 subst hT
 simp only [anyB, Bool.and_eq_true]
 exact ⟨⟨⟨h1, by rw [free_eq]; exact h2⟩, h5⟩, h6⟩
def takeT (T : Bool × List (List Nat × List Nat)) (ds : List Nat) (l l' : List Bool) (i : Nat) : Bool := T.1 && freeT T.2 l i && zet T.2 l i && zh6 T.2 l && lastT T.2 l ds i && (l.set i true == l')
theorem take_of (hT : rtab md ops = T) (h : takeT T ds l.toList l'.toList i = true) : takeB md ops ds l l' i = true := by
 simp only [takeT, Bool.and_eq_true] at h
 obtain ⟨⟨⟨⟨⟨h1, h2⟩, h3⟩, h4⟩, h5⟩, h6⟩ := h
 have h7 := ziq h3 hT
 have h8 := set_of h6
 subst hT
 simp only [takeB, Bool.and_eq_true]
 exact ⟨⟨⟨⟨⟨h1, by rw [free_eq]; exact h2⟩, h7⟩, by rw [closed_eq]; exact h4⟩, by rw [last_eq]; exact h5⟩, h8⟩
theorem one_of (hT : rtab md ops = T) (h : (zge T.2 l.toList == [i] && l.toList.set i true == l'.toList) = true) : zfm md ops l l' i = true := by
 simp only [Bool.and_eq_true] at h
 obtain ⟨h1, h2⟩ := h
 subst hT
 simp only [zfm, Bool.and_eq_true]
 exact ⟨by rw [ready_eq]; exact h1, set_of h2⟩
theorem zb4 (hT : rtab md ops = T) (h : (zge T.2 l.toList == []) = true) : (Region.ready md ops l == []) = true := by
 subst hT
 rw [ready_eq]
 exact h
def upM (B : List Nat) (d : Nat) : List Nat → Nat
 | [] => 0
 | n :: r => (2 ^ n ||| (if n < d then B.getD n 0 else 0)) ||| upM B d r
def zc6 (T : List (List Nat × List Nat)) (B : List Nat) : Bool := (List.range T.length).all fun d => match T[d]? with
 | some r => (B.getD d 0 ||| upM B d r.1) == upM B d r.1
 | none => false
theorem upM_bit {B : List Nat} {d i : Nat} : ∀ {ns : List Nat}, (upM B d ns).testBit i = true → ∃ n ∈ ns, n = i ∨ (n < d ∧ (B.getD n 0).testBit i = true)
 | [], h => by simp [upM] at h
 | n :: r, h => by
  unfold upM at h
  rw [Nat.testBit_or, Nat.testBit_or, Bool.or_eq_true, Bool.or_eq_true] at h
  rcases h with (h | h) | h
  ·rw [Nat.testBit_two_pow] at h
   exact ⟨n, List.mem_cons_self, .inl (by simpa using h)⟩
  ·by_cases hn : n < d
   ·rw [if_pos hn] at h
    exact ⟨n, List.mem_cons_self, .inr ⟨hn, h⟩⟩
   ·rw [if_neg hn] at h
    simp at h
  ·obtain ⟨m, hm, h2⟩ := upM_bit h
   exact ⟨m, List.mem_cons_of_mem _ hm, h2⟩
theorem reach_bit {T : List (List Nat × List Nat)} {B : List Nat} (hB : zc6 T B = true) : ∀ (fuel d : Nat), d < fuel → d < T.length → (B.getD d 0).testBit i = true → zg9 T i fuel d = true
 | 0, d, h, _, _ => by omega
 | fuel + 1, d, h, hd, hb => by
  have h1 := List.all_eq_true.1 hB d (List.mem_range.2 hd)
  cases hr : T[d]? with
  | none => rw [hr] at h1; simp at h1
  | some r =>
   rw [hr] at h1
   simp only [beq_iff_eq] at h1
   have h2 : (upM B d r.1).testBit i = true := by rw [← h1, Nat.testBit_or, hb, Bool.true_or]
   obtain ⟨n, hn, h3⟩ := upM_bit h2
   unfold zg9
   rw [hr]
   simp only
   rw [List.any_eq_true]
   refine ⟨n, hn, ?_⟩
   rcases h3 with rfl | ⟨h4, h5⟩
   ·simp
   ·rw [reach_bit hB fuel n (by omega) (by omega) h5, Bool.or_true]
def lastW (T : List (List Nat × List Nat)) (B : List Nat) (l : List Bool) (ds : List Nat) (i : Nat) : Bool := ds.all fun d => l.getD d true || (decide (d < T.length) && (B.getD d 0).testBit i)
def takeW (T : Bool × List (List Nat × List Nat)) (B : List Nat) (ds : List Nat) (l l' : List Bool) (i : Nat) : Bool := T.1 && freeT T.2 l i && zet T.2 l i && zh6 T.2 l && lastW T.2 B l ds i && (l.set i true == l')
theorem take_ofW {B : List Nat} (hT : rtab md ops = T) (hB : zc6 T.2 B = true) (h : takeW T B ds l.toList l'.toList i = true) : takeB md ops ds l l' i = true := by
 refine take_of hT ?_
 simp only [takeW, takeT, Bool.and_eq_true] at h ⊢
 obtain ⟨⟨⟨⟨⟨h1, h2⟩, h3⟩, h4⟩, h5⟩, h6⟩ := h
 refine ⟨⟨⟨⟨⟨h1, h2⟩, h3⟩, h4⟩, ?_⟩, h6⟩
 unfold lastW at h5
 unfold lastT
 rw [List.all_eq_true] at h5 ⊢
 intro d hd
 have h7 := h5 d hd
 rw [Bool.or_eq_true, Bool.and_eq_true, decide_eq_true_eq] at h7
 rcases h7 with h7 | ⟨h8, h9⟩
 ·rw [h7, Bool.true_or]
 ·rw [reach_bit hB _ d h8 h8 h9, Bool.or_true]
theorem zbw {P : Program} {Q : Exit → Act → World → Prop} {S : World → Prop} {n : Nat} {a : Act} {w : World} {B : List Nat} (hT : rtab md ops = T) (hB : zc6 T.2 B = true) (h : zaa (rtab md ops = T) → zaa (zc6 T.2 B = true) → za0 P md ops Q S ds n l a w) : za0 P md ops Q S ds n l a w := h ⟨hT⟩ ⟨hB⟩
end
def zfc : Code → Nat → Option (Array Oper)
 | .region id ops _, k => if id == k then some ops else none
 | .seq a b, k => match zfc a k with
  | some o => some o
  | none => zfc b k
 | .cond _ a b, k => match zfc a k with
  | some o => some o
  | none => zfc b k
 | .block _ c, k => zfc c k
 | .loop c, k => zfc c k
 | .scope c, k => zfc c k
 | .rangeFunc _ _ a b, k => match zfc a k with
  | some o => some o
  | none => zfc b k
 | _, _ => none
def opsOf (f : Func) (k : Nat) : Array Oper := ((f.body.bind fun c => zfc c k)).getD #[]
end Go.Proofs.ZW.PrintLast
namespace Go.Proofs.ZW.PrintLast
open Go Go.RowKit Go.Proofs.ZW.PrintWords
section
variable {P : Program} {ops : Array Oper} {Q : Exit → Act → World → Prop} {md : Region.Mode} {S : World → Prop} {ds : List Nat} {T : Bool × List (List Nat × List Nat)} {oi : Oper} {v : Value} {fuel : Nat} {l : Array Bool} {a : Act} {w : World} {a' : Act} {N : Option Tmp} {K : Act → World → Prop} {f : FuncId} {fn : Func} {as_ : Array Operand} {ts : Array TypeId}
theorem Ypt (i N_ m_ k_ : Nat) (hT : zaa (rtab md ops = T)) (h : za0 P md ops Q S ds fuel (Ymk m_ k_) a' w) (hi : ops[i]? = some oi := by rfl) (hN : oi.dst = some N_ := by rfl) (hc : anyT T l.toList (Ymk m_ k_).toList i = true := by kernel_rfl) (hQ : ∀ c a w, Q (.panic c) (a.put oi.dst v) w → Q (.panic c) a w := by exact fun _ _ _ h => h) (hw : Region.wanted oi (yielded ops a.tmps) = true := by rfl) (hv : ∀ w, (execOp a.eval oi).run P w = .ok (.value v) w := by intro w'; go_simp; with_reducible rfl) (ha : a.put (some N_) v = a' := by simp only [Act.put, Y1, Y2, Y3, zd9, zeo]; rfl) : za0 P md ops Q S ds (fuel + 1) l a w := pure_ (Ymk m_ k_) hi hN (any_of hT.out hc) hQ (Or.inl ⟨hw, hv⟩) ha h
theorem Ypu (i N_ m_ k_ : Nat) (hT : zaa (rtab md ops = T)) (h : za0 P md ops Q S ds fuel (Ymk m_ k_) a' w) (hi : ops[i]? = some oi := by rfl) (hN : oi.dst = some N_ := by rfl) (hc : anyT T l.toList (Ymk m_ k_).toList i = true := by kernel_rfl) (hQ : ∀ c a w, Q (.panic c) (a.put oi.dst undef) w → Q (.panic c) a w := by exact fun _ _ _ h => h) (hw : Region.wanted oi (yielded ops a.tmps) = false := by rfl) (ha : a.put (some N_) undef = a' := by simp only [Act.put, Y1, Y2, Y3, zd9, zeo]; rfl) : za0 P md ops Q S ds (fuel + 1) l a w := pure_ (Ymk m_ k_) hi hN (any_of hT.out hc) hQ (Or.inr ⟨hw, rfl⟩) ha h
theorem Ypk  (i N_ m_ k_ : Nat) (h : za0 P md ops Q S ds fuel (Ymk m_ k_) a' w) (hi : ops[i]? = some oi := by rfl) (hN : oi.dst = some N_ := by rfl) (hc : anyB md ops l (Ymk m_ k_) i = true := by kernel_rfl) (hQ : ∀ c a w, Q (.panic c) (a.put oi.dst v) w → Q (.panic c) a w := by exact fun _ _ _ h => h) (hw : Region.wanted oi (yielded ops a.tmps) = true := by rfl) (hv : ∀ w, (execOp a.eval oi).run P w = .ok (.value v) w := by intro w'; go_simp; with_reducible rfl) (ha : a.put (some N_) v = a' := by simp only [Act.put, Y1, Y2, Y3]; rfl) : za0 P md ops Q S ds (fuel + 1) l a w := pure_ (Ymk m_ k_) hi hN hc hQ (Or.inl ⟨hw, hv⟩) ha h
theorem Ypj  (i N_ m_ k_ : Nat) (h : za0 P md ops Q S ds fuel (Ymk m_ k_) a' w) (hi : ops[i]? = some oi := by rfl) (hN : oi.dst = some N_ := by rfl) (hc : anyB md ops l (Ymk m_ k_) i = true := by kernel_rfl) (hQ : ∀ c a w, Q (.panic c) (a.put oi.dst undef) w → Q (.panic c) a w := by exact fun _ _ _ h => h) (hw : Region.wanted oi (yielded ops a.tmps) = false := by rfl) (ha : a.put (some N_) undef = a' := by simp only [Act.put, Y1, Y2, Y3]; rfl) : za0 P md ops Q S ds (fuel + 1) l a w := pure_ (Ymk m_ k_) hi hN hc hQ (Or.inr ⟨hw, rfl⟩) ha h
theorem Ytt (i N_ m_ k_ : Nat) (hT : zaa (rtab md ops = T)) {B : List Nat} (hB : zaa (zc6 T.2 B = true)) (hS : S w) (h : za0 P md ops Q S ds fuel (Ymk m_ k_) a' w) (hi : ops[i]? = some oi := by rfl) (hN : oi.dst = some N_ := by rfl) (hc : takeW T B ds l.toList (Ymk m_ k_).toList i = true := by kernel_rfl) (hQ : ∀ c a w, Q (.panic c) (a.put oi.dst v) w → Q (.panic c) a w := by exact fun _ _ _ h => h) (hw : Region.wanted oi (yielded ops a.tmps) = true := by rfl) (hv : ∀ w, S w → (execOp a.eval oi).run P w = .ok (.value v) w := by intro w' hS; (try dsimp only at hS); go_simp; with_reducible rfl) (ha : a.put (some N_) v = a' := by simp only [Act.put, Y1, Y2, Y3, zd9, zeo]; rfl) : za0 P md ops Q S ds (fuel + 1) l a w := take_ (Ymk m_ k_) hi hN (take_ofW hT.out hB.out hc) hQ (Or.inl ⟨hw, hv⟩) hS ha h
theorem Ytk  (i N_ m_ k_ : Nat) (hS : S w) (h : za0 P md ops Q S ds fuel (Ymk m_ k_) a' w) (hi : ops[i]? = some oi := by rfl) (hN : oi.dst = some N_ := by rfl) (hc : takeB md ops ds l (Ymk m_ k_) i = true := by kernel_rfl) (hQ : ∀ c a w, Q (.panic c) (a.put oi.dst v) w → Q (.panic c) a w := by exact fun _ _ _ h => h) (hw : Region.wanted oi (yielded ops a.tmps) = true := by rfl) (hv : ∀ w, S w → (execOp a.eval oi).run P w = .ok (.value v) w := by intro w' hS; (try dsimp only at hS); go_simp; with_reducible rfl) (ha : a.put (some N_) v = a' := by simp only [Act.put, Y1, Y2, Y3]; rfl) : za0 P md ops Q S ds (fuel + 1) l a w := take_ (Ymk m_ k_) hi hN hc hQ (Or.inl ⟨hw, hv⟩) hS ha h
theorem Ynm (N_ : Nat) (h : za0 P md ops Q S ds fuel l a' w) (ha : a.put (some N_) v = a' := by simp only [Act.put, Y1, Y2, Y3]; rfl) : za0 P md ops Q S ds fuel l (a.put (some N_) v) w := zep ha h
theorem Ynw (N_ : Nat) (h : za0 P md ops Q S ds fuel l a' w) (ha : a.put (some N_) v = a' := by simp only [Act.put, Y1, Y2, Y3, zd9, zeo]; rfl) : za0 P md ops Q S ds fuel l (a.put (some N_) v) w := zep ha h
theorem Ygh (hf : P.funcs[f]? = some fn) (args : Array Value)
  (h : Calls P f args w fun e w' => ∃ v, e = .returned v ∧ K (a.put N v) w') (hname : (fn.name == "runtime.NumGoroutine") = false := by kernel_rfl) (hb : fn.body.isSome = true := by rfl)
  (hw : Region.wanted oi (yielded ops a.tmps) = true := by rfl) (hN : oi.dst = N := by rfl) (hop : oi.op = .call { callee := .value (.func f), args := as_, argTypes := ts } := by rfl) (hargs : as_.map a.eval = args := by first | rfl | (simp [Act.eval]; done) | (simp [go_sem]; done)) : if Region.wanted oi (yielded ops a.tmps) = true then Oper.wp P oi a w K Q else K (a.put N undef) w := goes_ hf hname hb args hw hN hop hargs h
theorem Yok (i N_ m_ k_ : Nat) (h : ∀ K : Act → World → Prop, Shut (∀ a' w', S w' → (S w' → za0 P md ops Q S ds fuel (Ymk m_ k_) a' w') → K a' w') → if Region.wanted oi (yielded ops a.tmps) = true then Oper.wp P oi a w K Q else K (a.put (some N_) undef) w) (hi : ops[i]? = some oi := by rfl) (hN : oi.dst = some N_ := by rfl) (hc : zfm md ops l (Ymk m_ k_) i = true := by kernel_rfl) (hd : i ∉ ds := by decide) : za0 P md ops Q S ds (fuel + 1) l a w := one_ (Ymk m_ k_) hi hN hc hd h
theorem Yot (i N_ m_ k_ : Nat) (hT : zaa (rtab md ops = T)) (h : ∀ K : Act → World → Prop, Shut (∀ a' w', S w' → (S w' → za0 P md ops Q S ds fuel (Ymk m_ k_) a' w') → K a' w') → if Region.wanted oi (yielded ops a.tmps) = true then Oper.wp P oi a w K Q else K (a.put (some N_) undef) w) (hi : ops[i]? = some oi := by rfl) (hN : oi.dst = some N_ := by rfl) (hc : (zge T.2 l.toList == [i] && l.toList.set i true == (Ymk m_ k_).toList) = true := by kernel_rfl) (hd : i ∉ ds := by decide) : za0 P md ops Q S ds (fuel + 1) l a w := one_ (Ymk m_ k_) hi hN (one_of hT.out hc) hd h
theorem Ylk (i N_ m_ k_ : Nat) (h : ∀ K : Act → World → Prop, Shut (∀ a' w', za0 P md ops Q S ds fuel (Ymk m_ k_) a' w' → K a' w') → if Region.wanted oi (yielded ops a.tmps) = true then Oper.wp P oi a w K Q else K (a.put (some N_) undef) w) (hi : ops[i]? = some oi := by rfl) (hN : oi.dst = some N_ := by rfl) (hc : zfm md ops l (Ymk m_ k_) i = true := by kernel_rfl) (hd : i ∈ ds := by decide) : za0 P md ops Q S ds (fuel + 1) l a w := zfv (Ymk m_ k_) hi hN hc hd h
theorem Ylt (i N_ m_ k_ : Nat) (hT : zaa (rtab md ops = T)) (h : ∀ K : Act → World → Prop, Shut (∀ a' w', za0 P md ops Q S ds fuel (Ymk m_ k_) a' w' → K a' w') → if Region.wanted oi (yielded ops a.tmps) = true then Oper.wp P oi a w K Q else K (a.put (some N_) undef) w) (hi : ops[i]? = some oi := by rfl) (hN : oi.dst = some N_ := by rfl) (hc : (zge T.2 l.toList == [i] && l.toList.set i true == (Ymk m_ k_).toList) = true := by kernel_rfl) (hd : i ∈ ds := by decide) : za0 P md ops Q S ds (fuel + 1) l a w := zfv (Ymk m_ k_) hi hN (one_of hT.out hc) hd h
end
theorem Yfi {α : Sort _} {a b : α} (h : a = b := by first | rfl | (simp [errW_none, errW_some] <;> rfl) | (simp [*, errW_none, errW_some] <;> rfl)) : a = b := h
theorem Yfs {α : Sort _} {a b : α} (h : a = b := by first | rfl | (simp; done) | (simp [*]; done)) : a = b := h
theorem Ygs {P : Program} {ops : Array Oper} {oi : Oper} {N : Option Tmp} {a : Act} {w : World} {Q : Exit → Act → World → Prop} {K : Act → World → Prop} {f : FuncId} {fn : Func} {as_ : Array Operand} {ts : Array TypeId} (hf : P.funcs[f]? = some fn) (args : Array Value)
  (h : Calls P f args w fun e w' => ∃ v, e = .returned v ∧ K (a.put N v) w') (hname : (fn.name == "runtime.NumGoroutine") = false := by kernel_rfl) (hb : fn.body.isSome = true := by rfl)
  (hw : Region.wanted oi (yielded ops a.tmps) = true := by rfl) (hN : oi.dst = N := by rfl) (hop : oi.op = .call { callee := .value (.func f), args := as_, argTypes := ts } := by rfl) (hargs : as_.map a.eval = args := by (try simp only [List.map_toArray, List.map_cons, List.map_nil]); first | done | rfl | (simp only [List.length_drop, List.length_take]; rfl)) : if Region.wanted oi (yielded ops a.tmps) = true then Oper.wp P oi a w K Q else K (a.put N undef) w := goes_ hf hname hb args hw hN hop hargs h
theorem Ygl {P : Program} {ops : Array Oper} {Q : Exit → Act → World → Prop} {rest : List Oper} {oi : Oper} {a : Act} {w : World} (N : Option Tmp) {f : FuncId} {fn : Func} {as_ : Array Operand} {ts : Array TypeId} (hf : P.funcs[f]? = some fn) (args : Array Value)
  (h : Calls P f args w fun e w' => ∃ v, e = .returned v ∧ wpList P ops Q rest (a.put N v) w') (hd : oi.dst = N := by rfl) (hg : oi.guard = none := by rfl) (hname : (fn.name == "runtime.NumGoroutine") = false := by kernel_rfl) (hb : fn.body.isSome = true := by rfl)
  (hop : oi.op = .call { callee := .value (.func f), args := as_, argTypes := ts } := by rfl) (hargs : as_.map a.eval = args := by (try simp only [List.map_toArray, List.map_cons, List.map_nil]); first | done | rfl | (simp only [List.length_drop, List.length_take]; rfl)) : wpList P ops Q (oi :: rest) a w := goesL_ N hd hg hf hname hb args hop hargs h
theorem Yod {p : Prop} [Decidable p] (h : decide p = true := by first | (with_reducible assumption) | assumption) : p := of_decide_eq_true h
theorem Ybe {n : Nat} {w w' : World} (h : Below n w w' := by repeat (first | (with_reducible first | exact HB.out | apply za2 | apply zav | apply zas) | exact HB.out)) : Below n w w' := h
class Ygr (w w' : World) : Prop where below : Below w.heap.size w w'
instance Ygr0 {w : World} : Ygr w w := ⟨Below.refl _ _⟩
instance Ygr1 {w w' : World} [h : Ygr w w'] : Ygr w w'.drew := ⟨zas h.below⟩
instance Ygr2 {w w' : World} {n : Nat} [h : Ygr w w'] : Ygr w (w'.drewN n) := ⟨zav h.below n⟩
instance Ygr3 {w w' : World} {o : Obj} [h : Ygr w w'] : Ygr w (w'.alloc o) := ⟨za2 h.below o⟩
theorem Yg {w w' : World} {g : Nat} {o : Obj} (h : zaa (w.heap[g]? = some o)) [k : Ygr w w'] : w'.heap[g]? = some o := zat h.out k.below
theorem Ykb {w w' w2 : World} {g : Nat} {o : Obj} (h : zaa (w.heap[g]? = some o)) (hb : Below w'.heap.size w' w2) [Ygr w w'] : zaa (w2.heap[g]? = some o) := ⟨zat (Yg h) hb⟩
theorem Ynl {w w' : World} {g g' : Nat} {o : Obj} (h : zaa (w.heap[g]? = some o)) (hg : g' = w'.heap.size) [Ygr w w'] : zaa (g ≠ g') := ⟨by rw [hg]; exact Nat.ne_of_lt (zbk (Yg h))⟩
theorem Yng {w w' : World} {g g' : Nat} {o : Obj} (h : zaa (w.heap[g]? = some o)) (hg : g' = w'.heap.size) [Ygr w w'] : zaa (g' ≠ g) := ⟨by rw [hg]; exact Nat.ne_of_gt (zbk (Yg h))⟩
theorem Ygw {w w' : World} {g : Nat} (hg : g = w'.heap.size) (h : Below w.heap.size w w') : zaa (w.heap.size ≤ g) := ⟨by rw [hg]; exact za8 h⟩
theorem Yr {α : Type} {d : Kd α} {e base : Nat} {ok : Nat → Prop} {v : Value} {xs : List α} {w w' : World} (h : zaa (Kd.R d e w base ok v xs)) [k : Ygr w w'] : Kd.R d e w' base ok v xs := Kd.zbc h.out k.below
theorem Ycf {W : World} {a : Addr} {b : Nat} {u : Value} (p : Addr) (v : Value) (hn : b ≠ p.block) (hx : W.cell? a = some u) (e : a.block = b := by first | exact add_block _ _ | rfl | (show (Addr.add _ _).block = _; exact add_block _ _)) : (W.setCell p v).cell? a = some u := (cell_far (by rw [e]; exact hn) v).trans hx
theorem Yb4 {w W w1 : World} {g : Nat} {o : Obj} (hbox : w1.heap[g]? = some o) (hg : g = W.heap.size) (hb : Below W.heap.size W w1) (h : Below w.heap.size w W) : zaa (w1.heap[g]? = some o) ∧ zaa (w.heap.size ≤ g) ∧ zaa (w.heap.size ≤ g) ∧ zaa (Below w.heap.size w w1) := ⟨⟨hbox⟩, Ygw hg h, Ygw hg h, ⟨zay h hb⟩⟩
theorem Ydd {w : World} {a b c : Nat} : (w.drewN (a + b)).drewN c = w.drewN (a + (b + c)) := Eq.trans (World.drewN_drewN _ _ _) (congrArg (World.drewN _) (Nat.add_assoc _ _ _))
theorem Ybx {P : Program} {ops : Array Oper} {o : Oper} {a : Act} {Q : Exit → Act → World → Prop} {rest : List Oper} {W : World} (N : Tmp) (cs : Array Value) (t : TypeId)
  (h : ∀ g, g = W.heap.size → ∀ w1, w1.heap[g]? = some (.cells cs t (0, 0)) → Below W.heap.size W w1 → wpList P ops Q rest (a.put o.dst (.pointer (some ⟨g, 0, none⟩))) w1)
  (hd : o.dst = some N := by rfl) (hgd : o.guard = none := by rfl) (hr : (execOp a.eval o).run P W = .ok (.value (.pointer (some ⟨W.heap.size, 0, none⟩))) (W.alloc (.cells cs t (0, 0))) := by first | (go_simp; done) | (go_simp; rfl)) : wpList P ops Q (o :: rest) a W := box_event hgd hd hr h
theorem Yc3 {w : World} {g : Nat} {t : TypeId} {v0 v1 v2 : Value} (h : w.heap[g]? = some (.cells #[v0, v1, v2] t (0, 0))) : w.cell? ⟨g, 0, none⟩ = some v0 ∧ w.frozen? ⟨g, 0, none⟩ = false ∧ w.cell? ⟨g, 1, none⟩ = some v1 ∧ w.frozen? ⟨g, 1, none⟩ = false ∧ w.cell? ⟨g, 2, none⟩ = some v2 ∧ w.frozen? ⟨g, 2, none⟩ = false := ⟨(zab h 0).trans rfl, zdi h 0, (zab h 1).trans rfl, zdi h 1, (zab h 2).trans rfl, zdi h 2⟩
end Go.Proofs.ZW.PrintLast
end
section
namespace Go.Proofs.ZW.PrintWords
open Go.RowKit
section
variable {P : Program} {ops : Array Oper} {rest : List Oper} {o : Oper} {a : Act} {Q : Exit → Act → World → Prop} {W : World}
theorem zaz (hw : Region.wanted o (yielded ops a.tmps) = true) (h : wpList P ops Q ({ o with guard := none } :: rest) a W) : wpList P ops Q (o :: rest) a W := by
 have h1 : Region.wanted { o with guard := none } (yielded ops a.tmps) = true := rfl
 unfold wpList at h ⊢
 rw [if_pos h1] at h
 rw [if_pos hw]
 exact h
end
end Go.Proofs.ZW.PrintWords
end
section
namespace Go.Proofs.ZW.PrintLast
def up (b : Nat → Bool) (i : Nat) : Nat → Bool := fun j => if j = i then true else b j
section
variable {P : Program} {ops : Array Oper} {Q : Exit → Act → World → Prop} {md : Region.Mode} {T : Bool × List (List Nat × List Nat)} {B : List Nat} {O : List Nat} {b : Nat → Bool} {i j n : Nat}
end
end Go.Proofs.ZW.PrintLast
end
section
namespace Go.Proofs.ZW.PrintMore
open Go.RowKit Go.Proofs.ZW.PrintWords
namespace Kd
open Go.Proofs.ZW.PrintWords.Kd
theorem R_get {α : Type} {d : Kd α} {e base n cap : Nat} {ok : Nat → Prop} {W : World} {ad : Addr} {xs : List α} (h : d.R e W base ok (.slice (some ad) n cap) xs) (z : α) (i : Int) (h0 : 0 ≤ i) (h1 : i < n) :
  ∃ c, c.length = d.sz ∧ d.M W base (fun k => ok k ∧ some k ≠ (Value.slice (some ad) n cap).ownBlock) (xs.getD i.toNat z) c ∧ ∀ j u, c[j]? = some u → W.cell? (ad.add (i.toNat * d.sz + j)) = some u := by
 obtain ⟨g, hg⟩ : ∃ g, ad = ⟨g, 0, none⟩ := by
  obtain ⟨_, inner, ho, _⟩ := h
  rcases ho.2 with ⟨hv, _⟩ | ⟨g, cap', cur, hv, _⟩
  ·cases hv
  ·injection hv with ha _ _
   injection ha with ha
   exact ⟨g, ha⟩
 subst hg
 obtain ⟨c, hcl, hM, hcc, _⟩ := R_elem h z i h0 h1
 refine ⟨c, hcl, d.M_mono (fun k hk => ⟨hk.1, fun he => hk.2 ?_⟩) hM, fun j u hu => ?_⟩
 ·rw [add_at, Nat.zero_add]
  exact hcc j u hu
 ·simpa [Value.ownBlock] using he
end Kd
namespace Kd
open Go.Proofs.ZW.PrintWords.Kd
section
variable {α : Type} {d : Kd α} {e base g N : Nat} {ok : Nat → Prop} {W w1 : World} {u v : Value} {xs : List α}
end
end Kd
end Go.Proofs.ZW.PrintMore
namespace Go.Proofs.ZW.PrintWords
open Go.RowKit
section
variable {P : Program} {ops : Array Oper} {rest : List Oper} {o : Oper} {a : Act} {Q : Exit → Act → World → Prop} {W : World}
theorem zbm {f : FuncId} {as_ : Array Operand} {ts : Array TypeId} (_ho : o.op = .call { callee := .value (.func f), args := as_, argTypes := ts }) (h : wpList P ops Q (o :: rest) a W) : wpList P ops Q (o :: rest) a W := h
theorem zca {b : Builtin} {xs : Array Operand} {ts : Array TypeId} (_ho : o.op = .call { callee := .builtin b, args := xs, argTypes := ts }) (h : wpList P ops Q (o :: rest) a W) : wpList P ops Q (o :: rest) a W := h
end
namespace Kd
section
variable {α : Type} {d : Kd α} {e base : Nat} {ok : Nat → Prop} {W w1 : World} {v : Value} {xs : List α}
end
section
variable {α : Type} {d : Kd α} {e base g n cap : Nat} {ok oki okp : Nat → Prop} {W : World} {xs : List α} {i : Int} {c : List Value}
end
section
variable {α : Type} {d : Kd α} {e base b b' g N : Nat} {ok ok1 : Nat → Prop} {W W2 w1 : World} {u v : Value} {xs ys : List α} {S : Nat → Prop}
theorem R_reok (hE : d.E = []) (h : d.R e W base ok1 v xs) (hok : ∀ k, v.ownBlock = some k → ok k) : d.R e W base ok v xs := zba (zgx hE h) (fun k hk => hok k hk.symm)
theorem zee (h : d.R e W base ok v xs) (hk : Kept W W2 S) (hne : ∀ k, ok k → ¬ S k) : d.R e W2 base (fun k => ok k ∧ (¬ S k ∧ k < W.heap.size)) v xs :=
 R_kept (zba (zcz h) (fun k hk => ⟨hk.1, hne k hk.1, hk.2.2.1⟩)) hk (fun _ hk => hk.2.1)
theorem Q_keptB (h : d.Q e W base ok v xs) (hk : Kept W W2 S) (hne : ∀ k, ok k → ¬ S k) : d.Q e W2 base (fun k => ok k ∧ (¬ S k ∧ k < W.heap.size)) v xs :=
 Q_kept (zd6 (zh2 h) (fun k hk => ⟨hk.1, hne k hk.1, hk.2.2.1⟩)) hk (fun _ hk => hk.2.1)
end
end Kd
end Go.Proofs.ZW.PrintWords
namespace Go.Proofs.ZW.PrintWords
open Go.RowKit
namespace Kd
def V {α : Type} (d : Kd α) (_e : Nat) (W : World) (_base : Nat) (ok : Nat → Prop) (v : Value) (xs : List α) : Prop := ∃ A c, v = .slice A xs.length c ∧ xs.length ≤ c ∧ F d W ok A xs.length xs
section
variable {α β : Type} {d : Kd α} {e base base' n m c g N' lo hi : Nat} {ok ok' S : Nat → Prop} {w W w1 : World} {A : Option Addr} {ad : Addr} {u v v1 : Value} {xs : List α}
theorem V_map (h : V d e W base ok v xs) (hF : ∀ A, F d W ok A xs.length xs → F d w1 ok' A xs.length xs) : V d e w1 base' ok' v xs := by
 obtain ⟨A, c, hv, hl, hf⟩ := h
 exact ⟨A, c, hv, hl, hF A hf⟩
theorem V_mk (hl : xs.length ≤ c) (hf : F d W ok A xs.length xs) : V d e W base ok (.slice A xs.length c) xs := ⟨A, c, rfl, hl, hf⟩
theorem zeg (h : V d e W base ok v xs) : ∃ A c, v = .slice A xs.length c := by
 obtain ⟨A, c, hv, _⟩ := h
 exact ⟨A, c, hv⟩
theorem V_at (h : V d e W base ok (.slice A n c) xs) : n = xs.length ∧ n ≤ c ∧ F d W ok A xs.length xs := by
 obtain ⟨A', c', hv, hl, hf⟩ := h
 injection hv with ha hn hc
 subst ha; subst hc
 exact ⟨hn, by rw [hn]; exact hl, hf⟩
theorem V_reads' (h : V d e W base ok (.slice A n c) xs) : n = xs.length ∧ n ≤ c ∧ d.C W A xs.length xs := ⟨(V_at h).1, (V_at h).2.1, F_now (V_at h).2.2⟩
theorem V_F (h : V d e W base ok (.slice A n c) xs) : F d W ok A n xs := by
 obtain ⟨hn, _, hf⟩ := V_at h
 rw [hn]
 exact hf
theorem R_V (h : d.R e W base ok v xs) : V d e W base' ok v xs := by
 obtain ⟨A, c, rfl⟩ := zbj h
 exact ⟨A, c, rfl, (R_reads' h).2.1, R_F h⟩
theorem zc2 (h : V d e W base ok v xs) (hok : ∀ k, ok k → ok' k) : V d e W base ok' v xs := V_map h (fun _ hf => F_mono hf hok)
theorem V_bound (h : V d e W base ok v xs) : V d e W base (fun k => ok k ∧ k < W.heap.size) v xs := V_map h (fun _ hf => F_bound hf)
theorem zef (h : V d e W base ok v xs) (_ : base' ≤ base) : V d e W base' ok v xs := h
theorem zh4 (h : V d e W base ok v xs) (hb : Below W.heap.size W w1) : V d e w1 base ok v xs := V_map h (fun _ hf => zd8 hf hb)
theorem V_kept (h : V d e W base ok v xs) (hk : Kept W w1 S) (hok : ∀ k, ok k → ¬ S k) : V d e w1 base ok v xs := V_map h (fun _ hf => F_kept hf hk hok)
theorem V_elder' (h : V d e W base ok v xs) (hbase : ∀ k, u.ownBlock = some k → W.heap.size ≤ k) (hb : Below W.heap.size W w1) : V d e w1 base (fun k => ok k ∧ some k ≠ u.ownBlock) v xs := V_map h (fun _ hf => F_elder' hf hbase hb)
theorem zhc (h : V d e W base ok v xs) (a : Nat) (ha : W.heap.size ≤ a) : V d e W base (fun k => ok k ∧ k ≠ a) v xs := V_map h (fun _ hf => F_elderB hf a ha)
theorem V_keptB (h : V d e W base ok v xs) (hk : Kept W w1 S) (hne : ∀ k, ok k → ¬ S k) : V d e w1 base (fun k => ok k ∧ (¬ S k ∧ k < W.heap.size)) v xs :=
 V_kept (zc2 (V_bound h) (fun k hk => ⟨hk.1, hne k hk.1, hk.2⟩)) hk (fun _ hk => hk.2.1)
theorem V_get (h : V d e W base ok (.slice (some ad) n c) xs) (z : α) (i : Int) (h0 : 0 ≤ i) (h1 : i < n) :
  ∃ cs, cs.length = d.sz ∧ FK d W ok (xs.getD i.toNat z) cs ∧ ∀ j u, cs[j]? = some u → W.cell? (ad.add (i.toNat * d.sz + j)) = some u := by
 obtain ⟨ad', cs, he, hcl, hK, hcc, _⟩ := F_get (V_F h) z i h0 h1
 injection he with he
 subst he
 exact ⟨cs, hcl, hK, hcc⟩
theorem F_cut (h : F d W ok A xs.length xs) (hm : m ≤ xs.length) (hc : xs.length ≤ c) : F d W ok (if c = m then A else A.map (·.add (m * d.sz))) (xs.drop m).length (xs.drop m) := F_imp h (fun _ hC => zd5 hC hm hc)
theorem R_newM {M : Nat → Prop} (h : d.R e w1 W.heap.size ok v xs) (hle : w.heap.size ≤ W.heap.size) (hM : ∀ k, w.heap.size ≤ k → M k) : d.R e w1 W.heap.size (fun k => M k ∧ ok k) v xs := zba (zcz h) (fun k hk => ⟨hM k (Nat.le_trans hle hk.2.1), hk.1⟩)
end
end Kd
end Go.Proofs.ZW.PrintWords
end
section
namespace Go.Proofs.ZW.PrintWords
theorem Reps.one {α : Type} {R : α → List Value → Prop} {ps : List α} {cs : List Value} {p : α} {v : Value} (hp : R p [v]) (h : Reps R 1 ps cs) : Reps R 1 (p :: ps) (v :: cs) := by
 refine ⟨by simp [h.1], fun j q hq => ?_⟩
 cases j with
 | zero =>
  simp only [List.getElem?_cons_zero, Option.some.injEq] at hq
  subst hq
  simpa using hp
 | succ j =>
  simp only [List.getElem?_cons_succ] at hq
  have h1 := h.2 j q hq
  simpa [Nat.mul_one] using h1
theorem Reps.front {α : Type} {R : α → List Value → Prop} {size : Nat} {ps : List α} {cs c all : List Value} {p : α} (hp : R p c) (hc : c.length = size) (h : Reps R size ps cs) (ha : c ++ cs = all) : Reps R size (p :: ps) all := by
 subst ha
 refine ⟨by rw [List.length_append, hc, h.1, List.length_cons, Nat.succ_mul, Nat.add_comm], fun j q hq => ?_⟩
 cases j with
 | zero =>
  simp only [List.getElem?_cons_zero, Option.some.injEq] at hq
  subst hq
  rw [Nat.zero_mul, List.drop_zero, List.take_append_of_le_length (by omega), List.take_of_length_le (by omega)]
  exact hp
 | succ j =>
  simp only [List.getElem?_cons_succ] at hq
  have h1 := h.2 j q hq
  rw [Nat.succ_mul, List.drop_append, List.drop_of_length_le (by rw [hc]; exact Nat.le_add_left _ _), List.nil_append, hc, Nat.add_sub_cancel]
  exact h1
theorem Reps.c3 {α : Type} {R : α → List Value → Prop} {ps : List α} {cs : List Value} {p : α} {va vb vc : Value} (hp : R p [va, vb, vc]) (h : Reps R 3 ps cs) : Reps R 3 (p :: ps) (va :: vb :: vc :: cs) := Reps.front hp rfl h rfl
end Go.Proofs.ZW.PrintWords
end
section
namespace Go.Proofs.ZZ.Round
open Go Go.RowKit
section
variable {P : Program} {ops : Array Oper} {Q : Exit → Act → World → Prop} {l n : Nat}
def Qn (Q : Exit → Act → World → Prop) : Exit → Act → World → Prop
 | .outgrown, _, _ => False
 | e, a, w => Q e a w
theorem zio : ¬ LetsOut (Qn Q) := fun ⟨_, _, h⟩ => h
@[go_sem] theorem Qn_normal (a : Act) (w : World) : Qn Q .normal a w = Q .normal a w := rfl
def zgk (ops : Array Oper) : Bool := ops.toList.all fun o => match o.op with | .defer _ => false | _ => true
theorem zjw (h : zgk ops = true) {i : Nat} {o : Oper} (hi : ops[i]? = some o) : ∀ c, o.op ≠ .defer c := by
 intro c e
 have hm : o ∈ ops.toList := by
  obtain ⟨hlt, rfl⟩ := Array.getElem?_eq_some_iff.1 hi
  exact Array.getElem_mem_toList hlt
 have := List.all_eq_true.1 h o hm
 rw [e] at this
 cases this
theorem op_bridge {o : Oper} {a : Act} {w : World} {K K' : Act → World → Prop} (hd : ∀ c, o.op ≠ .defer c) (hK : ∀ a w, K a w → K' a w) (h : o.wp P a w K (Qn Q)) : o.wpIn (Fence.wide.inRound l) n P a w K' Q := by
 refine ⟨fun _ _ => trivial, ?_⟩
 show o.uponIn _ n P a K' Q ((o.semAt (some l) a.eval).run P w)
 rw [Oper.semAt_eq _ _ _ hd]
 unfold Oper.wp at h
 generalize (execOp a.eval o).run P w = r at *
 have post : ∀ e w'', (match e, w'' with
   | Ending.returned v, w'' => K (a.put o.dst v) w''
   | Ending.panicked chain, w'' => Qn Q (.panic chain) a w''
   | Ending.outgrown, _ => LetsOut (Qn Q)) → (match e, w'' with
   | Ending.returned v, w'' => K' (a.put o.dst v) w''
   | Ending.panicked chain, w'' => Q (.panic chain) a w''
   | Ending.outgrown, _ => LetsOut Q) := by
  intro e w'' he
  cases e with
  | returned v => exact hK _ _ he
  | panicked chain => exact he
  | outgrown => exact absurd he zio
 cases r with
 | ok x w' =>
  cases x with
  | value v => exact hK _ _ h
  | skip => exact hK _ _ h
  | defer d => exact hK _ _ h
  | enter f args => exact ⟨(fun e => by cases e), CallsIn.inRound l (callsIn_wide.2 (Calls.mono h post))⟩
  | row row args => exact ⟨(fun e => by cases e), fun c cs _ => let ⟨v, w', r, s⟩ := h c cs; ⟨v, w', hK _ _ r, stepsIn_wide.2 s⟩⟩
  | _ => exact False.elim h
 | halt x w' =>
  cases x with
  | panic v => exact h
  | _ => exact False.elim h
theorem zfu (hd : zgk ops = true) {md : Region.Mode} : ∀ (fuel : Nat) (listed : Array Bool) (a : Act) (w : World), wpAny P md ops (Qn Q) fuel listed a w → wpAnyIn (Fence.wide.inRound l) n P md ops Q fuel listed a w
 | 0, _, _, _, h => h
 | fuel + 1, listed, a, w, h => by
  refine ⟨h.1, fun i hi => ?_⟩
  have hw := h.2 i hi
  unfold wpOp at hw
  unfold wpOpIn
  cases ho : ops[i]? with
  | none =>
   rw [ho] at hw
   exact zfu hd fuel _ _ _ hw
  | some o =>
   rw [ho] at hw
   simp only at hw ⊢
   split
   ·rename_i c
    rw [if_pos c] at hw
    rcases hw with hw | ⟨_, hw⟩
    ·exact op_bridge (zjw hd ho) (fun a w h => zfu hd fuel _ a w h) hw
    ·exact absurd hw zio
   ·rename_i c
    rw [if_neg c] at hw
    exact ⟨fun _ _ => trivial, zfu hd fuel _ _ _ hw⟩
theorem zid {id : Nat} {a : Act} {w : World} (hm : P.follows .mixedOrders = true) (hd : zgk ops = true)
  (h : wpAny P .any ops (Qn Q) ops.size (Array.replicate ops.size false) a { w with drawn := w.drawn + 1 }) : (Code.region id ops true).wpIn (Fence.wide.inRound l) n P Q a w :=
 wpIn_region_any hm (zfu hd _ _ _ _ h)
theorem zdu {W : World} {B B' : Nat} {o : Obj} (h : W.heap[B]? = some o) (hne : B ≠ B') (u : Value) : (W.setCell ⟨B', 0, none⟩ u).heap[B]? = some o := (Below.heap_setCell _ _ _ _ hne).trans h
end
end Go.Proofs.ZZ.Round
end
section
namespace Go.Proofs.ZZ.RangeG
open Go Go.RowKit
structure Turn (L : Nat) (T : Nat → Prop) (W W' : World) : Prop where
 os : W'.os = W.os
 tape : W'.tape = W.tape
 output : W'.output = W.output
 size : W.heap.size ≤ W'.heap.size
 same : ∀ (k : Nat) (o : Obj), W.heap[k]? = some o → ¬ T k → (k < L ∨ o.isCells = true) → W'.heap[k]? = some o
section
variable {L L' : Nat} {T T' : Nat → Prop} {W W' W'' : World}
theorem Turn.refl (L : Nat) (T : Nat → Prop) (W : World) : Turn L T W W := ⟨rfl, rfl, rfl, Nat.le_refl _, fun _ _ h _ _ => h⟩
theorem Turn.trans (h : Turn L T W W') (k : Turn L T W' W'') : Turn L T W W'' :=
 ⟨k.os.trans h.os, k.tape.trans h.tape, k.output.trans h.output, Nat.le_trans h.size k.size, fun i o hi ht hc => k.same i o (h.same i o hi ht hc) ht hc⟩
theorem Turn.mono (h : Turn L T W W') (hL : L' ≤ L) (hT : ∀ k, T k → T' k) : Turn L' T' W W' :=
 ⟨h.os, h.tape, h.output, h.size, fun k o hk ht hc => h.same k o hk (fun e => ht (hT k e)) (hc.imp (fun h' => by omega) (fun h' => h'))⟩
theorem Turn.grown {row : Option Nat} (hg : W.grownBy W' row) (hr : ∀ k, row = some k → T k ∨ (L ≤ k ∧ ∃ o : Obj, W.heap[k]? = some o ∧ o.isCells = false)) : Turn L T W W' :=
 ⟨hg.os, hg.tape, hg.output, hg.size, fun k o hk ht hc => (hg.block k (Array.getElem?_eq_some_iff.1 hk).1 (fun e => by
  rcases hr k e.symm with h1 | ⟨h1, o', h2, h3⟩
  ·exact ht h1
  ·rw [hk] at h2
   cases h2
   rcases hc with hc | hc
   ·omega
   ·rw [h3] at hc; cases hc)).trans hk⟩
theorem Turn.putObj {l : Nat} {o : Obj} (o' : Obj) (hl : W.heap[l]? = some o) (hL : L ≤ l) (ho : o.isCells = false) : Turn L T W (W.putObj l o') :=
 Turn.grown (grownBy_putObj' W l o') (fun k e => by cases e; exact .inr ⟨hL, o, hl, ho⟩)
theorem Turn.alloc (o : Obj) : Turn L T W (W.alloc o) := Turn.grown (World.grownBy_alloc W o none) (fun k e => by cases e)
theorem Turn.below (h : Below W.heap.size W W') : Turn L T W W' := ⟨h.os, h.tape, h.output, h.size, fun k o hk _ _ => (h.block k (Array.getElem?_eq_some_iff.1 hk).1).trans hk⟩
theorem Turn.drew : Turn L T W W.drew := ⟨rfl, rfl, rfl, Nat.le_refl _, fun _ _ h _ _ => h⟩
theorem Turn.setCell (a : Addr) (v : Value) (ha : T a.block) : Turn L T W (W.setCell a v) :=
 ⟨rfl, rfl, rfl, by show W.heap.size ≤ (W.heap.modify _ _).size; rw [Array.size_modify]; exact Nat.le_refl _, fun k o hk ht _ => (Below.heap_setCell W a v k (fun e => ht (by rw [e]; exact ha))).trans hk⟩
def Abid {β : Type} (L : Nat) (T : Nat → Prop) (I : β → World → Prop) : Prop := ∀ s W W', I s W → Turn L T W W' → I s W'
theorem Boxed.turn {B : Nat} {t : TypeId} {v : Value} (h : Boxed W B t v) (ht : Turn L T W W') (hB : ¬ T B) : Boxed W' B t v := ht.same B _ h hB (.inr rfl)
theorem zc3 {B : Nat} {t : TypeId} {c : Array Value} {fr : Nat × Nat} (h : W.heap[B]? = some (.cells c t fr)) (ht : Turn L T W W') (hB : ¬ T B) : W'.heap[B]? = some (.cells c t fr) := ht.same B _ h hB (.inr rfl)
theorem zcn {n₀ : Nat} {w : World} (h : Below n₀ w W) (ht : Turn L T W W') (hw : n₀ ≤ w.heap.size) (hL : n₀ ≤ L) (hT : ∀ k, T k → n₀ ≤ k) : Below n₀ w W' :=
 ⟨ht.os.trans h.os, ht.tape.trans h.tape, ht.output.trans h.output, Nat.le_trans h.size ht.size, fun i hi => by
  have h1 := h.block i hi
  have h2 : i < W.heap.size := by have := h.size; omega
  rw [← h1, Array.getElem?_eq_getElem h2]
  exact ht.same i _ (Array.getElem?_eq_getElem h2) (fun e => by have := hT i e; omega) (.inl (by omega))⟩
theorem zgg {base : Nat} {e : TypeId} {size n : Nat} {v : Value} {xs : List Value} (h : W.ownsRow base e size v n xs) (ht : Turn L T W W') (hT : ∀ k, v.ownBlock = some k → ¬ T k) : W'.ownsRow base e size v n xs := by
 obtain ⟨h1, h2⟩ := h
 refine ⟨h1, ?_⟩
 rcases h2 with h2 | ⟨g, cap, cur, rfl, hg, hh, r⟩
 ·exact .inl h2
 ·exact .inr ⟨g, cap, cur, rfl, hg, ht.same g _ hh (hT g (by simp [Value.ownBlock])) (.inr rfl), r⟩
end
def SeqG {α : Type} (n : Nat) (P : Program) (g : Nat) (lb : Array Value) (encs : α → Array Value) (Kp : World → World → Prop) (T : Nat → Prop) (S Sp : List α → Prop) (N : Nat) (w : World) : Prop :=
 ∀ (l : Nat) (J Jx : List α → World → Prop) (W : World), Turn w.heap.size (fun _ => False) w W → Abid W.heap.size T J → Abid W.heap.size T Jx →
  (∀ pre x W1, J pre W1 → pre.length < N → YieldAt Fence.wide (n - 1) P l (encs x) W1 fun e W' =>
   (e = .returned (.bool true) ∧ J (pre ++ [x]) W' ∧ Kp W1 W') ∨ (e = .returned (.bool false) ∧ Jx (pre ++ [x]) W')) →
  J [] W →
  CallsIn Fence.wide n P g (#[.func (.yield l) #[] #[]] ++ lb) W fun e W' => (∃ v, e = .returned v) ∧ ((∃ xs, S xs ∧ J xs W') ∨ (∃ pre, Sp pre ∧ Jx pre W'))
variable {n : Nat} {P : Program}
theorem rangeG {α : Type} {g : Operand} {ps : Array Tmp} {assign body : Code} {Q : Exit → Act → World → Prop} {a : Act} {w : World}
  {gf : Nat} {lb : Array Value} (hg : a.eval g = .func (.func gf) #[] lb) (eg : ∀ args w, (callFunc gf args).run P w = .ok (.enter gf args) w)
  {encs : α → Array Value} {Kp : World → World → Prop} {T : Nat → Prop} {S Sp : List α → Prop} {N : Nat} {w0 : World} (hseq : SeqG (n - 1) P gf lb encs Kp T S Sp N w0)
  (hT : ∀ k, T k → k < w.heap.size)
  (hKt : ∀ {A B C : World}, Kp A B → Kp B C → Kp A C) (hKb : ∀ (W : World) (l : Nat) (o o' : Obj), w.heap.size ≤ l → W.heap[l]? = some o → o.isCells = false → o.isWalk = false → Kp W (W.putObj l o'))
  (hb0 : Turn w0.heap.size (fun _ => False) w0 w) (hps : ∀ x, (encs x).size = ps.size)
  (I : List α → World → Prop) (Ix : Code → List α → World → Prop) (hI : Abid w.heap.size T I) (hIx : ∀ c, Abid w.heap.size T (Ix c)) (h0 : I [] w)
  (Ax : α → Act → World → Prop) (hAx : ∀ x a', Abid w.heap.size T (fun (_ : Unit) W => Ax x a' W))
  (hassign : ∀ (l : Nat) (pre : List α) (x : α) (W : World) (K : Act → World → Prop), I pre W → (∀ a' W', KeepsFrom w.heap.size W W' → Kp W W' → I pre W' → Ax x a' W' → K a' W') →
   assign.wpIn (Fence.wide.inRound l) (n - 1 - 1) P (Exit.then K (fun _ _ _ => False)) { tmps := (ps.zip (encs x)).foldl (fun t (p, v) => t.setIfInBounds p v) a.tmps, defers := [] } W)
  (hbody : ∀ (l : Nat) (pre : List α) (x : α) (a' : Act) (W : World), w.heap.size ≤ l → (∃ r, W.heap[l]? = some (.loop r)) → I pre W → Ax x a' W → pre.length < N → body.wpIn (Fence.wide.inRound l) (n - 1 - 1) P (ownPostG w.heap.size Kp I Ix (pre ++ [x]) W) a' W)
  (hdone : ∀ (D : Nat) (xs : List α) (W : World), w.heap.size ≤ D → S xs → I xs W → W.heap[D]? = some (.deferred (some [])) → Q .normal { a with defers := { target := .collected D, args := #[] } :: a.defers } W)
  (hstop : ∀ (D : Nat) (c : Code) (pre : List α) (W : World), w.heap.size ≤ D → Sp pre → Ix c pre W → W.heap[D]? = some (.deferred (some [])) → c.wpIn Fence.wide n P Q { a with defers := { target := .collected D, args := #[] } :: a.defers } W) :
  (Code.rangeFunc g ps assign body).wpIn Fence.wide n P Q a w := by
 refine wpIn_rangeFunc ?_
 intro fn hfn
 obtain ⟨rec, hrec⟩ : ∃ rec : LoopState → Option Code → Loop, rec = fun st pe => { state := st, pending := pe, fn, tmps := a.tmps, params := ps, assign, body, defers := w.heap.size } := ⟨_, rfl⟩
 obtain ⟨W1, hW1⟩ : ∃ W1, (w.alloc (.deferred (some []))).alloc (.loop (rec .ready none)) = W1 := ⟨_, rfl⟩
 have sz1 : W1.heap.size = w.heap.size + 2 := by rw [← hW1]; simp
 have hT1 : ∀ k, ¬ T (w.heap.size + k) := fun k e => by have := hT _ e; omega
 have rec1 : W1.heap[w.heap.size + 1]? = some (.loop (rec .ready none)) := by
  rw [← hW1]
  have := World.alloc_heap_new (w.alloc (.deferred (some []))) (.loop (rec .ready none))
  rwa [World.size_alloc] at this
 have def1 : W1.heap[w.heap.size]? = some (.deferred (some [])) := by
  rw [← hW1]; exact (Below.heap_alloc _ _ _ (by simp)).trans (World.alloc_heap_new w _)
 have tw : ∀ T', Turn w.heap.size T' w W1 := fun T' => by rw [← hW1]; exact (Turn.alloc _).trans (Turn.alloc _)
 have start : Turn w0.heap.size (fun _ => False) w0 W1 := hb0.trans ((tw _).mono hb0.size (fun _ h => h))
 refine ⟨w.heap.size + 1, [{ target := .collected w.heap.size, args := #[] }], W1, { target := .fn (.func gf) lb, args := #[.func (.yield (w.heap.size + 1)) #[] #[]] }, W1, gf,
  #[.func (.yield (w.heap.size + 1)) #[] #[]] ++ lb, W1, ?_, ?_, fun _ _ => trivial, ?_, (fun h => by cases h), ?_⟩
 ·rw [← hW1, hrec]; exact run_enterLoop_outer _ _ _ _ _
 ·simp only [resolve, hg]
  simp [go_sem]
 ·simp [invoke, go_sem, eg]
 ·have loose : ∀ {A B : World}, Turn W1.heap.size T A B → Turn w.heap.size T A B := fun h => h.mono (by omega) (fun _ h => h)
  refine (hseq (w.heap.size + 1)
   (fun pre W => I pre W ∧ W.heap[w.heap.size + 1]? = some (.loop (rec .ready none)) ∧ W.heap[w.heap.size]? = some (.deferred (some [])))
   (fun pre W => ∃ c, Ix c pre W ∧ W.heap[w.heap.size + 1]? = some (.loop (rec .done (some c))) ∧ W.heap[w.heap.size]? = some (.deferred (some [])))
   W1 start
   (fun s A B hs ht => ⟨hI s A B hs.1 (loose ht), ht.same _ _ hs.2.1 (hT1 1) (.inl (by omega)), ht.same _ _ hs.2.2 (hT1 0) (.inl (by omega))⟩)
   (fun s A B hs ht => by
    obtain ⟨c, h1, h2, h3⟩ := hs
    exact ⟨c, hIx c s A B h1 (loose ht), ht.same _ _ h2 (hT1 1) (.inl (by omega)), ht.same _ _ h3 (hT1 0) (.inl (by omega))⟩)
   ?_ ⟨hI _ _ _ h0 (tw T), rec1, def1⟩).mono ?_
  ·rintro pre x W ⟨hi, hl, hk⟩ hlen
   have hy := run_yield (P := P) (args := encs x) hl (by rw [hrec]; exact hps x)
   rw [hrec] at hy
   refine ⟨fn, _, assign, body, hy, roundIn_of_wpIn hfn (hassign _ pre x W _ hi ?_)⟩
   clear hy
   intro a' Wa hfrom hkp hia hax
   have hla := hfrom.same _ _ (by omega) hl rfl
   have hka := hfrom.same _ _ (Nat.le_refl _) hk rfl
   have hlt : w.heap.size + 1 < Wa.heap.size := (Array.getElem?_eq_some_iff.1 hla).1
   obtain ⟨Wb, hWb⟩ : ∃ Wb, Wa.putObj (w.heap.size + 1) (.loop { rec .ready none with state := .busy }) = Wb := ⟨_, rfl⟩
   have tb : Turn w.heap.size T Wa Wb := by rw [← hWb]; exact Turn.putObj _ hla (by omega) rfl
   have lb2 : Wb.heap[w.heap.size + 1]? = some (.loop { rec .ready none with state := .busy }) := by rw [← hWb]; exact World.putObj_heap_same hlt
   have kb2 : Wb.heap[w.heap.size]? = some (.deferred (some [])) := by rw [← hWb]; exact (World.putObj_heap_other (by omega)).trans hka
   have pb : Kp Wa Wb := by rw [← hWb]; exact hKb _ _ _ _ (by omega) hla rfl rfl
   refine ⟨Wb, by rw [← hWb]; exact run_beginRound hla (by rw [hrec]), ?_⟩
   refine wpIn_mono (hbody _ pre x a' Wb (by omega) ⟨_, lb2⟩ (hI _ _ _ hia tb) (hAx x a' () _ _ hax tb) hlen) ?_
   have leave : ∀ (jump : Option Code) (W3 : World), KeepsFrom w.heap.size Wb W3 → ∃ W4, (Instr.endRound (w.heap.size + 1) jump).run P W3 = .ok (.bool jump.isNone) W4 ∧ Turn w.heap.size T W3 W4 ∧ Kp W3 W4 ∧
     W4.heap[w.heap.size + 1]? = some (.loop (rec (if jump.isNone then .ready else .done) jump)) ∧ W4.heap[w.heap.size]? = some (.deferred (some [])) := by
    intro jump W3 h3
    have hl3 := h3.same _ _ (by omega) lb2 rfl
    have he := run_endRound (P := P) jump hl3
    refine ⟨_, he, Turn.putObj _ hl3 (by omega) rfl, hKb _ _ _ _ (by omega) hl3 rfl rfl, ?_, (World.putObj_heap_other (by omega)).trans (h3.same _ _ (Nat.le_refl _) kb2 rfl)⟩
    rw [World.putObj_heap_same (Array.getElem?_eq_some_iff.1 hl3).1, hrec]
   rintro e a3 W3 hp
   cases e with
   | normal =>
    obtain ⟨h3, p3, i3⟩ := hp
    obtain ⟨W4, he, t4, p4, l4, k4⟩ := leave none W3 h3
    exact ⟨_, _, he, .inl ⟨rfl, ⟨hI _ _ _ i3 t4, l4, k4⟩, hKt hkp (hKt (hKt pb p3) p4)⟩⟩
   | ret =>
    obtain ⟨h3, i3⟩ := hp
    obtain ⟨W4, he, t4, p4, l4, k4⟩ := leave (some .ret) W3 h3
    exact ⟨_, _, he, .inr ⟨rfl, .ret, hIx _ _ _ _ i3 t4, l4, k4⟩⟩
   | exit id =>
    obtain ⟨h3, i3⟩ := hp
    obtain ⟨W4, he, t4, p4, l4, k4⟩ := leave (some (.exit id)) W3 h3
    exact ⟨_, _, he, .inr ⟨rfl, .exit id, hIx _ _ _ _ i3 t4, l4, k4⟩⟩
   | goto t =>
    obtain ⟨h3, i3⟩ := hp
    obtain ⟨W4, he, t4, p4, l4, k4⟩ := leave (some (.goto t)) W3 h3
    exact ⟨_, _, he, .inr ⟨rfl, .goto t, hIx _ _ _ _ i3 t4, l4, k4⟩⟩
   | panic ch => exact hp.elim
   | outgrown => exact hp.elim
  ·rintro e W2 ⟨⟨v, rfl⟩, (⟨xs, hS, hi, hl, hk⟩ | ⟨pre, hSp, c, hi, hl, hk⟩)⟩
   ·have he := run_endLoop (P := P) hl (by rw [hrec]; simp)
    rw [hrec] at he
    exact ⟨none, _, he, hdone _ xs _ (Nat.le_refl _) hS (hI _ _ _ hi (Turn.putObj _ hl (by omega) rfl)) ((World.putObj_heap_other (by omega)).trans hk)⟩
   ·have he := run_endLoop (P := P) hl (by rw [hrec]; simp)
    rw [hrec] at he
    exact ⟨some c, _, he, hstop _ c pre _ (Nat.le_refl _) hSp (hIx c _ _ _ hi (Turn.putObj _ hl (by omega) rfl)) ((World.putObj_heap_other (by omega)).trans hk)⟩
def zc7 (n₀ : Nat) (L : List Nat) (W W' : World) : Prop := Below n₀ W W' ∧ ∀ b, b ∈ L → b < W.heap.size → W'.heap[b]? = W.heap[b]?
theorem zd3 (n₀ : Nat) (L : List Nat) (W : World) : zc7 n₀ L W W := ⟨Below.refl _ _, fun _ _ _ => rfl⟩
theorem zes {n₀ : Nat} {L : List Nat} {A B C : World} (h : zc7 n₀ L A B) (k : zc7 n₀ L B C) : zc7 n₀ L A C := ⟨h.1.trans k.1, fun b hb hlt => by
 rw [← h.2 b hb hlt]
 exact k.2 b hb (by have := h.2 b hb hlt; rw [Array.getElem?_eq_getElem hlt] at this; exact (Array.getElem?_eq_some_iff.1 this).1)⟩
theorem zg5 {n₀ : Nat} {L : List Nat} {w : World} (hn : n₀ ≤ w.heap.size) (hL : ∀ b, b ∈ L → b < w.heap.size) (W : World) (l : Nat) (o o' : Obj) (hl : w.heap.size ≤ l) (h : W.heap[l]? = some o) (h1 : o.isCells = false) (h2 : o.isWalk = false) : zc7 n₀ L W (W.putObj l o') :=
 ⟨belowK_b hn W l o o' hl h h1 h2, fun b hb _ => World.putObj_heap_other (by have := hL b hb; omega)⟩
theorem keepL_below {n₀ : Nat} {L : List Nat} {A W W' : World} (h : zc7 n₀ L A W) (hn : n₀ ≤ W.heap.size) (hb : Below W.heap.size W W') : zc7 n₀ L A W' :=
 zes h ⟨hb.mono hn, fun b _ hlt => hb.block b hlt⟩
theorem zgu {n₀ : Nat} {L : List Nat} {A W : World} (h : zc7 n₀ L A W) (hn : n₀ ≤ W.heap.size) (o : Obj) : zc7 n₀ L A (W.alloc o) := keepL_below h hn ((Below.refl _ W).alloc (Nat.le_refl _) o)
theorem keepL_set {n₀ : Nat} {L : List Nat} {A W : World} (h : zc7 n₀ L A W) {a : Addr} (hn : n₀ ≤ a.block) (hne : a.block ∉ L) (v : Value) : zc7 n₀ L A (W.setCell a v) :=
 zes h ⟨(Below.refl _ W).setCell hn v, fun b hb _ => Below.heap_setCell W a v b (fun e => hne (by rw [← e]; exact hb))⟩
theorem zim {n₀ : Nat} {L : List Nat} {A W W' : World} {row : Option Nat} (h : zc7 n₀ L A W) (hn : n₀ ≤ W.heap.size) (hg : W.grownBy W' row) (hr : ∀ k, row = some k → n₀ ≤ k ∧ k ∉ L) : zc7 n₀ L A W' :=
 zes h ⟨(Below.refl n₀ W).grown hg hn (fun k e => (hr k e).1), fun b hb hlt => hg.block b hlt (fun e => (hr b e.symm).2 hb)⟩
theorem zie {W w1 : World} {L B n₀ : Nat} {t e : TypeId} {size k m : Nat} {v v' : Value} {xs ys : List Value} {tmp : Obj} {Ls : List Nat} (hv : Boxed W B t v) (hBL : B < L) (hrow : W.ownsRow L e size v k xs) (hLW : L ≤ W.heap.size)
  (hown' : w1.ownsRow L e size v' m ys) (hgrow : (W.alloc tmp).grownBy w1 v.ownBlock) (hn : n₀ ≤ B) (hLs : ∀ b, b ∈ Ls → b < L ∧ b ≠ B) :
  Boxed w1 B t v ∧ Boxed (w1.setCell ⟨B, 0, none⟩ v') B t v' ∧ (w1.setCell ⟨B, 0, none⟩ v').ownsRow L e size v' m ys ∧ KeepsFrom L W (w1.setCell ⟨B, 0, none⟩ v') ∧ zc7 n₀ Ls W (w1.setCell ⟨B, 0, none⟩ v') := by
 have base : ∀ {W : World} {v : Value} {k : Nat} {xs : List Value}, W.ownsRow L e size v k xs → ∀ g, v.ownBlock = some g → L ≤ g ∧ ∃ c, W.heap[g]? = some (.cells c e (0, 0)) := by
  intro W v k xs h g hg
  rcases h.2 with ⟨rfl, _⟩ | ⟨g', cap, cur, rfl, hb, hh, _⟩
  ·simp [Value.ownBlock] at hg
  ·obtain rfl : g' = g := by simpa [Value.ownBlock] using hg
   exact ⟨hb, cur, hh⟩
 have hne : some B ≠ v.ownBlock := fun e' => by have := (base hrow B e'.symm).1; omega
 have hne' : v'.ownBlock ≠ some B := fun e' => by have := (base hown' B e').1; omega
 have hv1 : Boxed w1 B t v := (hv.alloc tmp).kept hgrow hne
 refine ⟨hv1, hv1.set v', hown'.kept (grownBy_setCell' w1 B v') (.inr hne'), ?_, ?_⟩
 ·refine ⟨by have := hgrow.size; simp at this ⊢; omega, fun j o hj ho hc => ?_⟩
  have h1 : (W.alloc tmp).heap[j]? = some o := (Below.heap_alloc W tmp j (Array.getElem?_eq_some_iff.1 ho).1).trans ho
  have h2 : w1.heap[j]? = some o := (hgrow.block j (Array.getElem?_eq_some_iff.1 h1).1 (fun e' => by
   obtain ⟨_, c, hh⟩ := base hrow j e'.symm
   rw [ho] at hh
   cases hh
   cases hc)).trans h1
  exact (Below.heap_setCell w1 ⟨B, 0, none⟩ v' j (by simp; omega)).trans h2
 ·have k1 : zc7 n₀ Ls W (W.alloc tmp) := zgu (zd3 _ _ _) (by omega) tmp
  have k2 := zim k1 (by simp; omega) hgrow (fun g hg => ⟨by have := (base hrow g hg).1; omega, fun h => by have := (base hrow g hg).1; have := (hLs g h).1; omega⟩)
  exact keepL_set k2 (a := ⟨B, 0, none⟩) hn (fun h => (hLs B h).2 rfl) v'
theorem loopIn {Q : Exit → Act → World → Prop} {a : Act} {w : World} {c : Code} (I : Nat → Act → World → Prop) (n₀ : Nat) (h₀ : I n₀ a w)
  (round : ∀ k a w, I k a w → c.wpIn Fence.wide n P (Exit.then (fun a' w' => ∃ k', k' < k ∧ I k' a' w') Q) a w) : (Code.loop c).wpIn Fence.wide n P Q a w :=
 wpIn_wide.2 (wp_loop_ghost I n₀ h₀ fun k a w h => wpIn_wide.1 (round k a w h))
end Go.Proofs.ZZ.RangeG
end
section
namespace Go.Proofs.ZZ.Fl
open Go Go.RowKit Go.Shelf Go.Proofs.ZW.PrintWords Go.Proofs.ZZ.Round Go.Proofs.ZZ.RangeG
attribute [local go_sem] Oper.semAt_some
abbrev TF : TypeId := 25
abbrev TP : TypeId := 42
abbrev TIt : TypeId := 44
abbrev I := Int × ByteArray × ByteArray
abbrev P := Int × List I × Int
def kI : Kd I := Kd.pair (Kd.int .i64) (Kd.pair Kd.string Kd.string)
def kP : Kd P := Kd.pair (Kd.int .i64) (Kd.pair (Kd.slice TIt kI) (Kd.int .i64))
theorem kI_open {w : World} {x : I} {cs : List Value} (h : kI.K w x cs) : cs = [.int .i64 x.1, .string x.2.1, .string x.2.2] := by
 obtain ⟨_, _, rfl, rfl, ⟨_, _, rfl, rfl, rfl⟩⟩ := h
 exact rfl
theorem kP_open {w : World} {x : P} {cs : List Value} (h : kP.K w x cs) : ∃ A c, cs = [.int .i64 x.1, .slice A x.2.1.length c, .int .i64 x.2.2] ∧ x.2.1.length ≤ c ∧ Kd.C kI w A x.2.1.length x.2.1 := by
 obtain ⟨_, _, rfl, rfl, ⟨_, _, rfl, ⟨A, c, rfl, hc, hC⟩, rfl⟩⟩ := h
 exact ⟨A, c, rfl, hc, hC⟩
theorem C_iso {α β : Type} {d : Kd α} {f : β → α} {w : World} {A : Option Addr} {n : Nat} {xs : List β} (h : Kd.C (Kd.iso d f) w A n xs) : Kd.C d w A n (xs.map f) := by
 obtain ⟨h1, h2, h3⟩ := h
 refine ⟨by simpa using h1, h2, fun h0 => ?_⟩
 obtain ⟨ad, e, hc⟩ := h3 h0
 refine ⟨ad, e, fun j p hj => ?_⟩
 rw [List.getElem?_map] at hj
 cases hx : xs[j]? with
 | none => rw [hx] at hj; cases hj
 | some x =>
  rw [hx] at hj
  obtain rfl : f x = p := by simpa using hj
  exact hc j x hx
theorem atI {w : World} {A : Option Addr} {n : Nat} {xs : List I} (h : Kd.C kI w A n xs) (k : Nat) (hk : k < n) :
  ∃ ad x, A = some ad ∧ xs[k]? = some x ∧ w.cell? (ad.add (k * 3)) = some (.int .i64 x.1) ∧ w.cell? ⟨(ad.add (k * 3)).block, (ad.add (k * 3)).off + 1, none⟩ = some (.string x.2.1) ∧ w.cell? ⟨(ad.add (k * 3)).block, (ad.add (k * 3)).off + 2, none⟩ = some (.string x.2.2) := by
 obtain ⟨h1, h2, h3⟩ := h
 obtain ⟨ad, e, hc⟩ := h3 (by omega)
 have hk' : k < xs.length := by omega
 obtain ⟨c, hl, hK, hcell⟩ := hc k _ (List.getElem?_eq_getElem hk')
 obtain rfl := kI_open hK
 have hc0 : ∀ j u, [Value.int .i64 (xs[k]).1, .string (xs[k]).2.1, .string (xs[k]).2.2][j]? = some u → w.cell? (ad.add (k * 3 + j)) = some u := hcell
 exact ⟨ad, xs[k], e, List.getElem?_eq_getElem hk', hc0 0 _ rfl, by rw [← zb5 _ _ 1 (by omega)]; exact hc0 1 _ rfl, by rw [← zb5 _ _ 2 (by omega)]; exact hc0 2 _ rfl⟩
theorem atP {w : World} {A : Option Addr} {n : Nat} {xs : List P} (h : Kd.C kP w A n xs) (k : Nat) (hk : k < n) :
  ∃ ad x A1 c1, A = some ad ∧ xs[k]? = some x ∧ x.2.1.length ≤ c1 ∧ Kd.C kI w A1 x.2.1.length x.2.1 ∧ w.cell? (ad.add (k * 3)) = some (.int .i64 x.1) ∧ w.cell? ⟨(ad.add (k * 3)).block, (ad.add (k * 3)).off + 1, none⟩ = some (.slice A1 x.2.1.length c1) ∧ w.cell? ⟨(ad.add (k * 3)).block, (ad.add (k * 3)).off + 2, none⟩ = some (.int .i64 x.2.2) := by
 obtain ⟨h1, h2, h3⟩ := h
 obtain ⟨ad, e, hc⟩ := h3 (by omega)
 have hk' : k < xs.length := by omega
 obtain ⟨c, hl, hK, hcell⟩ := hc k _ (List.getElem?_eq_getElem hk')
 obtain ⟨A1, c1, rfl, hl1, hC1⟩ := kP_open hK
 have hc0 : ∀ j u, [Value.int .i64 (xs[k]).1, .slice A1 (xs[k]).2.1.length c1, .int .i64 (xs[k]).2.2][j]? = some u → w.cell? (ad.add (k * 3 + j)) = some u := hcell
 exact ⟨ad, xs[k], A1, c1, e, List.getElem?_eq_getElem hk', hl1, hC1, hc0 0 _ rfl, by rw [← zb5 _ _ 1 (by omega)]; exact hc0 1 _ rfl, by rw [← zb5 _ _ 2 (by omega)]; exact hc0 2 _ rfl⟩
theorem zdq {α : Type} {l : List α} {j : Nat} {x : α} (h : l[j]? = some x) : l.take (j + 1) = l.take j ++ [x] := by
 obtain ⟨hj, hx⟩ := List.getElem?_eq_some_iff.1 h
 rw [List.take_succ_eq_append_getElem hj, hx]
abbrev V (u : World) (ps : List P) := { x : P × Option Addr × Nat // x.1.2.1.length ≤ x.2.2 ∧ Kd.C kI u x.2.1 x.1.2.1.length x.1.2.1 ∧ x.1 ∈ ps }
def V.p {u : World} {ps : List P} (x : V u ps) : P := x.1.1
def encV {u : World} {ps : List P} (x : V u ps) : Array Value := #[.agg #[.int .i64 x.1.1.1, .slice x.1.2.1 x.1.1.2.1.length x.1.2.2, .int .i64 x.1.1.2.2]]
theorem values_stops (n B : Nat) (hn : 1 ≤ n) (A : Option Addr) (cap : Nat) (ps : List P) (u w : World) (hC : Kd.C kP u A ps.length ps) (hw0 : Below u.heap.size u w) (hB : w.heap[B]? = some (.cells #[.slice A ps.length cap] 23 (0, 0))) :
  SeqG n Tryz.prog 103 #[.pointer (some ⟨B, 0, none⟩)] (encV (u := u) (ps := ps)) (zc7 u.heap.size []) (fun _ => False) (fun ys => ys.map V.p = ps) (fun pre => pre.map V.p <+: ps) ps.length w := by
 intro L J Jx W hW hJ hJx hY h0
 have hBW := hW.same B _ hB (fun h => h) (.inr rfl)
 have hlen : ps.length ≤ 9223372036854775807 := hC.2.1
 have hwW : Below u.heap.size u W := zcn hw0 hW (Nat.le_refl _) hw0.size (fun k h => h.elim)
 have cB : W.cell? ⟨B, 0, none⟩ = some (.slice A ps.length cap) := zab hBW 0
 clear hw0 hB hW hBW
 refine callsIn_of_wp Tryz.func103 rfl trivial ?_ rfl
 simp only [Tryz.ntmps103, List.size_toArray, List.length_cons, List.length_nil, Nat.reduceAdd, Nat.reduceSub, Array.replicate_succ, Array.replicate_zero, List.push_toArray, List.append_toArray, List.nil_append, List.cons_append]
 gi_wp2
 gi_loopw [7] (fun i wr => ∃ (j : Nat) (pre : List (V u ps)), i = .int .i64 (j : Int) ∧ j ≤ ps.length ∧ Hid (pre.map V.p = ps.take j) ∧ J pre wr ∧ Below u.heap.size u wr) (fun i _ => ps.length - (Go.RowKit.intOf i).toNat)
 case atStart => exact ⟨0, [], rfl, Nat.zero_le _, Lib.hid rfl, h0, hwW⟩
 case round =>
  obtain ⟨j, pre, rfl, hj, HP, hJs, hb⟩ := hrel
  by_cases hlt : j < ps.length
  ·have hC' := Kd.zak hC hb
   obtain ⟨ad, x, A1, c1, rfl, hx, hl1, hC1, f0, f1, f2⟩ := atP hC j hlt
   have f0' := zad hb f0
   have f1' := zad hb f1
   have f2' := zad hb f2
   have hpl : pre.length < ps.length := by
    have := congrArg List.length HP.out
    rw [List.length_map, List.length_take] at this
    omega
   obtain ⟨fn, tmps, assign, body, hy, hR⟩ := hY pre ⟨(x, A1, c1), hl1, hC1, List.mem_of_getElem? hx⟩ _ (hJ _ _ _ hJs (Turn.alloc (.cells #[.int .i64 x.1, .slice A1 x.2.1.length c1, .int .i64 x.2.2] 42))) hpl
   simp only [encV] at hy
   have HT := Lib.hid (show (pre ++ [(⟨(x, A1, c1), hl1, hC1, List.mem_of_getElem? hx⟩ : V u ps)]).map V.p = ps.take (j + 1) by rw [zdq hx, List.map_append, HP.out]; rfl)
   clear hC' hY f0 f1 f2
   gi_wp2
   refine hR.mono ?_
   rintro e W3 (⟨rfl, hJ3, hk3⟩ | ⟨rfl, hJx3⟩)
   ·gi_wp2
    go_roundw
    case rel => exact ⟨j + 1, _, by first | rfl | go_num, by omega, HT, hJ3, (hb.alloc hb.size _).trans hk3.1⟩
    case measure => simp [Go.RowKit.intOf]; omega
   ·gi_wp2
    refine bodyPost_ret (results_none rfl _ _ _) rfl ?_
    exact ⟨⟨_, rfl⟩, .inr ⟨_, by rw [HT.out]; exact List.take_prefix _ _, hJx3⟩⟩
  ·obtain rfl : j = ps.length := by omega
   gi_wp2
   go_end0
   exact ⟨⟨_, rfl⟩, .inl ⟨_, by rw [HP.out, List.take_length], hJs⟩⟩
theorem values_calls (A : Option Addr) (n c : Nat) (w : World) : Calls Tryz.prog 86 #[.slice A n c] w fun e w' => e = .returned (.func (.func 103) #[] #[.pointer (some ⟨w.heap.size, 0, none⟩)]) ∧ w.alloc (.cells #[.slice A n c] 23) = w' := by
 go_enter Tryz.func86, Tryz.ntmps86
 go_wp2;go_ret
 exact ⟨rfl, rfl⟩
end Go.Proofs.ZZ.Fl
end
section
namespace Go.Proofs.ZZ.RangeH
open Go Go.RowKit Go.Proofs.ZZ.RangeG
def Behind (l : Nat) (W W' : World) : Prop := W.heap.size ≤ W'.heap.size ∧ ∀ (k : Nat) (o : Obj), l < k → W.heap[k]? = some o → o.isCells = false → W'.heap[k]? = some o
theorem behind_refl (l : Nat) (W : World) : Behind l W W := ⟨Nat.le_refl _, fun _ _ _ h _ => h⟩
theorem zdo {l : Nat} {A B C : World} (h : Behind l A B) (k : Behind l B C) : Behind l A C := ⟨Nat.le_trans h.1 k.1, fun i o hi ho hc => k.2 i o hi (h.2 i o hi ho hc) hc⟩
theorem zhd (l : Nat) (W : World) (o o' : Obj) (h : W.heap[l]? = some o) : Behind l W (W.putObj l o') := ⟨by simp [World.putObj], fun k p hk hp _ => (World.putObj_heap_other (by omega)).trans hp⟩
theorem zdx {l B : Nat} {W W' : World} (h : KeepsFrom B W W') (hl : B ≤ l) : Behind l W W' := ⟨h.size, fun k o hk ho hc => h.same k o (by omega) ho hc⟩
theorem zhr {l B : Nat} {W W' : World} (h : Behind l W W') (hl : l < B) : KeepsFrom B W W' := ⟨h.1, fun k o hk ho hc => h.2 k o (by omega) ho hc⟩
theorem behind_mono {l l' : Nat} {W W' : World} (h : Behind l W W') (hl : l ≤ l') : Behind l' W W' := ⟨h.1, fun k o hk ho hc => h.2 k o (by omega) ho hc⟩
def SeqH {α : Type} (n : Nat) (P : Program) (g : Nat) (lb : Array Value) (encs : α → Array Value) (Kp : Nat → World → World → Prop) (S Sp : List α → Prop) (N : Nat) (w : World) : Prop :=
 ∀ (l : Nat) (J Jx : List α → World → Prop) (W : World), Turn w.heap.size (fun _ => False) w W → l < W.heap.size → Abid W.heap.size (fun _ => False) J → Abid W.heap.size (fun _ => False) Jx →
  (∀ pre x W1, J pre W1 → pre.length < N → YieldAt Fence.wide (n - 1) P l (encs x) W1 fun e W' =>
   (e = .returned (.bool true) ∧ J (pre ++ [x]) W' ∧ Kp l W1 W') ∨ (e = .returned (.bool false) ∧ Jx (pre ++ [x]) W' ∧ Behind l W1 W')) →
  J [] W →
  CallsIn Fence.wide n P g (#[.func (.yield l) #[] #[]] ++ lb) W fun e W' => (∃ v, e = .returned v) ∧ ((∃ xs, S xs ∧ J xs W') ∨ (∃ pre, Sp pre ∧ Jx pre W'))
theorem SeqH.of {α : Type} {n : Nat} {P : Program} {g : Nat} {lb : Array Value} {encs : α → Array Value} {Kp : World → World → Prop} {Kq : Nat → World → World → Prop} {S Sp S' Sp' : List α → Prop} {N : Nat} {w : World} (h : SeqG n P g lb encs Kp (fun _ => False) S Sp N w)
  (hK : ∀ l A B, Kq l A B → Kp A B) (hS : ∀ xs, S xs → S' xs) (hSp : ∀ xs, Sp xs → Sp' xs) : SeqH n P g lb encs Kq S' Sp' N w := by
 intro l J Jx W hW hl hJ hJx hY h0
 refine (h l J Jx W hW hJ hJx (fun pre x W1 hj hn => ?_) h0).mono ?_
 ·obtain ⟨fn, tmps, assign, body, hy, hR⟩ := hY pre x W1 hj hn
  exact ⟨fn, tmps, assign, body, hy, hR.mono (fun e W' hh => hh.imp (fun ⟨a, b, c⟩ => ⟨a, b, hK _ _ _ c⟩) (fun ⟨a, b, _⟩ => ⟨a, b⟩))⟩
 ·rintro e W' ⟨hv, hh⟩
  exact ⟨hv, hh.imp (fun ⟨xs, a, b⟩ => ⟨xs, hS _ a, b⟩) (fun ⟨xs, a, b⟩ => ⟨xs, hSp _ a, b⟩)⟩
variable {n : Nat} {P : Program}
theorem rangeH {α : Type} {g : Operand} {ps : Array Tmp} {assign body : Code} {Q : Exit → Act → World → Prop} {a : Act} {w : World}
  {gf : Nat} {lb : Array Value} (hg : a.eval g = .func (.func gf) #[] lb) (eg : ∀ args w, (callFunc gf args).run P w = .ok (.enter gf args) w)
  {encs : α → Array Value} {Kp : Nat → World → World → Prop} {S Sp : List α → Prop} {N : Nat} {w0 : World} (hseq : SeqH (n - 1) P gf lb encs Kp S Sp N w0)
  (hKt : ∀ {l : Nat} {A B C : World}, Kp l A B → Kp l B C → Kp l A C) (hKb : ∀ (W : World) (o o' : Obj), W.heap[w.heap.size + 1]? = some o → o.isCells = false → o.isWalk = false → Kp (w.heap.size + 1) W (W.putObj (w.heap.size + 1) o'))
  (hb0 : Turn w0.heap.size (fun _ => False) w0 w) (hps : ∀ x, (encs x).size = ps.size)
  (I : List α → World → Prop) (Ix : Code → List α → World → Prop) (hI : Abid w.heap.size (fun _ => False) I) (hIx : ∀ c, Abid w.heap.size (fun _ => False) (Ix c)) (h0 : I [] w)
  (Ax : α → Act → World → Prop) (hAx : ∀ x a', Abid w.heap.size (fun _ => False) (fun (_ : Unit) W => Ax x a' W))
  (hassign : ∀ (l : Nat) (pre : List α) (x : α) (W : World) (K : Act → World → Prop), I pre W → (∀ a' W', KeepsFrom w.heap.size W W' → Kp (w.heap.size + 1) W W' → I pre W' → Ax x a' W' → K a' W') →
   assign.wpIn (Fence.wide.inRound l) (n - 1 - 1) P (Exit.then K (fun _ _ _ => False)) { tmps := (ps.zip (encs x)).foldl (fun t (p, v) => t.setIfInBounds p v) a.tmps, defers := [] } W)
  (hbody : ∀ (l : Nat) (pre : List α) (x : α) (a' : Act) (W : World), w.heap.size ≤ l → (∃ r, W.heap[l]? = some (.loop r)) → I pre W → Ax x a' W → pre.length < N → body.wpIn (Fence.wide.inRound l) (n - 1 - 1) P (ownPostG w.heap.size (Kp (w.heap.size + 1)) I Ix (pre ++ [x]) W) a' W)
  (hdone : ∀ (D : Nat) (xs : List α) (W : World), w.heap.size ≤ D → S xs → I xs W → W.heap[D]? = some (.deferred (some [])) → Q .normal { a with defers := { target := .collected D, args := #[] } :: a.defers } W)
  (hstop : ∀ (D : Nat) (c : Code) (pre : List α) (W : World), w.heap.size ≤ D → Sp pre → Ix c pre W → W.heap[D]? = some (.deferred (some [])) → c.wpIn Fence.wide n P Q { a with defers := { target := .collected D, args := #[] } :: a.defers } W) :
  (Code.rangeFunc g ps assign body).wpIn Fence.wide n P Q a w := by
 refine wpIn_rangeFunc ?_
 intro fn hfn
 obtain ⟨rec, hrec⟩ : ∃ rec : LoopState → Option Code → Loop, rec = fun st pe => { state := st, pending := pe, fn, tmps := a.tmps, params := ps, assign, body, defers := w.heap.size } := ⟨_, rfl⟩
 obtain ⟨W1, hW1⟩ : ∃ W1, (w.alloc (.deferred (some []))).alloc (.loop (rec .ready none)) = W1 := ⟨_, rfl⟩
 have sz1 : W1.heap.size = w.heap.size + 2 := by rw [← hW1]; simp
 have hT1 : ∀ k : Nat, ¬ (fun _ : Nat => False) (w.heap.size + k) := fun k e => e
 have rec1 : W1.heap[w.heap.size + 1]? = some (.loop (rec .ready none)) := by
  rw [← hW1]
  have := World.alloc_heap_new (w.alloc (.deferred (some []))) (.loop (rec .ready none))
  rwa [World.size_alloc] at this
 have def1 : W1.heap[w.heap.size]? = some (.deferred (some [])) := by
  rw [← hW1]; exact (Below.heap_alloc _ _ _ (by simp)).trans (World.alloc_heap_new w _)
 have tw : ∀ T', Turn w.heap.size T' w W1 := fun T' => by rw [← hW1]; exact (Turn.alloc _).trans (Turn.alloc _)
 have start : Turn w0.heap.size (fun _ => False) w0 W1 := hb0.trans ((tw _).mono hb0.size (fun _ h => h))
 refine ⟨w.heap.size + 1, [{ target := .collected w.heap.size, args := #[] }], W1, { target := .fn (.func gf) lb, args := #[.func (.yield (w.heap.size + 1)) #[] #[]] }, W1, gf,
  #[.func (.yield (w.heap.size + 1)) #[] #[]] ++ lb, W1, ?_, ?_, fun _ _ => trivial, ?_, (fun h => by cases h), ?_⟩
 ·rw [← hW1, hrec]; exact run_enterLoop_outer _ _ _ _ _
 ·simp only [resolve, hg]
  simp [go_sem]
 ·simp [invoke, go_sem, eg]
 ·have loose : ∀ {A B : World}, Turn W1.heap.size (fun _ => False) A B → Turn w.heap.size (fun _ => False) A B := fun h => h.mono (by omega) (fun _ h => h)
  refine (hseq (w.heap.size + 1)
   (fun pre W => I pre W ∧ W.heap[w.heap.size + 1]? = some (.loop (rec .ready none)) ∧ W.heap[w.heap.size]? = some (.deferred (some [])))
   (fun pre W => ∃ c, Ix c pre W ∧ W.heap[w.heap.size + 1]? = some (.loop (rec .done (some c))) ∧ W.heap[w.heap.size]? = some (.deferred (some [])))
   W1 start (by omega)
   (fun s A B hs ht => ⟨hI s A B hs.1 (loose ht), ht.same _ _ hs.2.1 (hT1 1) (.inl (by omega)), ht.same _ _ hs.2.2 (hT1 0) (.inl (by omega))⟩)
   (fun s A B hs ht => by
    obtain ⟨c, h1, h2, h3⟩ := hs
    exact ⟨c, hIx c s A B h1 (loose ht), ht.same _ _ h2 (hT1 1) (.inl (by omega)), ht.same _ _ h3 (hT1 0) (.inl (by omega))⟩)
   ?_ ⟨hI _ _ _ h0 (tw (fun _ => False)), rec1, def1⟩).mono ?_
  ·rintro pre x W ⟨hi, hl, hk⟩ hlen
   have hy := run_yield (P := P) (args := encs x) hl (by rw [hrec]; exact hps x)
   rw [hrec] at hy
   refine ⟨fn, _, assign, body, hy, roundIn_of_wpIn hfn (hassign _ pre x W _ hi ?_)⟩
   clear hy
   intro a' Wa hfrom hkp hia hax
   have hla := hfrom.same _ _ (by omega) hl rfl
   have hka := hfrom.same _ _ (Nat.le_refl _) hk rfl
   have hlt : w.heap.size + 1 < Wa.heap.size := (Array.getElem?_eq_some_iff.1 hla).1
   obtain ⟨Wb, hWb⟩ : ∃ Wb, Wa.putObj (w.heap.size + 1) (.loop { rec .ready none with state := .busy }) = Wb := ⟨_, rfl⟩
   have tb : Turn w.heap.size (fun _ => False) Wa Wb := by rw [← hWb]; exact Turn.putObj _ hla (by omega) rfl
   have lb2 : Wb.heap[w.heap.size + 1]? = some (.loop { rec .ready none with state := .busy }) := by rw [← hWb]; exact World.putObj_heap_same hlt
   have kb2 : Wb.heap[w.heap.size]? = some (.deferred (some [])) := by rw [← hWb]; exact (World.putObj_heap_other (by omega)).trans hka
   have pb : Kp (w.heap.size + 1) Wa Wb := by rw [← hWb]; exact hKb _ _ _ hla rfl rfl
   have b1 : Behind (w.heap.size + 1) W Wa := zdx hfrom (Nat.le_succ _)
   have b2 : Behind (w.heap.size + 1) Wa Wb := by rw [← hWb]; exact zhd _ _ _ _ hla
   refine ⟨Wb, by rw [← hWb]; exact run_beginRound hla (by rw [hrec]), ?_⟩
   refine wpIn_mono (hbody _ pre x a' Wb (by omega) ⟨_, lb2⟩ (hI _ _ _ hia tb) (hAx x a' () _ _ hax tb) hlen) ?_
   have leave : ∀ (jump : Option Code) (W3 : World), KeepsFrom w.heap.size Wb W3 → ∃ W4, (Instr.endRound (w.heap.size + 1) jump).run P W3 = .ok (.bool jump.isNone) W4 ∧ Turn w.heap.size (fun _ => False) W3 W4 ∧ Kp (w.heap.size + 1) W3 W4 ∧ Behind (w.heap.size + 1) W3 W4 ∧
     W4.heap[w.heap.size + 1]? = some (.loop (rec (if jump.isNone then .ready else .done) jump)) ∧ W4.heap[w.heap.size]? = some (.deferred (some [])) := by
    intro jump W3 h3
    have hl3 := h3.same _ _ (by omega) lb2 rfl
    have he := run_endRound (P := P) jump hl3
    refine ⟨_, he, Turn.putObj _ hl3 (by omega) rfl, hKb _ _ _ hl3 rfl rfl, zhd _ _ _ _ hl3, ?_, (World.putObj_heap_other (by omega)).trans (h3.same _ _ (Nat.le_refl _) kb2 rfl)⟩
    rw [World.putObj_heap_same (Array.getElem?_eq_some_iff.1 hl3).1, hrec]
   rintro e a3 W3 hp
   cases e with
   | normal =>
    obtain ⟨h3, p3, i3⟩ := hp
    obtain ⟨W4, he, t4, p4, b4, l4, k4⟩ := leave none W3 h3
    exact ⟨_, _, he, .inl ⟨rfl, ⟨hI _ _ _ i3 t4, l4, k4⟩, hKt hkp (hKt (hKt pb p3) p4)⟩⟩
   | ret =>
    obtain ⟨h3, i3⟩ := hp
    obtain ⟨W4, he, t4, p4, b4, l4, k4⟩ := leave (some .ret) W3 h3
    exact ⟨_, _, he, .inr ⟨rfl, ⟨.ret, hIx _ _ _ _ i3 t4, l4, k4⟩, zdo b1 (zdo b2 (zdo (zdx h3 (Nat.le_succ _)) b4))⟩⟩
   | exit id =>
    obtain ⟨h3, i3⟩ := hp
    obtain ⟨W4, he, t4, p4, b4, l4, k4⟩ := leave (some (.exit id)) W3 h3
    exact ⟨_, _, he, .inr ⟨rfl, ⟨.exit id, hIx _ _ _ _ i3 t4, l4, k4⟩, zdo b1 (zdo b2 (zdo (zdx h3 (Nat.le_succ _)) b4))⟩⟩
   | goto t =>
    obtain ⟨h3, i3⟩ := hp
    obtain ⟨W4, he, t4, p4, b4, l4, k4⟩ := leave (some (.goto t)) W3 h3
    exact ⟨_, _, he, .inr ⟨rfl, ⟨.goto t, hIx _ _ _ _ i3 t4, l4, k4⟩, zdo b1 (zdo b2 (zdo (zdx h3 (Nat.le_succ _)) b4))⟩⟩
   | panic ch => exact hp.elim
   | outgrown => exact hp.elim
  ·rintro e W2 ⟨⟨v, rfl⟩, (⟨xs, hS, hi, hl, hk⟩ | ⟨pre, hSp, c, hi, hl, hk⟩)⟩
   ·have he := run_endLoop (P := P) hl (by rw [hrec]; simp)
    rw [hrec] at he
    exact ⟨none, _, he, hdone _ xs _ (Nat.le_refl _) hS (hI _ _ _ hi (Turn.putObj _ hl (by omega) rfl)) ((World.putObj_heap_other (by omega)).trans hk)⟩
   ·have he := run_endLoop (P := P) hl (by rw [hrec]; simp)
    rw [hrec] at he
    exact ⟨some c, _, he, hstop _ c pre _ (Nat.le_refl _) hSp (hIx c _ _ _ hi (Turn.putObj _ hl (by omega) rfl)) ((World.putObj_heap_other (by omega)).trans hk)⟩
end Go.Proofs.ZZ.RangeH
end
section
namespace Go.Proofs.ZZ.Seqs
open Go Go.RowKit Go.Shelf Go.Proofs.ZW.PrintWords Go.Proofs.ZZ.Round Go.Proofs.ZZ.RangeG Go.Proofs.ZZ.Fl Go.Proofs.ZZ.RangeH
attribute [local go_sem] Oper.semAt_some
abbrev TI : TypeId := 3
abbrev I64 := { x : Int // (Lit.int .i64 x).wf = true }
def encX (x : I64) : Array Value := #[.int .i64 x.1]
def vals (xs : List I64) : List Int := xs.map (·.1)
def ints (xs : List I64) : List Value := xs.map fun x => .int .i64 x.1
def zft (W W' : World) : Prop := ∀ (k : Nat) cs t fr, W.heap[k]? = some (.cells cs t fr) → t ≠ TI → t ≠ 35 → W'.heap[k]? = some (.cells cs t fr)
theorem keepT_refl (W : World) : zft W W := fun _ _ _ _ h _ _ => h
theorem keepT_t {A B C : World} (h : zft A B) (k : zft B C) : zft A C := fun i cs t fr hi h1 h2 => k i cs t fr (h i cs t fr hi h1 h2) h1 h2
theorem keepT_b (W : World) (l : Nat) (o o' : Obj) (h : W.heap[l]? = some o) (h1 : o.isCells = false) : zft W (W.putObj l o') := fun k cs t fr hk _ _ => (World.putObj_heap_other (fun e => by subst e; rw [hk] at h; cases h; cases h1)).trans hk
theorem keepT_alloc (W : World) (o : Obj) : zft W (W.alloc o) := fun k cs t fr hk _ _ => zaj hk o
theorem keepT_grown {W W' : World} {row : Option Nat} (hg : W.grownBy W' row) (hr : ∀ k, row = some k → ∃ cs t fr, W.heap[k]? = some (.cells cs t fr) ∧ (t = TI ∨ t = 35)) : zft W W' := fun k cs t fr hk h1 h2 =>
 (hg.block k (zbk hk) (fun e => by
  obtain ⟨cs', t', fr', h3, h4⟩ := hr k e.symm
  rw [hk] at h3
  cases h3
  exact h4.elim h1 h2)).trans hk
theorem keepT_set {W : World} {B : Nat} {v : Value} {t : TypeId} (hB : Boxed W B t v) (ht : t = TI ∨ t = 35) (u : Value) : zft W (W.setCell ⟨B, 0, none⟩ u) := fun k cs t' fr hk h1 h2 =>
 (Below.heap_setCell W ⟨B, 0, none⟩ u k (fun e => by
  have e' : k = B := e
  rw [e', hB] at hk
  cases hk
  exact ht.elim h1 h2)).trans hk
def KeepW (n₀ : Nat) (L : List Nat) (W W' : World) : Prop := zc7 n₀ L W W' ∧ KeepsWalks W W' ∧ zft W W'
theorem keepW_refl (n₀ : Nat) (L : List Nat) (W : World) : KeepW n₀ L W W := ⟨zd3 _ _ _, KeepsWalks.refl _, keepT_refl _⟩
theorem keepW_t {n₀ : Nat} {L : List Nat} {A B C : World} (h : KeepW n₀ L A B) (k : KeepW n₀ L B C) : KeepW n₀ L A C := ⟨zes h.1 k.1, walksK_t h.2.1 k.2.1, keepT_t h.2.2 k.2.2⟩
theorem keepW_b {n₀ : Nat} {L : List Nat} {w : World} (hn : n₀ ≤ w.heap.size) (hL : ∀ b, b ∈ L → b < w.heap.size) (W : World) (l : Nat) (o o' : Obj) (hl : w.heap.size ≤ l) (h : W.heap[l]? = some o) (h1 : o.isCells = false) (h2 : o.isWalk = false) : KeepW n₀ L W (W.putObj l o') :=
 ⟨zg5 hn hL W l o o' hl h h1 h2, walksK_b (w := w) W l o o' hl h h1 h2, keepT_b W l o o' h h1⟩
def zem (n₀ : Nat) (l : Nat) (W W' : World) : Prop := KeepW n₀ [] W W' ∧ Behind l W W'
theorem keepH_t {n₀ l : Nat} {A B C : World} (h : zem n₀ l A B) (k : zem n₀ l B C) : zem n₀ l A C := ⟨keepW_t h.1 k.1, zdo h.2 k.2⟩
theorem keepH_b {n₀ : Nat} {w : World} (hn : n₀ ≤ w.heap.size) (W : World) (o o' : Obj) (h : W.heap[w.heap.size + 1]? = some o) (h1 : o.isCells = false) (h2 : o.isWalk = false) : zem n₀ (w.heap.size + 1) W (W.putObj (w.heap.size + 1) o') :=
 ⟨keepW_b (L := []) hn (fun b hb => by cases hb) W _ o o' (by omega) h h1 h2, zhd _ W o o' h⟩
theorem zjj (n₀ l : Nat) (W : World) : zem n₀ l W W := ⟨keepW_refl _ _ _, behind_refl _ _⟩
theorem infoI : (Tryz.prog.info? TI).map (fun i => (i.zero, i.size, i.bytes)) = some (some (.int .i64 0), 1, 8) := by kernel_rfl
theorem append_calls (gf : Nat) (lb : Array Value) (heg : ∀ args w, (callFunc gf args).run Tryz.prog w = .ok (.enter gf args) w) (w : World)
  (S Sp : List I64 → Prop) (N : Nat) (hN : N ≤ 1000000000000) (hseq : SeqH 2 Tryz.prog gf lb encX (zem w.heap.size) S Sp N w) :
  Calls Tryz.prog 88 #[.slice none 0 0, .func (.func gf) #[] lb] w fun e w' => ∃ v xs, e = .returned v ∧ S xs ∧ xs.length ≤ N ∧ w'.ownsRow w.heap.size TI 1 v xs.length (ints xs) ∧ Below w.heap.size w w' := by
 refine (callsIn_wide (n := 3)).1 ?_
 refine callsIn_of_wp_marks Tryz.func88 rfl trivial ?_ rfl
 simp only [Tryz.ntmps88, List.size_toArray, List.length_cons, List.length_nil, Nat.reduceAdd, Nat.reduceSub, Array.replicate_succ, Array.replicate_zero, List.push_toArray, List.append_toArray, List.nil_append, List.cons_append]
 gi_wp2
 obtain ⟨W0, hW0⟩ : ∃ W0, w.alloc (Obj.cells #[.slice none 0 0] 35) = W0 := ⟨_, rfl⟩
 have bv : Boxed W0 w.heap.size 35 (.slice none 0 0) := by rw [← hW0]; exact Boxed.new w _ _
 have tW : ∀ L T', Turn L T' w W0 := fun L T' => by rw [← hW0]; exact Turn.alloc _
 have hB0 : Below w.heap.size w W0 := by rw [← hW0]; exact (Below.refl _ _).alloc (Nat.le_refl _) _
 have sz0 : W0.heap.size = w.heap.size + 1 := by rw [← hW0]; simp
 rw [hW0]
 clear hW0
 obtain ⟨i0, hi, hz0, hz1, hz2⟩ := info_parts infoI
 refine rangeH (gf := gf) (lb := lb) rfl heg hseq keepH_t (keepH_b (by omega)) (tW _ _) (fun _ => rfl)
  (fun pre X => (∃ v, Boxed X w.heap.size 35 v ∧ X.ownsRow W0.heap.size TI 1 v pre.length (ints pre)) ∧ pre.length ≤ N ∧ W0.heap.size ≤ X.heap.size ∧ Below w.heap.size w X)
  (fun c pre X => False)
  ?hI ?hIx ?h0
  (fun x a' X => a' = Act.mk #[.slice none 0 0, .func (.func gf) #[] lb, .pointer (some ⟨w.heap.size, 0, none⟩), undef, .slice none 0 0, .int .i64 x.1, .func (.func gf) #[] lb, .int .i64 x.1, undef, undef, undef, undef, undef] []) ?hAx ?assign ?body ?done ?stop
 case hI =>
  rintro pre X X' ⟨⟨v, h1, h2⟩, h3, h4, h5⟩ ht
  exact ⟨⟨v, Boxed.turn h1 ht (fun h => h), zgg h2 ht (fun _ _ h => h)⟩, h3, Nat.le_trans h4 ht.size, zcn h5 ht (Nat.le_refl _) (by omega) (fun k hk => hk.elim)⟩
 case hIx => exact fun c s X X' h _ => h
 case h0 => exact ⟨⟨_, bv, World.ownsRow_nil _ _ _ _⟩, Nat.zero_le _, Nat.le_refl _, hB0⟩
 case hAx => exact fun x a' s X Y h _ => h
 case assign =>
  rintro l pre x X K ⟨⟨v, h1, h2⟩, h3, h4, h5⟩ hK2
  simp only [encX]
  gi_wp2
  exact hK2 _ _ (KeepsFrom.refl _ _) (zjj _ _ _) ⟨⟨v, h1, h2⟩, h3, h4, h5⟩ rfl
 case body =>
  rintro l pre x a' X hl hr ⟨⟨v, h1, h2⟩, h3, h4, h5⟩ rfl hpre
  have cv := h1.cell
  have one : ∀ u ∈ [Value.int .i64 x.1], u.oneCell' = true := by
   intro u hu
   simp at hu
   rw [hu]
   rfl
  have H1 := Lib.hid one
  clear one
  have maxl : maxLen = 9223372036854775807 := rfl
  have HM := Lib.hid maxl
  clear maxl
  have il : (ints pre).length = pre.length := by simp [ints]
  gi_wp2_with (gi_at_builtin; refine wpListIn_append_own _ rfl _ _ 35 rfl W0.heap.size TI i0 (.int .i64 0) 1 8 Tryz.underlying35 hi hz0 hz1 hz2 rfl (by decide) _ _ _ rfl (h2.alloc _) ⟨X.heap.size, 0, none⟩ 1 1 [.int .i64 x.1] rfl rfl (cell_one_new _ _ _) H1.out (by have := HM.out; omega) (by omega) (by simp; omega) ?_; intro v' w1 hown' hgrow _; obtain ⟨g', cap', rfl⟩ := ownsRow_succ hown'; obtain ⟨hv1, hv2, hr2, hk2, hb2⟩ := zie (n₀ := w.heap.size) (Ls := []) h1 (by omega) h2 h4 hown' hgrow (by omega) (fun b hb => nomatch hb); have hc1 := hv1.cell; have hf1 := hv1.frozen)
  have e2 : ints (pre ++ [x]) = ints pre ++ [.int .i64 x.1] := by simp [ints]
  have e3 : (pre ++ [x]).length = pre.length + 1 := by simp
  refine ⟨hk2, ⟨⟨hb2, ((KeepsWalks.alloc X _).trans (KeepsWalks.of_grownBy hgrow (fun j o hj ho => ?_))).trans (KeepsWalks.setCell _ _ _), keepT_t (keepT_t (keepT_alloc X _) (keepT_grown hgrow (fun j hj => ?_))) (keepT_set hv1 (.inr rfl) _)⟩, zdx hk2 (by omega)⟩, ⟨_, hv2, ?_⟩, by omega, Nat.le_trans h4 hb2.1.size, h5.trans hb2.1⟩
  ·replace hj : v.ownBlock = some j := hj
   rcases h2.2 with ⟨hv, _⟩ | ⟨g, cap, cur, hv, hg, hh, _⟩
   ·rw [hv] at hj; simp [Value.ownBlock] at hj
   ·rw [hv] at hj
    obtain rfl : g = j := by simpa [Value.ownBlock] using hj
    rw [zaj hh _] at ho
    cases ho
    rfl
  ·replace hj : v.ownBlock = some j := hj
   rcases h2.2 with ⟨hv, _⟩ | ⟨g, cap, cur, hv, hg, hh, _⟩
   ·rw [hv] at hj; simp [Value.ownBlock] at hj
   ·rw [hv] at hj
    obtain rfl : g = j := by simpa [Value.ownBlock] using hj
    exact ⟨_, _, _, zaj hh _, .inl rfl⟩
  ·rw [e2, e3]
   exact hr2
 case done =>
  rintro D ys X hD hS ⟨⟨v, h1, h2⟩, h3, h4, h5⟩ hK'
  have cv := h1.cell
  have HS := Lib.hid hS
  clear hS
  gi_wp2
  refine ⟨by simp, .inl ⟨_, _, rfl, run_takeDeferred hK', ?_⟩⟩
  refine ⟨_, results_tmp rfl _ _ _, v, ys, rfl, HS.out, h3, ?_, h5.trans (belowK_b (w := w) (Nat.le_refl _) X D _ _ (by omega) hK' rfl rfl)⟩
  exact zew (ownsRow_putObj h2 _ hK' rfl) (by omega)
 case stop => exact fun D c pre W hD hp h => h.elim
theorem zhp (gf : Nat) (lb : Array Value) (heg : ∀ args w, (callFunc gf args).run Tryz.prog w = .ok (.enter gf args) w) (w : World)
  (S Sp : List I64 → Prop) (N : Nat) (hN : N ≤ 1000000000000) (hseq : SeqH 2 Tryz.prog gf lb encX (zem w.heap.size) S Sp N w) :
  Calls Tryz.prog 74 #[.func (.func gf) #[] lb] w fun e w' => ∃ v xs, e = .returned v ∧ S xs ∧ xs.length ≤ N ∧ w'.ownsRow w.heap.size TI 1 v xs.length (ints xs) ∧ Below w.heap.size w w' := by
 have hc := append_calls gf lb heg w S Sp N hN hseq
 go_enter Tryz.func74, Tryz.ntmps74
 go_wp2_with (go_at_call 88; refine hc.mono ?_; rintro e w' ⟨v, xs, rfl, h1, h2, h3, h4⟩)
 go_ret
 exact ⟨v, xs, rfl, h1, h2, h3, h4⟩
theorem none_stops (n : Nat) (n₀ : Nat) (Ls : List Nat) (N : Nat) (w : World) : SeqG n Tryz.prog 76 #[] encX (KeepW n₀ Ls) (fun _ => False) (fun ys => ys = []) (fun pre => pre = []) N w := by
 intro L J Jx W hW hJ hJx hY h0
 refine callsIn_of_wp Tryz.func76 rfl trivial ?_ rfl
 simp only [Tryz.ntmps76, List.size_toArray, List.length_cons, List.length_nil, Nat.reduceAdd, Nat.reduceSub, Array.replicate_succ, Array.replicate_zero, List.push_toArray, List.append_toArray, List.nil_append, List.cons_append]
 gi_wp2
 go_end0
 exact ⟨⟨_, rfl⟩, .inl ⟨[], rfl, h0⟩⟩
theorem gvals_stops (n B g : Nat) (hn : 1 ≤ n) (A : Option Addr) (cap : Nat) (xs : List I64) (cs : Array Value) (w0 w : World) (hw0 : Below w0.heap.size w0 w) (hl : xs.length ≤ 1000000000000)
  (hB : w.heap[B]? = some (.cells #[.slice A xs.length cap] 35 (0, 0))) (hg : xs ≠ [] → A = some ⟨g, 0, none⟩ ∧ w.heap[g]? = some (.cells cs TI (0, 0)) ∧ ∀ (j : Nat) (x : I64), xs[j]? = some x → cs[j]? = some (.int .i64 x.1)) :
  SeqG n Tryz.prog 87 #[.pointer (some ⟨B, 0, none⟩)] encX (zc7 w0.heap.size [g]) (fun _ => False) (fun ys => ys = xs) (fun pre => pre <+: xs) xs.length w := by
 intro L J Jx W hW hJ hJx hY h0
 have hBW := hW.same B _ hB (fun h => h) (.inr rfl)
 have hwW : Below w0.heap.size w0 W := zcn hw0 hW (Nat.le_refl _) hw0.size (fun k h => h.elim)
 have hgW : xs ≠ [] → A = some ⟨g, 0, none⟩ ∧ W.heap[g]? = some (.cells cs TI (0, 0)) ∧ ∀ (j : Nat) (x : I64), xs[j]? = some x → cs[j]? = some (.int .i64 x.1) := fun h => ⟨(hg h).1, hW.same g _ (hg h).2.1 (fun h => h) (.inr rfl), (hg h).2.2⟩
 have cB : W.cell? ⟨B, 0, none⟩ = some (.slice A xs.length cap) := zab hBW 0
 have HG := Lib.hid hgW
 clear hw0 hB hW hBW hg hgW
 refine callsIn_of_wp Tryz.func87 rfl trivial ?_ rfl
 simp only [Tryz.ntmps87, List.size_toArray, List.length_cons, List.length_nil, Nat.reduceAdd, Nat.reduceSub, Array.replicate_succ, Array.replicate_zero, List.push_toArray, List.append_toArray, List.nil_append, List.cons_append]
 gi_wp2
 gi_loopw [7] (fun i wr => ∃ (j : Nat), i = .int .i64 (j : Int) ∧ j ≤ xs.length ∧ J (xs.take j) wr ∧ Hid (xs ≠ [] → wr.heap[g]? = some (.cells cs TI (0, 0)))) (fun i _ => xs.length - (Go.RowKit.intOf i).toNat)
 case atStart => exact ⟨0, rfl, Nat.zero_le _, h0, Lib.hid (fun h => (HG.out h).2.1)⟩
 case round =>
  obtain ⟨j, rfl, hj, hJs, hgr⟩ := hrel
  by_cases hlt : j < xs.length
  ·have hne : xs ≠ [] := fun e => by rw [e] at hlt; simp at hlt
   obtain ⟨rfl, _, hcs⟩ := HG.out hne
   have hx := List.getElem?_eq_getElem hlt
   generalize xs[j] = x at hx
   have f0 : wr.cell? ⟨g, j, none⟩ = some (.int .i64 x.1) := by
    rw [zab (hgr.out hne) j]
    exact hcs j x hx
   obtain ⟨fn, tmps, assign, body, hy, hR⟩ := hY (xs.take j) x _ hJs (by rw [List.length_take]; omega)
   simp only [encX] at hy
   have HT := Lib.hid (zdq hx)
   have HN := Lib.hid hne
   clear hx hY hcs hne
   gi_wp2
   refine hR.mono ?_
   rintro e W3 (⟨rfl, hJ3, hk3⟩ | ⟨rfl, hJx3⟩)
   ·have hg3 : Hid (xs ≠ [] → W3.heap[g]? = some (.cells cs TI (0, 0))) := Lib.hid fun h => (hk3.2 g (by simp) (zbk (hgr.out h))).trans (hgr.out h)
    gi_wp2
    go_roundw
    case rel => exact ⟨j + 1, by first | rfl | go_num, by omega, by rw [HT.out]; exact hJ3, hg3⟩
    case measure => simp [Go.RowKit.intOf]; omega
   ·gi_wp2
    refine bodyPost_ret (results_none rfl _ _ _) rfl ?_
    exact ⟨⟨_, rfl⟩, .inr ⟨_, by rw [← HT.out]; exact List.take_prefix _ _, hJx3⟩⟩
  ·obtain rfl : j = xs.length := by omega
   gi_wp2
   go_end0
   exact ⟨⟨_, rfl⟩, .inl ⟨_, List.take_length, hJs⟩⟩
theorem ivals_calls (A : Option Addr) (n c : Nat) (w : World) : Calls Tryz.prog 73 #[.slice A n c] w fun e w' => e = .returned (.func (.func 87) #[] #[.pointer (some ⟨w.heap.size, 0, none⟩)]) ∧ w.alloc (.cells #[.slice A n c] 35) = w' := by
 go_enter Tryz.func73, Tryz.ntmps73
 go_wp2;go_ret
 exact ⟨rfl, rfl⟩
end Go.Proofs.ZZ.Seqs
end
section
namespace Go.Proofs.ZZ.MSet
open Go Go.RowKit Go.Shelf Go.Maps Go.Proofs.ZW.PrintWords Go.Proofs.ZZ.Round Go.Proofs.ZZ.RangeG Go.Proofs.ZZ.Fl Go.Proofs.ZZ.Seqs
attribute [local go_sem] Oper.semAt_some
def putV : List Int → Int → List Int
 | [], x => [x]
 | a :: t, x => if x < a then x :: a :: t else if x = a then a :: t else a :: putV t x
def zbf (l : List Int) (xs : List Int) : List Int := xs.foldl putV l
abbrev zc8 (l : List Int) : Prop := l.Pairwise (· < ·)
theorem ze9 (x y : Int) : ∀ l : List Int, y ∈ putV l x ↔ y = x ∨ y ∈ l
 | [] => by simp [putV]
 | a :: t => by
  unfold putV
  split
  ·simp
  ·split
   ·rename_i h; subst h; simp
   ·rw [List.mem_cons, List.mem_cons, ze9 x y t]
    constructor
    ·rintro (h | h | h)
     ·exact .inr (.inl h)
     ·exact .inl h
     ·exact .inr (.inr h)
    ·rintro (h | h | h)
     ·exact .inr (.inl h)
     ·exact .inl h
     ·exact .inr (.inr h)
theorem zfz (x : Int) : ∀ {l : List Int}, zc8 l → zc8 (putV l x)
 | [], _ => by simp [putV]
 | a :: t, h => by
  obtain ⟨h1, h2⟩ := List.pairwise_cons.1 h
  unfold putV
  split
  ·rename_i c
   refine List.pairwise_cons.2 ⟨fun y hy => ?_, h⟩
   rcases List.mem_cons.1 hy with rfl | hy
   ·exact c
   ·have := h1 y hy; omega
  ·split
   ·exact h
   ·rename_i c1 c2
    refine List.pairwise_cons.2 ⟨fun y hy => ?_, zfz x h2⟩
    rcases (ze9 x y t).1 hy with rfl | hy
    ·omega
    ·exact h1 y hy
theorem zi9 (x : Int) : ∀ {l : List Int}, zc8 l → (putV l x).length = if x ∈ l then l.length else l.length + 1
 | [], _ => by simp [putV]
 | a :: t, h => by
  obtain ⟨h1, h2⟩ := List.pairwise_cons.1 h
  unfold putV
  split
  ·rename_i c
   have : x ∉ a :: t := fun hm => by
    rcases List.mem_cons.1 hm with rfl | hm
    ·omega
    ·have := h1 x hm; omega
   rw [if_neg this]
   rfl
  ·split
   ·rename_i c; subst c; rw [if_pos (by simp)]
   ·rename_i c1 c2
    rw [List.length_cons, zi9 x h2]
    by_cases hm : x ∈ t
    ·rw [if_pos hm, if_pos (by simp [hm])]; rfl
    ·rw [if_neg hm, if_neg (by simp [hm, c2])]; rfl
theorem zch (y : Int) : ∀ (xs l : List Int), y ∈ zbf l xs ↔ y ∈ xs ∨ y ∈ l
 | [], l => by simp [zbf]
 | x :: t, l => by
  show y ∈ zbf (putV l x) t ↔ _
  rw [zch y t, ze9, List.mem_cons]
  constructor
  ·rintro (h | h | h)
   ·exact .inl (.inr h)
   ·exact .inl (.inl h)
   ·exact .inr h
  ·rintro ((h | h) | h)
   ·exact .inr (.inl h)
   ·exact .inl h
   ·exact .inr (.inr h)
theorem zcu : ∀ (xs : List Int) {l : List Int}, zc8 l → zc8 (zbf l xs)
 | [], _, h => h
 | x :: t, _, h => zcu t (zfz x h)
theorem zjr : ∀ (xs : List Int) {l : List Int}, zc8 l → (zbf l xs).length ≤ l.length + xs.length
 | [], _, _ => Nat.le_refl _
 | x :: t, l, h => by
  have h1 := zjr t (zfz x h)
  have h2 := zi9 x h
  show (zbf (putV l x) t).length ≤ _
  rw [List.length_cons]
  split at h2 <;> omega
theorem zfn : ∀ {l m : List Int}, zc8 l → zc8 m → (∀ x, x ∈ l ↔ x ∈ m) → l = m
 | [], [], _, _, _ => rfl
 | [], b :: m, _, _, h => by have := (h b).2 (by simp); cases this
 | a :: l, [], _, _, h => by have := (h a).1 (by simp); cases this
 | a :: l, b :: m, hl, hm, h => by
  obtain ⟨l1, l2⟩ := List.pairwise_cons.1 hl
  obtain ⟨m1, m2⟩ := List.pairwise_cons.1 hm
  have e : a = b := by
   have h1 := (h a).1 (by simp)
   have h2 := (h b).2 (by simp)
   rcases List.mem_cons.1 h1 with h1 | h1
   ·exact h1
   ·rcases List.mem_cons.1 h2 with h2 | h2
    ·exact h2.symm
    ·have := m1 a h1; have := l1 b h2; omega
  subst e
  congr 1
  refine zfn l2 m2 fun x => ?_
  constructor
  ·intro hx
   rcases List.mem_cons.1 ((h x).1 (by simp [hx])) with rfl | h'
   ·have := l1 x hx; omega
   ·exact h'
  ·intro hx
   rcases List.mem_cons.1 ((h x).2 (by simp [hx])) with rfl | h'
   ·have := m1 x hx; omega
   ·exact h'
abbrev TB : TypeId := 4
theorem law : Keyed Tryz.prog TI := int_keyed Tryz.underlying3
def zb3 (b : Nat) (S : List Int) (W : World) : Prop := zc8 S ∧ (∀ x ∈ S, (Lit.int .i64 x).wf = true) ∧ ∃ D : DataW Unit, W.ownsMap Tryz.prog TI (plainElem Tryz.prog TB) b S.length D ∧ Maps.size D = S.length ∧ ∀ x, Maps.has D (.int .i64 x) = decide (x ∈ S)
theorem tight {w : World} {b n : Nat} {D : DataW Unit} (h : w.ownsMap Tryz.prog TI (plainElem Tryz.prog TB) b n D) : w.ownsMap Tryz.prog TI (plainElem Tryz.prog TB) b (Maps.size D) D := by
 obtain ⟨es, clock, hb, F, hs, hD⟩ := h
 refine ⟨es, clock, hb, F, ?_, hD⟩
 rw [hD]
 simp [Maps.size, length_sorted]
theorem zb3.lt {b : Nat} {S : List Int} {W : World} (h : zb3 b S W) : b < W.heap.size := by
 obtain ⟨_, _, D, h1, _⟩ := h
 exact h1.lt
theorem zb3.block {b : Nat} {S : List Int} {W : World} (h : zb3 b S W) : ∃ o, W.heap[b]? = some o ∧ o.isCells = false ∧ o.isWalk = true := by
 obtain ⟨_, _, D, ⟨es, clock, hb, _⟩, _⟩ := h
 exact ⟨_, hb, rfl, rfl⟩
theorem zb3.keep {b : Nat} {S : List Int} {W W' : World} (h : zb3 b S W) (hb : W'.heap[b]? = W.heap[b]?) : zb3 b S W' := by
 obtain ⟨h1, h2, D, ⟨es, clock, h3, h4⟩, h5⟩ := h
 exact ⟨h1, h2, D, ⟨es, clock, hb.trans h3, h4⟩, h5⟩
theorem zb3.turn {b : Nat} {S : List Int} {L : Nat} {T : Nat → Prop} {W W' : World} (h : zb3 b S W) (ht : Turn L T W W') (hT : ¬ T b) (hL : b < L) : zb3 b S W' := by
 obtain ⟨o, ho, _⟩ := h.block
 exact h.keep ((ht.same b o ho hT (.inl hL)).trans ho.symm)
theorem zb3.new (W : World) : zb3 W.heap.size [] (W.alloc (.map #[] 0)) := ⟨List.Pairwise.nil, (fun _ h => nomatch h), _, World.ownsMap_made W _ _ _, rfl, fun x => rfl⟩
theorem zb3.put {b n : Nat} {S : List Int} {W W' : World} {D : DataW Unit} (h1 : zc8 S) (h2 : ∀ x ∈ S, (Lit.int .i64 x).wf = true) (hs : Maps.size D = S.length) (hh : ∀ x, Maps.has D (.int .i64 x) = decide (x ∈ S)) (hm : W.ownsMap Tryz.prog TI (plainElem Tryz.prog TB) b n D) (x : Int) (hx : (Lit.int .i64 x).wf = true)
  (h : W'.ownsMap Tryz.prog TI (plainElem Tryz.prog TB) b (n + 1) (D.put (.int .i64 x) (.lit (.bool true)))) : zb3 b (putV S x) W' := by
 have hk : WideAt.IsKeyLit (.int .i64 x) := law.key (keyOf_int_mk Tryz.underlying3 hx)
 have hsz : Maps.size (D.put (.int .i64 x) (.lit (.bool true))) = (putV S x).length := by
  rw [size_put (hm.tidy law) _, hh x, hs, zi9 x h1]
  by_cases hm : x ∈ S <;> simp [hm]
 refine ⟨zfz x h1, fun y hy => ?_, _, ?_, hsz, fun y => ?_⟩
 ·rcases (ze9 x y S).1 hy with rfl | hy
  ·exact hx
  ·exact h2 y hy
 ·rw [← hsz]
  exact tight h
 ·by_cases e : y = x
  ·subst e
   rw [has_put_same hm.isMap hk]
   simp [ze9]
  ·rw [has_put_other (by intro e'; cases e'; exact e rfl), hh y]
   simp [ze9, e]
theorem keys_stops (n B b : Nat) (hn : 1 ≤ n) (S : List Int) (n₀ : Nat) (Ls : List Nat) (w : World) (hb : b < w.heap.size) (hS : zb3 b S w) (hB : w.heap[B]? = some (.cells #[.map (some b)] 103 (0, 0))) :
  SeqG n Tryz.prog 85 #[.pointer (some ⟨B, 0, none⟩)] encX (KeepW n₀ Ls) (fun _ => False) (fun ys => (vals ys).Nodup ∧ ∀ x, x ∈ vals ys ↔ x ∈ S) (fun pre => True) S.length w := by
 intro L J Jx W hW hJ hJx hY h0
 have hBW := hW.same B _ hB (fun h => h) (.inr rfl)
 have hSW := hS.turn hW (fun h => h) hb
 have cB : W.cell? ⟨B, 0, none⟩ = some (.map (some b)) := zab hBW 0
 obtain ⟨h1, h2, D, hown, hsz, hhas⟩ := hSW
 clear hW hB hBW hS
 refine callsIn_of_wp Tryz.func85 rfl trivial ?_ rfl
 simp only [Tryz.ntmps85, List.size_toArray, List.length_cons, List.length_nil, Nat.reduceAdd, Nat.reduceSub, Array.replicate_succ, Array.replicate_zero, List.push_toArray, List.append_toArray, List.nil_append, List.cons_append]
 gi_wp2_with (first
  | (gi_at_range; refine wpListIn_range_own _ rfl _ 103 rfl TI TB law Tryz.underlying103 _ b S.length _ rfl hown ?_; intro w0 hrg0 hg0 hs0)
  | gi_in)
 go_frame
 gi_loopw [3] (fun _ wr => ∃ (left : Lit → Bool) (cnt : Nat) (ss : List I64), wr.ranges Tryz.prog TI (plainElem Tryz.prog TB) b W.heap.size S.length D left cnt ∧ ss.length + cnt ≤ S.length ∧ CollectedI D left (vals ss) ∧ J ss wr)
  (fun _ wr => wr.rangeLeft b W.heap.size)
 case atStart =>
  exact ⟨_, _, [], hrg0, by simp [hsz], CollectedI.start D, hJ _ _ _ h0 (Turn.grown hg0 (fun k e => by cases e))⟩
 case round =>
  obtain ⟨left, cnt, ss, hrg, hcs, hC, hJs⟩ := hrel
  gi_wp2_with (first
   | (gi_at_next; refine wpListIn_next_ranges _ rfl _ rfl TI law (plainElem Tryz.prog TB) encZ id (fun key kl hk => by obtain ⟨x, hx, _⟩ := Maps.keyOf_i64 Tryz.underlying3 hk; exact ⟨x, hx⟩) (fun v _ _ => ⟨v, rfl⟩) b W.heap.size S.length _ _ _ rfl hrg ?_ ?_)
   | gi_in)
  ·intro hc0 hl0
   gi_wp2
   go_end0
   refine ⟨⟨_, rfl⟩, .inl ⟨ss, ⟨hC.1, fun x => ?_⟩, hJs⟩⟩
   rw [hC.2 x, hl0, hhas x]
   simp
  ·intro x c kl yd yp w2 cnt2 hkey hlk hv hat hrg2 hlt hg2 hs2 hen
   obtain ⟨x', ex, rfl, hwf⟩ := Maps.keyOf_i64 Tryz.underlying3 hkey
   obtain rfl : x = x' := encZ_inj ex
   have hJ2 : J ss w2 := hJ _ _ _ hJs (Turn.grown hg2 (fun r e => by cases e; exact .inr ⟨Nat.le_refl _, hrg.iter_walk.imp (fun o h => ⟨h.1, Obj.not_cells_of_walk h.2⟩)⟩))
   obtain ⟨fn, tmps, assign, body, hy, hR⟩ := hY ss ⟨x, hwf⟩ w2 hJ2 (by omega)
   simp only [encX] at hy
   clear hs2
   gi_wp2
   refine hR.mono ?_
   have hC2 : CollectedI D (fun z => left z && !z.sameKey (Lit.int .i64 x)) (vals (ss ++ [⟨x, hwf⟩])) := by
    have := hC.step hlk hat
    simpa [vals] using this
   rintro e W3 (⟨rfl, hJ3, hk3⟩ | ⟨rfl, hJx3⟩)
   ·gi_wp2
    have hrg3 := hrg2.of_walks hk3.2.1
    go_roundw
    case rel => exact ⟨_, cnt2, ss ++ [⟨x, hwf⟩], hrg3, by simp; omega, hC2, hJ3⟩
    case measure => rw [hrg3.left_eq, hrg.left_eq]; exact hlt
   ·gi_wp2
    refine bodyPost_ret (results_none rfl _ _ _) rfl ?_
    exact ⟨⟨_, rfl⟩, .inr ⟨ss ++ [⟨x, hwf⟩], trivial, hJx3⟩⟩
theorem keys_calls (mb : Option Nat) (w : World) : Calls Tryz.prog 69 #[.map mb] w fun e w' => e = .returned (.func (.func 85) #[] #[.pointer (some ⟨w.heap.size, 0, none⟩)]) ∧ w.alloc (.cells #[.map mb] 103) = w' := by
 go_enter Tryz.func69, Tryz.ntmps69
 go_wp2;go_ret
 exact ⟨rfl, rfl⟩
end Go.Proofs.ZZ.MSet
end
section
namespace Go.Proofs.ZZ.Add
open Go Go.RowKit Go.Shelf Go.Maps Go.Proofs.ZW.PrintWords Go.Proofs.ZZ.Round Go.Proofs.ZZ.RangeG Go.Proofs.ZZ.Fl Go.Proofs.ZZ.Seqs Go.Proofs.ZZ.MSet
attribute [local go_sem] Oper.semAt_some
theorem vals_app (a : List I64) (x : I64) (S : List Int) : zbf S (vals (a ++ [x])) = putV (zbf S (vals a)) x.1 := by simp [vals, zbf, List.foldl_append]
theorem add_calls (gf : Nat) (lb : Array Value) (heg : ∀ args w, (callFunc gf args).run Tryz.prog w = .ok (.enter gf args) w) (w : World) (n₀ : Nat) (Ls : List Nat) (b : Nat) (S : List Int) (xs : List I64) (Sp : List I64 → Prop) (N : Nat) (hN : S.length + N ≤ 1000000000000)
  (hn0 : n₀ ≤ b) (hLs : ∀ c, c ∈ Ls → c < w.heap.size ∧ c ≠ b) (hS : zb3 b S w) (hseq : SeqG 2 Tryz.prog gf lb encX (zc7 n₀ Ls) (fun _ => False) (fun ys => ys = xs) Sp N w) :
  Calls Tryz.prog 72 #[.map (some b), .func (.func gf) #[] lb] w fun e w' => e = .returned (.bool (decide ((zbf S (vals xs)).length > S.length))) ∧ zb3 b (zbf S (vals xs)) w' ∧ Turn w.heap.size (fun k => k = b) w w' := by
 refine (callsIn_wide (n := 3)).1 ?_
 refine callsIn_of_wp_marks Tryz.func72 rfl trivial ?_ rfl
 simp only [Tryz.ntmps72, List.size_toArray, List.length_cons, List.length_nil, Nat.reduceAdd, Nat.reduceSub, Array.replicate_succ, Array.replicate_zero, List.push_toArray, List.append_toArray, List.nil_append, List.cons_append]
 have hbw := hS.lt
 obtain ⟨W0, hW0⟩ : ∃ W0, w.alloc (Obj.cells #[.map (some b)] 103) = W0 := ⟨_, rfl⟩
 have tW : ∀ L T', Turn L T' w W0 := fun L T' => by rw [← hW0]; exact Turn.alloc _
 have hS0 : zb3 b S W0 := hS.turn (tW w.heap.size (fun _ => False)) (fun h => h) hbw
 have bm : Boxed W0 w.heap.size 103 (.map (some b)) := by rw [← hW0]; exact Boxed.new w _ _
 have sz0 : W0.heap.size = w.heap.size + 1 := by rw [← hW0]; simp
 have cb := bm.cell
 obtain ⟨r1, r2, D, hown, hsz, hhas⟩ := hS0
 gi_wp2_with (first
  | (gi_at_len; refine wpListIn_len_own _ rfl _ _ rfl TI TB Tryz.underlying103 _ b S.length D rfl hown ?_)
  | gi_in)
 refine rangeG (gf := gf) (lb := lb) rfl heg hseq (fun k hk => hk.elim) zes (zg5 (by omega) (fun c hc => by have := (hLs c hc).1; omega)) (tW _ _) (fun _ => rfl)
  (fun pre X => zb3 b (zbf S (vals pre)) X ∧ Boxed X w.heap.size 103 (.map (some b)) ∧ pre.length ≤ N ∧ W0.heap.size ≤ X.heap.size ∧ Turn w.heap.size (fun k => k = b) w X)
  (fun c pre X => False)
  ?hI ?hIx ?h0
  (fun x a' X => a' = Act.mk #[.map (some b), .func (.func gf) #[] lb, .pointer (some ⟨w.heap.size, 0, none⟩), undef, .bool false, .int .i64 (S.length : Int), .int .i64 x.1, .map (some b), .int .i64 (S.length : Int), .func (.func gf) #[] lb, .int .i64 x.1, undef, undef, undef, undef, undef, undef] []) ?hAx ?assign ?body ?done ?stop
 case hI =>
  rintro pre X X' ⟨h1, h2, h3, h4, h5⟩ ht
  exact ⟨h1.turn ht (fun h => h) (by omega), Boxed.turn h2 ht (fun h => h), h3, Nat.le_trans h4 ht.size, h5.trans (ht.mono (by omega) (fun _ h => h.elim))⟩
 case hIx => exact fun c s X X' h _ => h
 case h0 => exact ⟨⟨r1, r2, D, hown, hsz, hhas⟩, bm, Nat.zero_le _, Nat.le_refl _, tW _ _⟩
 case hAx => exact fun x a' s X Y h _ => h
 case assign =>
  rintro l pre x X K hI hK2
  simp only [encX]
  gi_wp2
  exact hK2 _ _ (KeepsFrom.refl _ _) (zd3 _ _ _) hI rfl
 case body =>
  rintro l pre x a' X hl hr ⟨h1, h2, h3, h4, h5⟩ rfl hpre
  have cv := h2.cell
  obtain ⟨q1, q2, D', hown', hsz', hhas'⟩ := h1
  have hlen := zjr (vals pre) r1
  have hvl : (vals pre).length = pre.length := by simp [vals]
  have maxl : maxLen = 9223372036854775807 := rfl
  have hbX := hown'.lt
  gi_wp2_with (first
   | (gi_at_mapUpdate; refine wpListIn_mapUpdate_own _ rfl _ _ _ 103 rfl TI TB law Tryz.underlying103 _ b _ _ rfl hown' (by omega) _ _ _ rfl rfl (Maps.keyOf_int_mk Tryz.underlying3 x.2) _ [] (plainElem_bool Tryz.underlying4 true) ?_; intro w1 hown1 hgrow1)
   | gi_in)
  have ht1 : Turn w.heap.size (fun k => k = b) X w1 := Turn.grown hgrow1 (fun k e => by cases e; exact .inl rfl)
  refine ⟨KeepsFrom.of_grownBy hgrow1 (fun j e => by cases e; omega), zim (zd3 _ _ _) (by omega) hgrow1 (fun k e => by cases e; exact ⟨hn0, fun hc => (hLs _ hc).2 rfl⟩), ?_, Boxed.turn h2 ht1 (by omega), by simp; omega, Nat.le_trans h4 ht1.size, h5.trans ht1⟩
  rw [vals_app]
  exact zb3.put q1 q2 hsz' hhas' hown' x.1 x.2 hown1
 case done =>
  rintro D0 ys X hD rfl ⟨h1, h2, h3, h4, h5⟩ hK'
  have cv := h2.cell
  obtain ⟨q1, q2, D', hown', hsz', hhas'⟩ := h1
  gi_wp2_with (first
   | (gi_at_len; refine wpListIn_len_own _ rfl _ _ rfl TI TB Tryz.underlying103 _ b _ _ rfl hown' ?_)
   | gi_in)
  have tp : ∀ L T, L ≤ D0 → Turn L T X (X.putObj D0 (.deferred none)) := fun L T h => Turn.putObj _ hK' h rfl
  have s1 : zb3 b (zbf S (vals ys)) X := ⟨q1, q2, D', hown', hsz', hhas'⟩
  refine ⟨by simp, .inl ⟨_, _, rfl, run_takeDeferred hK', ?_⟩⟩
  exact ⟨_, results_tmp rfl _ _ _, rfl, s1.turn (tp w.heap.size (fun _ => False) (by omega)) (fun h => h) hbw, h5.trans (tp _ _ (by omega))⟩
 case stop => exact fun D c pre W hD hp h => h.elim
end Go.Proofs.ZZ.Add
end
section
namespace Go.Proofs.ZZ.Grow
open Go Go.RowKit Go.Shelf Go.Proofs.ZW.PrintWords Go.Proofs.ZZ.Round Go.Proofs.ZZ.RangeG Go.Proofs.ZZ.Fl
attribute [local go_sem] Oper.semAt_some
section
variable {σ : Type}
def zce (step : σ → P → σ × Bool) (s : σ × Bool) (p : P) : σ × Bool := ((step s.1 p).1, s.2 || (step s.1 p).2)
def zc5 (step : σ → P → σ × Bool) (ps : List P) (s : σ) : σ × Bool := ps.foldl (zce step) (s, false)
def zb2 (step : σ → P → σ × Bool) (ps : List P) : Nat → σ → Option σ
 | 0, _ => none
 | k + 1, s => if (zc5 step ps s).2 = true then zb2 step ps k (zc5 step ps s).1 else some (zc5 step ps s).1
def mark (D : Nat) : Deferred := { target := .collected D, args := #[] }
theorem zgc {F : Fence} {n : Nat} {Pr : Program} {fn : Func} {tmps : Array Value} {R : Ending → World → Prop} {L : Nat} : ∀ (Ds : List Nat) (w : World), Ds.Nodup → (∀ D ∈ Ds, L ≤ D ∧ w.heap[D]? = some (.deferred (some []))) →
  (∀ w', Turn L (fun _ => False) w w' → LeavesIn F n Pr fn tmps R [] .returning w') → LeavesInM F n Pr fn tmps R (Ds.map mark) .returning w
 | [], w, _, _, h => h w (Turn.refl _ _ _)
 | D :: Ds, w, hn, hd, h => by
  obtain ⟨hn1, hn2⟩ := List.nodup_cons.1 hn
  obtain ⟨h1, h2⟩ := hd D (by simp)
  refine ⟨by simp, .inl ⟨_, _, rfl, run_takeDeferred h2, ?_⟩⟩
  refine zgc Ds _ hn2 (fun E hE => ?_) (fun w' ht => h w' ((Turn.putObj _ h2 h1 rfl).trans ht))
  obtain ⟨g1, g2⟩ := hd E (by simp [hE])
  exact ⟨g1, (World.putObj_heap_other (fun e => hn1 (by rw [← e]; exact hE))).trans g2⟩
theorem zjh (fc : Nat) (lb : Array Value) (hen : ∀ args w, (callFunc fc args).run Tryz.prog w = .ok (.enter fc args) w) (u w : World) (A0 A1 A2 : Option Addr) (n0 n1 c0 c1 c2 : Nat) (ps : List P)
  (T : Nat → Prop) (hT : ∀ k, T k → u.heap.size ≤ k ∧ k < w.heap.size) (hu : Below u.heap.size u w) (hC : Kd.C kP u A2 ps.length ps)
  (St : σ → World → Prop) (hSt : ∀ s W W', Turn w.heap.size (fun k => w.heap.size ≤ k) W W' → St s W → St s W') (step : σ → P → σ × Bool)
  (hch : ∀ (x : V u ps) s W, w.heap.size ≤ W.heap.size → Below u.heap.size u W → St s W → Calls Tryz.prog fc (encV x ++ lb) W fun e W' => e = .returned (.bool (step s x.p).2) ∧ St (step s x.p).1 W' ∧ Turn W.heap.size T W W')
  (k : Nat) (s0 s1 : σ) (h0 : St s0 w) (h : zb2 step ps k s0 = some s1) :
  Calls Tryz.prog 70 #[.agg #[.slice A0 n0 c0, .slice A1 n1 c1, .slice A2 ps.length c2], .func (.func fc) #[] lb] w fun e W' => e = .returned (.tuple #[]) ∧ St s1 W' ∧ Turn w.heap.size T w W' := by
 refine (callsIn_wide (n := 3)).1 ?_
 refine callsIn_of_wp_marks Tryz.func70 rfl trivial ?_ rfl
 simp only [Tryz.ntmps70, List.size_toArray, List.length_cons, List.length_nil, Nat.reduceAdd, Nat.reduceSub, Array.replicate_succ, Array.replicate_zero, List.push_toArray, List.append_toArray, List.nil_append, List.cons_append]
 gi_wp2
 refine wpIn_wide.2 (wp_scope_straight ((wpIn_wide (n := 3)).1 ?_))
 gi_wp2
 refine wpIn_label ?_
 gi_wp2
 obtain ⟨I, hI⟩ : ∃ I : Nat → Act → World → Prop, I = fun k a W => ∃ (s : σ) (Ds : List Nat) (x4 x5 x6 x7 x8 x9 x10 x11 x12 x13 x14 : Value),
   a = Act.mk #[.agg #[.slice A0 n0 c0, .slice A1 n1 c1, .slice A2 ps.length c2], .func (.func fc) #[] lb, .pointer (some ⟨w.heap.size, 0, none⟩), .pointer (some ⟨w.heap.size + 1, 0, none⟩), x4, x5, x6, x7, x8, x9, x10, x11, x12, x13, x14] (Ds.map mark) ∧
   St s W ∧ zb2 step ps k s = some s1 ∧ W.heap[w.heap.size]? = some (.cells #[.slice A0 n0 c0, .slice A1 n1 c1, .slice A2 ps.length c2] TF (0, 0)) ∧ Boxed W (w.heap.size + 1) 110 (.func (.func fc) #[] lb) ∧
   Turn w.heap.size T w W ∧ Ds.Nodup ∧ (∀ D ∈ Ds, w.heap.size + 2 ≤ D ∧ W.heap[D]? = some (.deferred (some []))) ∧ w.heap.size + 2 ≤ W.heap.size := ⟨_, rfl⟩
 refine loopIn I k ?_ ?_
 ·rw [hI]
  refine ⟨s0, [], _, _, _, _, _, _, _, _, _, _, _, rfl, ?_, h, ?_, ?_, ?_, List.nodup_nil, (fun _ h => nomatch h), ?_⟩
  ·exact hSt _ _ _ ((Turn.alloc _).trans (Turn.alloc _)) h0
  ·have := zaj (za9 w (Obj.cells #[.slice A0 n0 c0, .slice A1 n1 c1, .slice A2 ps.length c2] TF)) (Obj.cells #[.func (.func fc) #[] lb] 110); simpa using this
  ·have := Boxed.new (w.alloc (Obj.cells #[.slice A0 n0 c0, .slice A1 n1 c1, .slice A2 ps.length c2] TF)) 110 (.func (.func fc) #[] lb); simpa using this
  ·exact (Turn.alloc _).trans (Turn.alloc _)
  ·simp
 ·intro k a W hi
  rw [hI] at hi
  obtain ⟨s, Ds, x4, x5, x6, x7, x8, x9, x10, x11, x12, x13, x14, rfl, hS, hg, hB2, hB3, ht, hnd, hDs, hsz⟩ := hi
  have c2' : W.cell? ⟨w.heap.size, 2, none⟩ = some (.slice A2 ps.length c2) := zab hB2 2
  have hv := fun W => values_calls A2 ps.length c2 W
  have hl := zbk hB2
  have h52 : Fence.wide.fn 86 := trivial
  gi_wp2_with (gi_at_call 86; refine (callsIn_wide.2 (hv _)).mono ?_; rintro e w' ⟨rfl, rfl⟩)
  obtain ⟨W0, hW0⟩ : ∃ W0, ((W.alloc (Obj.cells #[Value.bool false] 4)).alloc (Obj.cells #[.slice A2 ps.length c2] 23)) = W0 := ⟨_, rfl⟩
  have tW : ∀ L T', Turn L T' W W0 := fun L T' => by rw [← hW0]; exact (Turn.alloc _).trans (Turn.alloc _)
  have sz0 : W0.heap.size = W.heap.size + 2 := by rw [← hW0]; simp
  have bC : Boxed W0 W.heap.size 4 (.bool false) := by rw [← hW0]; exact (Boxed.new W _ _).alloc _
  have bV : W0.heap[W.heap.size + 1]? = some (.cells #[.slice A2 ps.length c2] 23 (0, 0)) := by
   rw [← hW0]; have := za9 (W.alloc (Obj.cells #[Value.bool false] 4)) (Obj.cells #[.slice A2 ps.length c2] 23); simpa using this
  have gB2 := zc3 hB2 (tW w.heap.size (fun _ => False)) (fun h => h)
  have gB3 := Boxed.turn hB3 (tW w.heap.size (fun _ => False)) (fun h => h)
  have gS := hSt _ _ _ (tW _ _) hS
  have gT : Turn w.heap.size T w W0 := ht.trans (tW _ _)
  have toB : ∀ X, Turn w.heap.size T w X → Below u.heap.size u X := fun X h => zcn hu h (Nat.le_refl _) hu.size (fun k hk => (hT k hk).1)
  have gD : ∀ D ∈ Ds, w.heap.size + 2 ≤ D ∧ D < W0.heap.size ∧ W0.heap[D]? = some (.deferred (some [])) := fun D hD => ⟨(hDs D hD).1, by have := zbk (hDs D hD).2; omega, (tW (D + 1) (fun _ => False)).same D _ (hDs D hD).2 (fun h => h) (.inl (by omega))⟩
  rw [hW0]
  clear hW0 hB2 hB3 hS ht hDs c2' hv hl tW
  have hseq := values_stops 2 (W.heap.size + 1) (by omega) A2 c2 ps u W0 hC (toB _ gT) bV
  refine rangeG (gf := 103) (lb := #[.pointer (some ⟨W.heap.size + 1, 0, none⟩)]) rfl (enters_of Tryz.func103 (by kernel_rfl) rfl)
   hseq (fun k hk => hk.elim) zes (zg5 (toB _ gT).size (fun b hb => nomatch hb)) (Turn.refl _ _ _) (fun _ => rfl)
   (fun pre X => (∃ q : σ × Bool, pre.foldl (fun q x => zce step q x.p) (s, false) = q ∧ St q.1 X ∧ Boxed X W.heap.size 4 (.bool q.2)) ∧ X.heap[w.heap.size]? = some (.cells #[.slice A0 n0 c0, .slice A1 n1 c1, .slice A2 ps.length c2] TF (0, 0)) ∧ Boxed X (w.heap.size + 1) 110 (.func (.func fc) #[] lb) ∧
    Turn w.heap.size T w X ∧ (∀ D ∈ Ds, X.heap[D]? = some (.deferred (some []))) ∧ W0.heap.size ≤ X.heap.size)
   (fun c pre X => False)
   ?hI ?hIx ?h0
   (fun x a' X => ∃ Bx, W0.heap.size ≤ Bx ∧ X.heap[Bx]? = some (.cells #[.int .i64 x.1.1.1, .slice x.1.2.1 x.1.1.2.1.length x.1.2.2, .int .i64 x.1.1.2.2] TP (0, 0)) ∧ a' = Act.mk #[.agg #[.slice A0 n0 c0, .slice A1 n1 c1, .slice A2 ps.length c2], .func (.func fc) #[] lb, .pointer (some ⟨w.heap.size, 0, none⟩), .pointer (some ⟨w.heap.size + 1, 0, none⟩), .pointer (some ⟨W.heap.size, 0, none⟩), .pointer (some ⟨Bx, 0, none⟩), .pointer (some ⟨w.heap.size, 2, none⟩), .slice A2 ps.length c2, .func (.func 103) #[] #[.pointer (some ⟨W.heap.size + 1, 0, none⟩)],
    .agg #[.int .i64 x.1.1.1, .slice x.1.2.1 x.1.1.2.1.length x.1.2.2, .int .i64 x.1.1.2.2], x10, x11, x12, x13, x14] []) ?hAx ?assign ?body ?done ?stop
  case hI =>
   rintro pre X X' ⟨⟨q, g1, g2, g3⟩, g4, g5, g6, g7, g8⟩ h2
   exact ⟨⟨q, g1, hSt _ _ _ (h2.mono (by omega) (fun _ h => h.elim)) g2, Boxed.turn g3 h2 (fun h => h)⟩, zc3 g4 h2 (fun h => h), Boxed.turn g5 h2 (fun h => h), g6.trans (h2.mono (by omega) (fun _ h => h.elim)), fun D hD => h2.same D _ (g7 D hD) (fun h => h) (.inl (gD D hD).2.1), Nat.le_trans g8 h2.size⟩
  case hIx => exact fun c s X X' h _ => h
  case h0 => exact ⟨⟨_, rfl, gS, bC⟩, gB2, gB3, gT, fun D hD => (gD D hD).2.2, Nat.le_refl _⟩
  case hAx =>
   rintro x a' s' X Y ⟨Bx, h1, h2, h3⟩ h4
   exact ⟨Bx, h1, zc3 h2 h4 (fun h => h), h3⟩
  case assign =>
   rintro l pre x X K ⟨⟨q, g1, g2, g3⟩, g4, g5, g6, g7, g8⟩ hK2
   simp only [encV]
   gi_wp2
   refine hK2 _ _ ((KeepsOthers.alloc _ _).from _) (zgu (zd3 _ _ _) (by have := (toB _ g6).size; omega) _) ⟨⟨q, g1, hSt _ _ _ (Turn.alloc _) g2, g3.alloc _⟩, zc3 g4 (Turn.alloc (L := 0) (T := fun _ => False) _) (fun h => h), g5.alloc _, g6.trans (Turn.alloc _), fun D hD => zaj (g7 D hD) _, by simp; omega⟩ ⟨X.heap.size, g8, za9 _ _, rfl⟩
  case body =>
   rintro l pre x a' X hl hr ⟨⟨q, g1, g2, g3⟩, g4, g5, g6, g7, g8⟩ ⟨Bx, hBx, hX, rfl⟩ hpre
   have hcall := hch x q.1 X (by omega) (toB _ g6) g2
   simp only [encV] at hcall
   have f3 := g5.cell
   have b0 : X.cell? ⟨Bx, 0, none⟩ = some (.int .i64 x.1.1.1) := zab hX 0
   have b1 : X.cell? ⟨Bx, 1, none⟩ = some (.slice x.1.2.1 x.1.1.2.1.length x.1.2.2) := zab hX 1
   have b2 : X.cell? ⟨Bx, 2, none⟩ = some (.int .i64 x.1.1.2.2) := zab hX 2
   have hN : Fence.wide.fn fc := trivial
   have h1n : 1 ≤ 3 - 1 - 1 := by omega
   have e1 : (pre ++ [x]).foldl (fun q x => zce step q x.p) (s, false) = ((step q.1 x.p).1, q.2 || (step q.1 x.p).2) := by rw [List.foldl_append, g1]; rfl
   have HE := Lib.hid e1
   have HG := Lib.hid g1
   clear e1 g1
   obtain ⟨bv, hbv⟩ : ∃ bv, (step q.1 x.p).2 = bv := ⟨_, rfl⟩
   rw [hbv] at hcall
   have HB := Lib.hid hbv
   clear hbv
   have fin : ∀ X' : World, Turn X.heap.size T X X' → KeepsFrom W0.heap.size X X' ∧ zc7 u.heap.size [] X X' ∧ X'.heap[w.heap.size]? = some (.cells #[.slice A0 n0 c0, .slice A1 n1 c1, .slice A2 ps.length c2] TF (0, 0)) ∧ Boxed X' (w.heap.size + 1) 110 (.func (.func fc) #[] lb) ∧ Turn w.heap.size T w X' ∧ (∀ D ∈ Ds, X'.heap[D]? = some (.deferred (some []))) ∧ W0.heap.size ≤ X'.heap.size ∧ Boxed X' W.heap.size 4 (.bool q.2) := by
    intro X' h2
    refine ⟨⟨h2.size, fun j o hj ho _ => h2.same j o ho (fun e => by have := (hT j e).2; omega) (.inl (zbk ho))⟩, ⟨zcn (Below.refl _ X) h2 (by have := (toB _ g6).size; omega) (by have := (toB _ g6).size; omega) (fun j hj => (hT j hj).1), fun b hb => nomatch hb⟩, zc3 g4 h2 (fun e => by have := (hT _ e).2; omega), Boxed.turn g5 h2 (fun e => by have := (hT _ e).2; omega), g6.trans (h2.mono (by omega) (fun _ h => h)),
     fun D hD => h2.same D _ (g7 D hD) (fun e => by have := (hT D e).2; have := (gD D hD).1; omega) (.inl (zbk (g7 D hD))), Nat.le_trans g8 h2.size, Boxed.turn g3 h2 (fun e => by have := (hT _ e).2; omega)⟩
   have FN := Lib.hid fin
   clear fin
   cases bv with
   | false =>
    gi_wp2
    refine (CallsIn.inRound l (callsIn_wide.2 hcall)).mono ?_
    rintro e X' ⟨rfl, hS', ht'⟩
    gi_wp2
    obtain ⟨k1, k2, k3, k4, k5, k6, k7, k8⟩ := FN.out _ ht'
    refine ⟨k1, k2, ⟨_, HE.out, hS', ?_⟩, k3, k4, k5, k6, k7⟩
    rw [HB.out, Bool.or_false]
    exact k8
   | true =>
    gi_wp2
    refine (CallsIn.inRound l (callsIn_wide.2 hcall)).mono ?_
    rintro e X' ⟨rfl, hS', ht'⟩
    obtain ⟨k1, k2, k3, k4, k5, k6, k7, k8⟩ := FN.out _ ht'
    have cC := k8.cell
    have fC := k8.frozen
    gi_wp2
    have st1 : Turn w.heap.size (fun k => w.heap.size ≤ k) X' (X'.setCell ⟨W.heap.size, 0, none⟩ (.bool true)) := Turn.setCell _ _ (by show _ ≤ W.heap.size; omega)
    have st2 : Turn w.heap.size (fun k => k = W.heap.size) X' (X'.setCell ⟨W.heap.size, 0, none⟩ (.bool true)) := Turn.setCell _ _ rfl
    refine ⟨k1.trans ((KeepsOthers.setCell _ _ _).from _), keepL_set k2 (a := ⟨W.heap.size, 0, none⟩) (by have := hu.size; show _ ≤ W.heap.size; omega) (fun h => nomatch h) _, ⟨_, HE.out, hSt _ _ _ st1 hS', ?_⟩, zc3 k3 st2 (by omega), Boxed.turn k4 st2 (by omega), ?_, fun D hD => ?_, by have := st2.size; omega⟩
    ·rw [HB.out, Bool.or_true]
     exact k8.set _
    ·refine ⟨k5.os, k5.tape, k5.output, Nat.le_trans k5.size st2.size, fun j o hj hT' hc => ?_⟩
     exact (Below.heap_setCell X' ⟨W.heap.size, 0, none⟩ _ j (by have := zbk hj; show j ≠ W.heap.size; omega)).trans (k5.same j o hj hT' hc)
    ·refine (Below.heap_setCell X' ⟨W.heap.size, 0, none⟩ _ D ?_).trans (k6 D hD)
     intro e
     have e' : D = W.heap.size := e
     have := k6 D hD
     rw [e', k8] at this
     cases this
  case done =>
   rintro D ys X hD hS ⟨⟨q, g1, g2, g3⟩, g4, g5, g6, g7, g8⟩ hK'
   have fm : ∀ (l : List (V u ps)) z, l.foldl (fun q x => zce step q x.p) z = (l.map V.p).foldl (zce step) z := fun l z => List.foldl_map.symm
   have e : q = zc5 step ps s := by rw [← g1, fm, hS]; rfl
   clear g1 hS
   obtain ⟨m, rfl⟩ : ∃ m, k = m + 1 := by
    cases k with
    | zero => cases hg
    | succ m => exact ⟨m, rfl⟩
   rw [zb2] at hg
   rw [← e] at hg
   have cC := g3.cell
   have HI := Lib.hid hI
   have hDn : D ∉ Ds := fun h => by have := (gD D h).2.1; omega
   clear hI e
   obtain ⟨q1, qb⟩ := q
   cases qb with
   | false =>
    simp only [Bool.false_eq_true, if_false] at hg
    obtain rfl := Option.some.inj hg
    gi_wp2
    refine zgc (L := w.heap.size + 2) (D :: Ds) X (List.nodup_cons.2 ⟨hDn, hnd⟩) (fun E hE => ?_) (fun w' ht' => ⟨_, results_none rfl _ _ _, rfl, hSt _ _ _ (ht'.mono (by omega) (fun _ h => h.elim)) g2, g6.trans (ht'.mono (by omega) (fun _ h => h.elim))⟩)
    rcases List.mem_cons.1 hE with rfl | hE
    ·exact ⟨by omega, hK'⟩
    ·exact ⟨(gD E hE).1, g7 E hE⟩
   | true =>
    simp only [if_true] at hg
    gi_wp2
    refine ⟨m, by omega, ?_⟩
    rw [HI.out]
    refine ⟨q1, D :: Ds, _, _, _, _, _, _, _, _, _, _, _, rfl, g2, hg, g4, g5, g6, List.nodup_cons.2 ⟨hDn, hnd⟩, fun E hE => ?_, by omega⟩
    rcases List.mem_cons.1 hE with rfl | hE
    ·exact ⟨by omega, hK'⟩
    ·exact ⟨(gD E hE).1, g7 E hE⟩
  case stop => exact fun D c pre X hD hp h => h.elim
end
end Go.Proofs.ZZ.Grow
end
section
namespace Go.Proofs.ZZ.Deri
open Go Go.RowKit Go.Shelf Go.Proofs.ZW.PrintWords Go.Proofs.ZZ.Round Go.Proofs.ZZ.RangeG Go.Proofs.ZZ.Fl Go.Proofs.ZZ.Grow
attribute [local go_sem] Oper.semAt_some
def ItOk (N : Nat) (l : List I) : Prop := ∀ i ∈ l, 0 ≤ i.1 ∧ i.1 < N
def PrOk (N : Nat) (p : P) : Prop := 0 ≤ p.1 ∧ p.1 < N ∧ ItOk N p.2.1
def at_ (bs : List Bool) (i : Int) : Bool := bs.getD i.toNat false
def Row (g B N : Nat) (bs : List Bool) (W : World) : Prop := bs.length = N ∧ W.heap[g]? = some (.cells (bs.map Value.bool).toArray 4 (0, 0)) ∧ Boxed W B 36 (.slice (some ⟨g, 0, none⟩) N N)
theorem Row.cell {g B N : Nat} {bs : List Bool} {W : World} (h : Row g B N bs W) (i : Int) (h0 : 0 ≤ i) (h1 : i < N) : W.cell? ⟨g, i.toNat, none⟩ = some (.bool (at_ bs i)) := by
  have := zab h.2.1 i.toNat
  rw [this]
  have hl : i.toNat < bs.length := by have := h.1; omega
  unfold at_
  rw [List.getD_eq_getElem?_getD, List.getElem?_eq_getElem hl]
  simp [hl]
theorem Row.frozen {g B N : Nat} {bs : List Bool} {W : World} (h : Row g B N bs W) (i : Nat) : W.frozen? ⟨g, i, none⟩ = false := zdi h.2.1 i
theorem Row.below {g B N : Nat} {bs : List Bool} {W W' : World} (h : Row g B N bs W) (hb : Below W.heap.size W W') : Row g B N bs W' := ⟨h.1, (hb.block g (zbk h.2.1)).trans h.2.1, (hb.block B h.2.2.lt).trans h.2.2⟩
theorem Row.ne {g B N : Nat} {bs : List Bool} {W : World} (h : Row g B N bs W) : B ≠ g := fun e => by
  have h1 := h.2.2
  unfold Boxed at h1
  rw [e, h.2.1] at h1
  simp at h1
theorem Row.set {g B N : Nat} {bs : List Bool} {W : World} (h : Row g B N bs W) (i : Nat) (hi : i < N) (v : Bool) : Row g B N (bs.set i v) (W.setCell ⟨g, i, none⟩ (.bool v)) := by
  refine ⟨by simpa using h.1, ?_, (Below.heap_setCell W ⟨g, i, none⟩ _ B h.ne).trans h.2.2⟩
  rw [zg0 h.2.1 i _]
  simp [List.map_set]
theorem not_calls (g B N : Nat) (bs : List Bool) (x : I) (W : World) (h : Row g B N bs W) (h0 : 0 ≤ x.1) (h1 : x.1 < N) :
    Calls Tryz.prog 79 #[.agg #[.int .i64 x.1, .string x.2.1, .string x.2.2], .pointer (some ⟨B, 0, none⟩)] W fun e W' => e = .returned (.bool (!at_ bs x.1)) ∧ Below W.heap.size W W' := by
  have cB := h.2.2.cell
  have cg := h.cell x.1 h0 h1
  have lB := h.2.2.lt
  have lg := zbk h.2.1
  go_enter Tryz.func79, Tryz.ntmps79
  go_wp2;go_ret
  exact ⟨rfl, (Below.refl _ _).alloc (Nat.le_refl _) _⟩
def idxV (q : I → Bool) (l : List I) : Int := match l.findIdx? q with
  | none => -1
  | some i => (i : Int)
theorem zgb {α : Type} {l : List α} {p : α → Bool} (h : ∀ (j : Nat) x, l[j]? = some x → p x = false) : l.findIdx? p = none := by
  rw [List.findIdx?_eq_none_iff]
  intro x hx
  obtain ⟨j, hj, rfl⟩ := List.mem_iff_getElem.1 hx
  exact h j _ (List.getElem?_eq_getElem hj)
theorem findIdx_at {α : Type} {l : List α} {p : α → Bool} {k : Nat} {x : α} (hk : l[k]? = some x) (hp : p x = true) (h : ∀ (j : Nat) y, j < k → l[j]? = some y → p y = false) : l.findIdx? p = some k := by
  obtain ⟨hlt, rfl⟩ := List.getElem?_eq_some_iff.1 hk
  rw [List.findIdx?_eq_some_iff_getElem]
  exact ⟨hlt, hp, fun j hj => by rw [h j _ hj (List.getElem?_eq_getElem (by omega))]; simp⟩
theorem index_calls (A : Option Addr) (cap : Nat) (l : List I) (g B N : Nat) (bs : List Bool) (w : World) (hC : Kd.C kI w A l.length l) (hR : Row g B N bs w) (hok : ItOk N l) :
    Calls Tryz.prog 91 #[.slice A l.length cap, .func (.func 79) #[] #[.pointer (some ⟨B, 0, none⟩)]] w fun e w' => e = .returned (.int .i64 (idxV (fun x => !at_ bs x.1) l)) ∧ Below w.heap.size w w' := by
  have hlen : l.length ≤ 9223372036854775807 := hC.2.1
  have e36 : ∀ args w, (callFunc 79 args).run Tryz.prog w = .ok (.enter 79 args) w := enters_of Tryz.func79 (by kernel_rfl) rfl
  go_enter Tryz.func91, Tryz.ntmps91
  go_wp2
  go_loopw [8] (fun i wr => ∃ k : Nat, i = .int .i64 k ∧ k ≤ l.length ∧ (Hid (∀ (j : Nat) y, j < k → l[j]? = some y → (!at_ bs y.1) = false)) ∧ Below w.heap.size w wr) (fun i _ => l.length - (Go.RowKit.intOf i).toNat)
  case atStart => exact ⟨0, rfl, Nat.zero_le _, Lib.hid (fun j y hj => absurd hj (Nat.not_lt_zero _)), Below.refl _ _⟩
  case round =>
    obtain ⟨k, rfl, hk, hno, hB⟩ := hrel
    by_cases hlt : k < l.length
    · obtain ⟨ad, x, rfl, hx, c0, c1, c2⟩ := atI (Kd.zak hC hB) k hlt
      have hm := hok x (List.mem_of_getElem? hx)
      have hcall := not_calls g B N bs x wr (hR.below hB) hm.1 hm.2
      have HX := Lib.hid hx
      clear hx
      cases hv : (!at_ bs x.1) with
      | true =>
        rw [hv] at hcall
        have HV := Lib.hid hv
        clear hv
        go_wp2_with (go_at_call 79; refine hcall.mono ?_; rintro e w' ⟨rfl, hb2⟩)
        go_ret
        have : idxV (fun x => !at_ bs x.1) l = k := by unfold idxV; rw [findIdx_at HX.out HV.out hno.out]
        rw [this]
        exact ⟨rfl, hB.trans (hb2.mono hB.size)⟩
      | false =>
        rw [hv] at hcall
        have HV := Lib.hid hv
        clear hv
        go_wp2_with (go_at_call 79; refine hcall.mono ?_; rintro e w' ⟨rfl, hb2⟩)
        go_roundw
        case rel =>
          refine ⟨k + 1, by go_num, by omega, Lib.hid (fun j y hj hy => ?_), hB.trans (hb2.mono hB.size)⟩
          by_cases ej : j = k
          · subst ej
            rw [HX.out] at hy
            cases hy
            exact HV.out
          · exact hno.out j y (by omega) hy
        case measure => simp [Go.RowKit.intOf]; omega
    · obtain rfl : k = l.length := by omega
      go_wp2;go_ret
      have : idxV (fun x => !at_ bs x.1) l = -1 := by
        unfold idxV
        rw [zgb (fun j y hy => hno.out j y (List.getElem?_eq_some_iff.1 hy).1 hy)]
      rw [this]
      exact ⟨rfl, hB⟩
theorem idx_any (q : I → Bool) (l : List I) : decide (idxV q l ≥ 0) = l.any q := by
  unfold idxV
  rw [Bool.eq_iff_iff, decide_eq_true_eq, List.any_eq_true]
  cases h : l.findIdx? q with
  | none =>
    rw [List.findIdx?_eq_none_iff] at h
    constructor
    · intro h'; exact absurd h' (by decide)
    · rintro ⟨x, hx, hq⟩; rw [h x hx] at hq; cases hq
  | some i =>
    rw [List.findIdx?_eq_some_iff_getElem] at h
    obtain ⟨hi, hq, _⟩ := h
    exact ⟨fun _ => ⟨_, List.getElem_mem hi, hq⟩, fun _ => Int.natCast_nonneg i⟩
theorem zjv (A : Option Addr) (cap : Nat) (l : List I) (g B N : Nat) (bs : List Bool) (w : World) (hC : Kd.C kI w A l.length l) (hR : Row g B N bs w) (hok : ItOk N l) :
    Calls Tryz.prog 78 #[.slice A l.length cap, .func (.func 79) #[] #[.pointer (some ⟨B, 0, none⟩)]] w fun e w' => e = .returned (.bool (l.any fun x => !at_ bs x.1)) ∧ Below w.heap.size w w' := by
  have hc := index_calls A cap l g B N bs w hC hR hok
  rw [← idx_any]
  go_enter Tryz.func78, Tryz.ntmps78
  go_wp2_with (go_at_call 91; refine hc.mono ?_; rintro e w' ⟨rfl, hb⟩)
  go_ret
  exact ⟨rfl, hb⟩
def zb7 (bs : List Bool) (p : P) : List Bool × Bool := if at_ bs p.1 || p.2.1.any (fun x => !at_ bs x.1) then (bs, false) else (bs.set p.1.toNat true, true)
theorem zga (g B N : Nat) (bs : List Bool) (p : P) (A : Option Addr) (c : Nat) (W : World) (hR : Row g B N bs W) (hok : PrOk N p) (hc : p.2.1.length ≤ c) (hC : Kd.C kI W A p.2.1.length p.2.1) :
    Calls Tryz.prog 77 #[.agg #[.int .i64 p.1, .slice A p.2.1.length c, .int .i64 p.2.2], .pointer (some ⟨B, 0, none⟩)] W fun e W' => e = .returned (.bool (zb7 bs p).2) ∧ Row g B N (zb7 bs p).1 W' ∧ Turn W.heap.size (fun k => k = g) W W' := by
  obtain ⟨W0, hW0⟩ : ∃ W0, W.alloc (.cells #[.int .i64 p.1, .slice A p.2.1.length c, .int .i64 p.2.2] TP) = W0 := ⟨_, rfl⟩
  have hB0 : Below W.heap.size W W0 := by rw [← hW0]; exact (Below.refl _ _).alloc (Nat.le_refl _) _
  have sz0 : W0.heap.size = W.heap.size + 1 := by rw [← hW0]; simp
  have hR0 := hR.below hB0
  have cB := hR0.2.2.cell
  have cg := hR0.cell p.1 hok.1 hok.2.1
  have hb : W0.heap[W.heap.size]? = some (.cells #[.int .i64 p.1, .slice A p.2.1.length c, .int .i64 p.2.2] TP (0, 0)) := by rw [← hW0]; exact za9 W _
  have p0 : W0.cell? ⟨W.heap.size, 0, none⟩ = some (.int .i64 p.1) := zab hb 0
  have p1 : W0.cell? ⟨W.heap.size, 1, none⟩ = some (.slice A p.2.1.length c) := zab hb 1
  have hcall := zjv A c p.2.1 g B N bs W0 (Kd.zak hC hB0) hR0 hok.2.2
  have t1 : p.2.1.length ≤ 9223372036854775807 := hC.2.1
  have q0 := hok.1
  have q1 := hok.2.1
  have HBK := Lib.hid hb
  clear hb
  unfold zb7
  cases h1 : at_ bs p.1 with
  | true =>
    rw [h1] at cg
    simp only [Bool.true_or, if_true]
    go_enter Tryz.func77, Tryz.ntmps77
    go_wp2;go_ret
    exact ⟨rfl, hR0, Turn.below hB0⟩
  | false =>
    rw [h1] at cg
    cases h2 : p.2.1.any (fun x => !at_ bs x.1) with
    | true =>
      rw [h2] at hcall
      simp only [Bool.false_or, if_true]
      go_enter Tryz.func77, Tryz.ntmps77
      go_wp2_with (go_at_call 78; refine hcall.mono ?_; rintro e w' ⟨rfl, hb⟩)
      go_ret
      have hb' := hB0.trans (hb.mono hB0.size)
      exact ⟨rfl, hR.below hb', Turn.below hb'⟩
    | false =>
      rw [h2] at hcall
      simp only [Bool.or_self, Bool.false_eq_true, if_false]
      go_enter Tryz.func77, Tryz.ntmps77
      go_wp2_with (go_at_call 78; refine hcall.mono ?_; rintro e w' ⟨rfl, hb⟩; have hb' := hB0.trans (hb.mono hB0.size); have hR' := hR.below hb'; have cB' := hR'.2.2.cell; have fg := hR'.frozen p.1.toNat; have cg' := hR'.cell p.1 hok.1 hok.2.1; have cp : w'.cell? ⟨W.heap.size, 0, none⟩ = some (.int .i64 p.1) := (hb.cell (p := ⟨W.heap.size, 0, none⟩) (by show W.heap.size < _; omega)).trans p0)
      go_ret
      exact ⟨rfl, hR'.set p.1.toNat (by omega) true, (Turn.below hb').trans (Turn.setCell _ _ rfl)⟩
theorem derive_calls (u w : World) (A0 A1 A2 : Option Addr) (n0 n1 c0 c1 c2 : Nat) (ps : List P) (hC : Kd.C kP u A2 ps.length ps) (hu : Below u.heap.size u w) (g N : Nat) (bs0 bs1 : List Bool) (hl : bs0.length = N) (hg : u.heap.size ≤ g)
    (hh : w.heap[g]? = some (.cells (bs0.map Value.bool).toArray 4 (0, 0))) (hps : ∀ p ∈ ps, PrOk N p) (k : Nat) (h : zb2 zb7 ps k bs0 = some bs1) :
    Calls Tryz.prog 58 #[.agg #[.slice A0 n0 c0, .slice A1 n1 c1, .slice A2 ps.length c2], .slice (some ⟨g, 0, none⟩) N N] w fun e w' => e = .returned (.slice (some ⟨g, 0, none⟩) N N) ∧ bs1.length = N ∧ w'.heap[g]? = some (.cells (bs1.map Value.bool).toArray 4 (0, 0)) ∧ Turn w.heap.size (fun k => k = g) w w' := by
  have hlt := zbk hh
  obtain ⟨W1, hW1⟩ : ∃ W1, (w.alloc (.cells #[.slice A0 n0 c0, .slice A1 n1 c1, .slice A2 ps.length c2] TF)).alloc (.cells #[.slice (some ⟨g, 0, none⟩) N N] 36) = W1 := ⟨_, rfl⟩
  have sz1 : W1.heap.size = w.heap.size + 2 := by rw [← hW1]; simp
  have tW : Turn w.heap.size (fun k => k = g) w W1 := by rw [← hW1]; exact (Turn.alloc _).trans (Turn.alloc _)
  have bB : Boxed W1 (w.heap.size + 1) 36 (.slice (some ⟨g, 0, none⟩) N N) := by rw [← hW1]; have := Boxed.new (w.alloc (.cells #[.slice A0 n0 c0, .slice A1 n1 c1, .slice A2 ps.length c2] TF)) 36 (.slice (some ⟨g, 0, none⟩) N N); simpa using this
  have hg1 : W1.heap[g]? = some (.cells (bs0.map Value.bool).toArray 4 (0, 0)) := by rw [← hW1]; exact zaj (zaj hh _) _
  have hu1 : Below u.heap.size u W1 := by rw [← hW1]; exact (hu.alloc hu.size _).alloc (by have := hu.size; simp; omega) _
  have f0 : W1.heap[w.heap.size]? = some (.cells #[.slice A0 n0 c0, .slice A1 n1 c1, .slice A2 ps.length c2] TF (0, 0)) := by rw [← hW1]; exact zaj (za9 w _) _
  have hen : ∀ args w, (callFunc 77 args).run Tryz.prog w = .ok (.enter 77 args) w := enters_of Tryz.func77 (by kernel_rfl) rfl
  have hgr := zjh 77 #[.pointer (some ⟨w.heap.size + 1, 0, none⟩)] hen u W1 A0 A1 A2 n0 n1 c0 c1 c2 ps (fun k => k = g) (fun k hk => by omega) hu1 hC (fun bs W => Row g (w.heap.size + 1) N bs W)
    (fun s W W' ht hR => ⟨hR.1, ht.same g _ hR.2.1 (by omega) (.inr rfl), ht.same _ _ hR.2.2 (by omega) (.inr rfl)⟩) zb7
    (fun x s W hsz hb hR => zga g (w.heap.size + 1) N s x.p x.1.2.1 x.1.2.2 W hR (hps _ x.2.2.2) x.2.1 (Kd.zak x.2.2.1 hb)) k bs0 bs1 ⟨hl, hg1, bB⟩ h
  have c0' : W1.cell? ⟨w.heap.size, 0, none⟩ = some (.slice A0 n0 c0) := zab f0 0
  have c1' : W1.cell? ⟨w.heap.size, 1, none⟩ = some (.slice A1 n1 c1) := zab f0 1
  have c2' : W1.cell? ⟨w.heap.size, 2, none⟩ = some (.slice A2 ps.length c2) := zab f0 2
  have HH := Lib.hid h
  clear f0 hg1 h hh bB
  go_enter Tryz.func58, Tryz.ntmps58
  go_wp2_with (go_at_call 70; refine hgr.mono ?_; rintro e w' ⟨rfl, hR', ht'⟩; have cB' := hR'.2.2.cell)
  go_ret
  exact ⟨rfl, hR'.1, hR'.2.1, tW.trans (ht'.mono (by omega) (fun _ h => h))⟩
theorem zhn (A0 A1 A2 : Option Addr) (n0 n1 n2 c0 c1 c2 : Nat) (w : World) (h : n0 + n1 ≤ 1000000) : Calls Tryz.prog 59 #[.agg #[.slice A0 n0 c0, .slice A1 n1 c1, .slice A2 n2 c2]] w fun e w' => e = .returned (.int .i64 ((n0 + n1 : Nat) : Int)) ∧ Below w.heap.size w w' := by
  go_enter Tryz.func59, Tryz.ntmps59
  go_wp2;go_ret
  exact ⟨by go_num, (Below.refl _ _).alloc (Nat.le_refl _) _⟩
theorem infoB : (Tryz.prog.info? 4).map (fun i => (i.zero, i.size, i.bytes)) = some (some (.bool false), 1, 1) := by kernel_rfl
theorem make_bools (N : Nat) (hN : N ≤ 1000000) (w : World) : (Instr.makeSlice 36 (.int .i64 (N : Int)) (.int .i64 (N : Int))).run Tryz.prog w = .ok (.slice (some ⟨w.heap.size, 0, none⟩) N N) (w.alloc (.cells (Array.replicate N (Value.bool false)) 4)) := by
  obtain ⟨i0, hi, hz0, hz1, hz2⟩ := info_parts infoB
  have h := run_makeSlice w 36 4 i0 (.bool false) Tryz.underlying36 hi hz0 .i64 .i64 (N : Int) (N : Int) (by omega) (by omega) (by rw [hz1]; simp; omega) (by rw [hz2]; omega) (by omega)
  rw [h, hz1]
  simp only [Int.toNat_natCast, Nat.mul_one]
  have e : madeCells (Value.bool false).cells N = Array.replicate N (Value.bool false) := by
    apply Array.toList_inj.1
    rw [show (Value.bool false).cells = #[.bool false] from rfl, toList_madeCells_one]
    simp
  rw [e]
theorem zii (w : World) (A0 A1 A2 : Option Addr) (n0 n1 c0 c1 c2 N : Nat) (hNe : n0 + n1 = N) (ps : List P) (hC : Kd.C kP w A2 ps.length ps) (hN : N ≤ 1000000) (hps : ∀ p ∈ ps, PrOk N p) (k : Nat) (bs1 : List Bool) (h : zb2 zb7 ps k (List.replicate N false) = some bs1) :
    Calls Tryz.prog 45 #[.agg #[.slice A0 n0 c0, .slice A1 n1 c1, .slice A2 ps.length c2]] w fun e w' => ∃ g, e = .returned (.slice (some ⟨g, 0, none⟩) N N) ∧ bs1.length = N ∧ w.heap.size ≤ g ∧ w'.heap[g]? = some (.cells (bs1.map Value.bool).toArray 4 (0, 0)) ∧ Below w.heap.size w w' := by
  refine (callsIn_wide (n := 3)).1 ?_
  refine callsIn_of_wp Tryz.func45 rfl trivial ?_ rfl
  simp only [Tryz.ntmps45, List.size_toArray, List.length_cons, List.length_nil, Nat.reduceAdd, Nat.reduceSub, Array.replicate_succ, Array.replicate_zero, List.push_toArray, List.append_toArray, List.nil_append, List.cons_append]
  gi_wp2
  rename_i hK2
  obtain ⟨W0, hW0⟩ : ∃ W0, w.alloc (.cells #[.slice A0 n0 c0, .slice A1 n1 c1, .slice A2 ps.length c2] TF) = W0 := ⟨_, rfl⟩
  have f0 : W0.heap[w.heap.size]? = some (.cells #[.slice A0 n0 c0, .slice A1 n1 c1, .slice A2 ps.length c2] TF (0, 0)) := by rw [← hW0]; exact za9 w _
  have hB0 : Below w.heap.size w W0.drew := by rw [← hW0]; exact za4 ((Below.refl _ _).alloc (Nat.le_refl _) _)
  have sz0 : W0.drew.heap.size = w.heap.size + 1 := by rw [← hW0]; simp [World.drew]
  rw [hW0]
  clear hW0
  have c0' : W0.drew.cell? ⟨w.heap.size, 0, none⟩ = some (.slice A0 n0 c0) := zab f0 0
  have c1' : W0.drew.cell? ⟨w.heap.size, 1, none⟩ = some (.slice A1 n1 c1) := zab f0 1
  have c2' : W0.drew.cell? ⟨w.heap.size, 2, none⟩ = some (.slice A2 ps.length c2) := zab f0 2
  have hs := fun W => zhn A0 A1 A2 n0 n1 ps.length c0 c1 c2 W (by rw [hNe]; exact hN)
  rw [hNe] at hs
  have hmk := make_bools N hN
  have h27 : Fence.wide.fn 59 := trivial
  have h28 : Fence.wide.fn 58 := trivial
  have HH := Lib.hid h
  clear h f0
  gi_region_with (first
    | (gi_at_call 59
       refine (callsIn_wide.2 (hs _)).mono ?_
       rintro e w1 ⟨rfl, hB1⟩
       have d0 := zad hB1 c0'
       have d1 := zad hB1 c1'
       have d2 := zad hB1 c2'
       have hl1 : w.heap.size < w1.heap.size := by have := hB1.size; omega
       have hB01 := hB0.trans (hB1.mono hB0.size)
       have hd := derive_calls w (w1.alloc (.cells (Array.replicate N (Value.bool false)) 4)) A0 A1 A2 n0 n1 c0 c1 c2 ps hC (hB01.alloc hB01.size _) w1.heap.size N (List.replicate N false) bs1 (by simp) hB01.size (by have := za9 w1 (.cells (Array.replicate N (Value.bool false)) 4); simpa using this) hps k HH.out)
    | (gi_at_call 58
       refine (callsIn_wide.2 hd).mono ?_
       clear hd
       rintro e w2 ⟨rfl, hl2, hh2, ht2⟩))
  all_goals
    refine hK2 _ _ ?_
    gi_wp2
    refine bodyPost_ret (results_tmp rfl _ _ _) rfl ?_
    have hB2 : Below w.heap.size w w2 := zcn (hB01.alloc hB01.size _) ht2 (Nat.le_refl _) (by have := hB01.size; simp; omega) (fun k hk => by have := hB01.size; omega)
    exact ⟨_, rfl, hl2, hB01.size, hh2, hB2⟩
end Go.Proofs.ZZ.Deri
end
