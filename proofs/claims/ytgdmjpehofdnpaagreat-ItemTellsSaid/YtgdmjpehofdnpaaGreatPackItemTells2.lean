import Derived.Shelf.SlGeneric
import Derived.Shelf.Sort.Plain
import Derived.Shelf.Slices.In.SortNone
import Derived.Shelf.Slices.CompactI
import Derived.Test.YtgdmjpehofdnpaaGreatProg
import Derived.Sort.OwnSortedInts
import Derived.Laws.AppendOwnNone
import Derived.Below
import Derived.Deep.Draws
import Derived.Deep.AppendLies
import Derived.Maps.AppendAt
import Derived.OwnWalk
import Derived.Laws.BytesArg
import Derived.Laws.MakeOwn
import Derived.Laws.OwnMore
import Derived.Deep.OwnRows
import Derived.Tactics
import Derived.Lib.ConvBytes
import Derived.Laws.Slices
import Derived.WalkKit
import Derived.KernelRfl
import Derived.RowKit3
import Derived.Deep.LoopGhost
import Derived.Deep.QuietTactic
import Derived.BigQuiet
import Derived.WideLaws
import Derived.Deep.DeepCutAuto
import Derived.Deep.CutBlock
import Derived.Deep.RegionHeld3
import Derived.Laws.Rows
import Derived.Lib.AppendStr
import Derived.ArgAppend
import Derived.Laws.IdiomCopy
import Derived.OrdersHeld
import Derived.Laws.BitsLemmas
import Derived.RowKit
import Derived.Lib.Strings
import Derived.Lib.Bytealg
import Derived.Lib.Slices
import Derived.Lib.Walk
import Derived.Maps.Keyed
import Derived.DeepKeys4
import Derived.Maps.OwnIn
import Derived.Maps.OwnSet
import Derived.Maps.Ext
import Derived.Test.YtgdmjpehofdnpaaGreatPackItemTells1
set_option linter.unusedVariables false
set_option linter.unusedSimpArgs false
set_option maxRecDepth 100000
set_option maxHeartbeats 8000000
section
namespace Go.Proofs.ZZ.Ahd
open Go Go.RowKit Go.Shelf Go.Maps Go.Proofs.ZW.PrintWords Go.Proofs.ZZ.Round Go.Proofs.ZZ.RangeG Go.Proofs.ZZ.Fl Go.Proofs.ZZ.Seqs Go.Proofs.ZZ.MSet Go.Proofs.ZZ.Add Go.Proofs.ZZ.Deri Go.Proofs.ZW.PrintLast Go.Proofs.ZZ.RangeH
attribute [local go_sem] Oper.semAt_some
structure Geo where
 X : Nat
 ge : Nat
 gr : Nat
 N : Nat
 n0 : Nat
 n1 : Nat
 n2 : Nat
 c0 : Nat
 c1 : Nat
 c2 : Nat
 cr : Nat
 A0 : Option Addr
 A1 : Option Addr
 A2 : Option Addr
 bs : List Nat
structure Fs (G : Geo) (em : List Bool) (Ss : List (List Int)) (W : World) : Prop where
 blk : W.heap[G.X]? = some (.cells #[.slice G.A0 G.n0 G.c0, .slice G.A1 G.n1 G.c1, .slice G.A2 G.n2 G.c2, .slice (some ⟨G.ge, 0, none⟩) G.N G.N, .slice (some ⟨G.gr, 0, none⟩) G.N G.cr] 92 (0, 0))
 nn : G.n0 + G.n1 = G.N
 few : G.N ≤ 1000000
 eml : em.length = G.N
 emb : W.heap[G.ge]? = some (.cells (em.map Value.bool).toArray TB (0, 0))
 row : ∃ cs, W.heap[G.gr]? = some (.cells cs 103 (0, 0)) ∧ ∀ (i : Nat) b, G.bs[i]? = some b → cs[i]? = some (.map (some b))
 bsl : G.bs.length = G.N
 ssl : Ss.length = G.N
 sets : ∀ (i : Nat) b S, G.bs[i]? = some b → Ss[i]? = some S → zb3 b S W
theorem Fs.of {G : Geo} {em : List Bool} {Ss : List (List Int)} {W W' : World} (h : Fs G em Ss W) (hc : ∀ (k : Nat) cs t fr, W.heap[k]? = some (.cells cs t fr) → t ≠ TI → t ≠ 35 → W'.heap[k]? = some (.cells cs t fr)) (hw : ∀ b ∈ G.bs, ∀ S, zb3 b S W → zb3 b S W') : Fs G em Ss W' := by
 obtain ⟨cs, h1, h2⟩ := h.row
 exact ⟨hc _ _ _ _ h.blk (by decide) (by decide), h.nn, h.few, h.eml, hc _ _ _ _ h.emb (by decide) (by decide), ⟨cs, hc _ _ _ _ h1 (by decide) (by decide), h2⟩, h.bsl, h.ssl, fun i b S hb hS => hw b (List.mem_of_getElem? hb) S (h.sets i b S hb hS)⟩
theorem Fs.below {G : Geo} {em : List Bool} {Ss : List (List Int)} {W W' : World} (h : Fs G em Ss W) (hb : Below W.heap.size W W') : Fs G em Ss W' :=
 h.of (fun k cs t fr hk _ _ => (hb.block k (zbk hk)).trans hk) (fun b _ S hS => hS.keep (hb.block b hS.lt))
theorem Fs.bm {G : Geo} {em : List Bool} {Ss : List (List Int)} {W : World} (h : Fs G em Ss W) (i : Nat) (hi : i < G.N) : ∃ b S, G.bs[i]? = some b ∧ Ss[i]? = some S ∧ zb3 b S W ∧ W.cell? ⟨G.gr, i, none⟩ = some (.map (some b)) := by
 obtain ⟨cs, h1, h2⟩ := h.row
 have hb := List.getElem?_eq_getElem (l := G.bs) (i := i) (by rw [h.bsl]; exact hi)
 have hS := List.getElem?_eq_getElem (l := Ss) (i := i) (by rw [h.ssl]; exact hi)
 exact ⟨_, _, hb, hS, h.sets i _ _ hb hS, by rw [zab h1 i]; exact h2 i _ hb⟩
theorem there_calls (G : Geo) (em : List Bool) (Ss : List (List Int)) (s : Int) (W : World) (h : Fs G em Ss W) :
  Calls Tryz.prog 90 #[.pointer (some ⟨G.X, 0, none⟩), .int .i64 s] W fun e W' => e = .returned (.bool (decide (0 ≤ s) && decide (s < (G.N : Int)))) ∧ Below W.heap.size W W' := by
 have c0 : W.cell? ⟨G.X, 0, none⟩ = some (.slice G.A0 G.n0 G.c0) := zab h.blk 0
 have c1 : W.cell? ⟨G.X, 1, none⟩ = some (.slice G.A1 G.n1 G.c1) := zab h.blk 1
 have c2 : W.cell? ⟨G.X, 2, none⟩ = some (.slice G.A2 G.n2 G.c2) := zab h.blk 2
 have hs := zhn G.A0 G.A1 G.A2 G.n0 G.n1 G.n2 G.c0 G.c1 G.c2 W (by rw [h.nn]; exact h.few)
 rw [h.nn] at hs
 by_cases h0 : 0 ≤ s
 ·rw [decide_eq_true h0, Bool.true_and]
  go_enter Tryz.func90, Tryz.ntmps90
  go_wp2_with (go_at_call 59; refine hs.mono ?_; rintro e w1 ⟨rfl, hB1⟩)
  go_ret
  exact ⟨rfl, hB1⟩
 ·have hd : decide (s ≥ 0) = false := by simpa using h0
  rw [decide_eq_false h0, Bool.false_and]
  go_enter Tryz.func90, Tryz.ntmps90
  go_wp2;go_ret
  exact ⟨rfl, Below.refl _ _⟩
def Qz (Q : Exit → Act → World → Prop) : Exit → Act → World → Prop
 | .normal, a, w => Q .normal a w
 | _, _, _ => False
theorem zcy {P : Program} {c : Code} {Q : Exit → Act → World → Prop} {a : Act} {w : World} (h : c.wp P (Qz Q) a w) : c.wp P Q a w := wp_mono h (fun e a w hq => by cases e <;> first | exact hq | exact hq.elim)
theorem RoundIn.anyDepth {F : Fence} (hd : F.depth = none) {m m' : Nat} {P : Program} {l : Nat} {f : FuncId} {tmps : Array Value} {assign body : Code} {w : World} {R : Ending → World → Prop}
  (h : RoundIn F m P l f tmps assign body w R) : RoundIn F m' P l f tmps assign body w R := ⟨h.1, fun c cs _ => h.2 c cs (fun d h => by rw [hd] at h; cases h)⟩
theorem bnd {p y c s j n Nb : Nat} (h1 : p ≤ j * 1000000) (h2 : y + c ≤ s) (h3 : s ≤ 1000000) (h4 : 0 < c) (h5 : j < n) : p + y < n * 1000000 + Nb := by
 have : (j + 1) * 1000000 ≤ n * 1000000 := Nat.mul_le_mul_right _ h5
 omega
theorem bnd2 {p y c s j : Nat} (h1 : p ≤ j * 1000000) (h2 : y + c ≤ s) (h3 : s ≤ 1000000) : p + y ≤ (j + 1) * 1000000 := by omega
theorem Fs.emc {G : Geo} {em : List Bool} {Ss : List (List Int)} {W : World} (h : Fs G em Ss W) (i : Int) (h0 : 0 ≤ i) (h1 : i < G.N) : W.cell? ⟨G.ge, i.toNat, none⟩ = some (.bool (at_ em i)) := by
 rw [zab h.emb i.toNat]
 have hl : i.toNat < em.length := by have := h.eml; omega
 unfold at_
 rw [List.getD_eq_getElem?_getD, List.getElem?_eq_getElem hl]
 simp [hl]
theorem ziw (a b : List I64) : vals (a ++ b) = vals a ++ vals b := by simp [vals]
theorem RoundIn.into {F : Fence} {m : Nat} {P : Program} {l : Nat} {f : FuncId} {tmps : Array Value} {assign body : Code} {w : World} {R : Ending → World → Prop} (l' : Nat) (h : RoundIn F m P l f tmps assign body w R) : RoundIn (F.inRound l') m P l f tmps assign body w R := h
def AhM (N : Nat) (em : List Bool) (Ss : List (List Int)) : List I → (Int → Prop) → Int → Prop
 | [], B, x => B x
 | i :: t, B, x => if 0 ≤ i.1 ∧ i.1 < N then (x ∈ Ss.getD i.1.toNat [] ∨ (at_ em i.1 = true ∧ AhM N em Ss t B x)) else AhM N em Ss t B x
theorem ahead_stops (G : Geo) (em : List Bool) (Ss : List (List Int)) (w u : World) (Al : Option Addr) (cl : Nat) (l : List I) (B1 B2 B3 gb : Nat) (lbb : Array Value) (heg : ∀ args w, (callFunc gb args).run Tryz.prog w = .ok (.enter gb args) w)
  (hF : Fs G em Ss w) (hSs : ∀ S ∈ Ss, S.length ≤ 1000000) (hC : Kd.C kI u Al l.length l) (hu : Below u.heap.size u w) (b1 : Boxed w B1 40 (.slice Al l.length cl)) (b2 : Boxed w B2 93 (.pointer (some ⟨G.X, 0, none⟩))) (b3 : Boxed w B3 80 (.func (.func gb) #[] lbb))
  (Bm : Int → Prop) (Spb : List I64 → Prop) (Nb : Nat) (hseq : SeqH 1 Tryz.prog gb lbb encX (zem w.heap.size) (fun ys => ∀ x, x ∈ vals ys ↔ Bm x) Spb Nb w) :
  SeqH 2 Tryz.prog 89 #[.pointer (some ⟨B1, 0, none⟩), .pointer (some ⟨B2, 0, none⟩), .pointer (some ⟨B3, 0, none⟩)] encX (zem w.heap.size) (fun ys => ∀ x, x ∈ vals ys ↔ AhM G.N em Ss l Bm x) (fun _ => True) (l.length * 1000000 + Nb) w := by
 intro L J Jx W hW hLW hJ hJx hY h0
 have hwW : Below w.heap.size w W := zcn (Below.refl _ _) hW (Nat.le_refl _) (Nat.le_refl _) (fun k h => h.elim)
 refine callsIn_of_wp_marks Tryz.func89 rfl trivial ?_ rfl
 simp only [Tryz.ntmps89, List.size_toArray, List.length_cons, List.length_nil, Nat.reduceAdd, Nat.reduceSub, Array.replicate_succ, Array.replicate_zero, List.push_toArray, List.append_toArray, List.nil_append, List.cons_append]
 obtain ⟨W0, hW0⟩ : ∃ W0, W.alloc (Obj.cells #[.func (.yield L) #[] #[]] 64) = W0 := ⟨_, rfl⟩
 have b4 : Boxed W0 W.heap.size 64 (.func (.yield L) #[] #[]) := by rw [← hW0]; exact Boxed.new W _ _
 have hw0 : Below w.heap.size w W0 := by rw [← hW0]; exact hwW.alloc hwW.size _
 have hJ0 : J [] W0 := hJ _ _ _ h0 (by rw [← hW0]; exact Turn.alloc _)
 have hlen : l.length ≤ 9223372036854775807 := hC.2.1
 have c1 : W0.cell? ⟨B1, 0, none⟩ = some (.slice Al l.length cl) := (hw0.cell (p := ⟨B1, 0, none⟩) b1.lt).trans b1.cell
 gi_wp2
 gi_loopw [11] (fun i wr => ∃ (j : Nat) (pre : List I64), i = .int .i64 (j : Int) ∧ j ≤ l.length ∧ J pre wr ∧ pre.length ≤ j * 1000000 ∧ Hid (∀ x, (x ∈ vals pre ∨ AhM G.N em Ss (l.drop j) Bm x) ↔ AhM G.N em Ss l Bm x) ∧ Boxed wr W.heap.size 64 (.func (.yield L) #[] #[]) ∧ Below w.heap.size w wr) (fun i _ => l.length - (Go.RowKit.intOf i).toNat)
 case atStart => exact ⟨0, [], rfl, Nat.zero_le _, hJ0, Nat.zero_le _, Lib.hid (fun x => by simp [vals]), b4, hw0⟩
 case round =>
  obtain ⟨j, pre, rfl, hj, hJs, hpl, hM, hb4, hb⟩ := hrel
  have k2 : wr.cell? ⟨B2, 0, none⟩ = some (.pointer (some ⟨G.X, 0, none⟩)) := (hb.cell (p := ⟨B2, 0, none⟩) b2.lt).trans b2.cell
  have hFr := hF.below hb
  have l2 : B2 < wr.heap.size := by have := b2.lt; have := hb.size; omega
  by_cases hlt : j < l.length
  ·obtain ⟨ad, x, rfl, hx, f0, f1, f2⟩ := atI (Kd.zak hC (hu.trans (hb.mono hu.size))) j hlt
   obtain ⟨Wi, hWi⟩ : ∃ Wi, wr.alloc (Obj.cells #[.int .i64 x.1, .string x.2.1, .string x.2.2] TIt) = Wi := ⟨_, rfl⟩
   have bi : Wi.heap[wr.heap.size]? = some (.cells #[.int .i64 x.1, .string x.2.1, .string x.2.2] TIt (0, 0)) := by rw [← hWi]; exact za9 wr _
   have hBi : Below wr.heap.size wr Wi := by rw [← hWi]; exact (Below.refl _ _).alloc (Nat.le_refl _) _
   have hJi : J pre Wi := hJ _ _ _ hJs (by rw [← hWi]; exact Turn.alloc _)
   have hth := there_calls G em Ss x.1 Wi (hFr.below hBi)
   have i0 : Wi.cell? ⟨wr.heap.size, 0, none⟩ = some (.int .i64 x.1) := zab bi 0
   have i2 : Wi.cell? ⟨B2, 0, none⟩ = some (.pointer (some ⟨G.X, 0, none⟩)) := zad hBi k2
   have h55 : Fence.wide.fn 90 := trivial
   have hM' : AhM G.N em Ss (l.drop j) Bm = AhM G.N em Ss (x :: l.drop (j + 1)) Bm := by
    rw [List.drop_eq_getElem_cons hlt]
    congr 2
    exact (List.getElem?_eq_some_iff.1 hx).2
   rw [hM'] at hM
   have HX := Lib.hid hx
   have BI := Lib.hid bi
   clear hx hM' bi
   by_cases hr : 0 ≤ x.1 ∧ x.1 < G.N
   ·have hd : (decide (0 ≤ x.1) && decide (x.1 < (G.N : Int))) = true := by simp [hr]
    rw [hd] at hth
    gi_wp2_with (gi_at_call 90; refine (callsIn_wide.2 hth).mono ?_; rintro e w1 ⟨rfl, hB1⟩)
    rename_i hK2
    have hF1 := (hFr.below hBi).below hB1
    obtain ⟨bm, Sm, hbm, hSm, hSA, cm⟩ := hF1.bm x.1.toNat (by omega)
    have hbi1 : w1.heap[wr.heap.size]? = some (.cells #[.int .i64 x.1, .string x.2.1, .string x.2.2] TIt (0, 0)) := (hB1.block _ (zbk BI.out)).trans BI.out
    have hHeld : w1.drew.cell? ⟨B2, 0, none⟩ = some (.pointer (some ⟨G.X, 0, none⟩)) ∧ w1.drew.cell? ⟨G.X, 4, none⟩ = some (.slice (some ⟨G.gr, 0, none⟩) G.N G.cr) ∧ w1.drew.cell? ⟨wr.heap.size, 0, none⟩ = some (.int .i64 x.1) ∧ w1.drew.cell? ⟨G.gr, x.1.toNat, none⟩ = some (.map (some bm)) :=
     ⟨zad hB1 i2, zab hF1.blk 4, zab hbi1 0, cm⟩
    obtain ⟨r0, r1⟩ := hr
    refine wpIn_wide.2 (zcy (zbl (S := fun X => X.cell? ⟨B2, 0, none⟩ = some (.pointer (some ⟨G.X, 0, none⟩)) ∧ X.cell? ⟨G.X, 4, none⟩ = some (.slice (some ⟨G.gr, 0, none⟩) G.N G.cr) ∧ X.cell? ⟨wr.heap.size, 0, none⟩ = some (.int .i64 x.1) ∧ X.cell? ⟨G.gr, x.1.toNat, none⟩ = some (.map (some bm))) (ds := [8]) (Ymk 9 0) (by kernel_rfl) rfl rfl hHeld (fun _ => ?_)))
    refine Ytk 0 20 9 1 hHeld ?_
    refine Ypk 1 21 9 3 ?_
    refine Ypk 2 22 9 7 ?_
    refine Ytk 3 23 9 15 hHeld ?_
    refine Ypk 4 24 9 31 ?_
    refine Ytk 5 25 9 63 hHeld ?_
    refine Ypk 6 26 9 127 ?_
    refine Ytk 7 27 9 255 hHeld ?_
    refine Ylk 8 28 9 511 (fun K hK => ?_)
    obtain ⟨q1, q2, D, hown, hsz, hhas⟩ := hSA
    obtain ⟨w2, hrun, hrg, hg2, hs2⟩ := hown.drew.range law Tryz.underlying103
    refine zcm (v := .pointer (some ⟨w1.drew.heap.size, 0, none⟩)) (w1 := w2) (by rfl) rfl ?hrun ?_
    case hrun =>
     unfold execOp
     simp [Act.eval, Result.andThen]
     rw [hrun]
     rfl
    refine hK.out _ _ ?_
    clear hK K
    refine zbq (by kernel_rfl) ?_
    refine hK2 _ _ ?_
    clear hK2
    simp only [Act.put, Y1, Y2, Y3]
    gi_wp2
    have hSml : Sm.length ≤ 1000000 := hSs Sm (List.mem_of_getElem? hSm)
    have tr : ∀ L, Turn L (fun _ => False) wr w2 := fun L => (Turn.below hBi).trans ((Turn.below hB1).trans (Turn.drew.trans (Turn.grown hg2 (fun k e => nomatch e))))
    have hJ2 : J (pre ++ []) w2 := by rw [List.append_nil]; exact hJ _ _ _ hJs (tr _)
    have hb42 := Boxed.turn hb4 (tr 0) (fun h => h)
    have hbi2 : w2.heap[wr.heap.size]? = some (.cells #[.int .i64 x.1, .string x.2.1, .string x.2.2] TIt (0, 0)) := zc3 hbi1 (Turn.drew.trans (Turn.grown (L := 0) (T := fun _ => False) hg2 (fun k e => nomatch e))) (fun h => h)
    have hb2 : Below w.heap.size w w2 := zcn hb (tr w.heap.size) (Nat.le_refl _) (Nat.le_refl _) (fun k h => h.elim)
    have hgd : Ss.getD x.1.toNat [] = Sm := by rw [List.getD_eq_getElem?_getD, hSm]; rfl
    have HGD := Lib.hid hgd
    have hWr : W.heap.size ≤ w1.drew.heap.size := Nat.le_of_lt (Nat.lt_of_lt_of_le hb4.lt (Nat.le_trans hBi.size hB1.size))
    clear hgd hHeld hbi1 hFr hF1 i0 i2 k2 l2 hbm hSm hg2 hs2 hth hBi hB1 cm hb4 hJs hJi BI hrun hd
    obtain ⟨ib, hib⟩ : ∃ ib, wr.heap.size = ib := ⟨_, rfl⟩
    rw [hib] at hbi2 ⊢
    clear hib
    obtain ⟨rr, hrr⟩ : ∃ rr, w1.drew.heap.size = rr := ⟨_, rfl⟩
    rw [hrr] at hrg hWr ⊢
    clear hrr
    gi_loopw [7] (fun _ wr => ∃ (left : Lit → Bool) (cnt : Nat) (ys : List I64), wr.ranges Tryz.prog TI (plainElem Tryz.prog TB) bm rr Sm.length D left cnt ∧ ys.length + cnt ≤ Sm.length ∧ CollectedI D left (vals ys) ∧ J (pre ++ ys) wr ∧ Boxed wr W.heap.size 64 (.func (.yield L) #[] #[]) ∧ wr.heap[ib]? = some (.cells #[.int .i64 x.1, .string x.2.1, .string x.2.2] TIt (0, 0)) ∧ Below w.heap.size w wr)
     (fun _ wr => wr.rangeLeft bm rr)
    case atStart => exact ⟨_, _, [], hrg, by simp [hsz], CollectedI.start D, hJ2, hb42, hbi2, hb2⟩
    case round =>
     obtain ⟨left, cnt, ys, hrg, hcs, hCo, hJq, hbq, hiq, hbw⟩ := hrel
     have cq := hbq.cell
     gi_wp2_with (first
      | (gi_at_next; refine wpListIn_next_ranges _ rfl _ rfl TI law (plainElem Tryz.prog TB) encZ id (fun key kl hk => by obtain ⟨x, hx, _⟩ := Maps.keyOf_i64 Tryz.underlying3 hk; exact ⟨x, hx⟩) (fun v _ _ => ⟨v, rfl⟩) bm rr Sm.length _ _ _ rfl hrg ?_ ?_)
      | gi_in)
     ·intro hc0 hl0
      gi_wp2
      rename_i hK3
      have hFq := hF.below hbw
      have hme : ∀ y, y ∈ vals ys ↔ y ∈ Sm := fun y => by rw [hCo.2 y, hl0, hhas y]; simp
      have hMx : ∀ y, y ∈ vals (pre ++ ys) ∨ (at_ em x.1 = true ∧ AhM G.N em Ss (l.drop (j + 1)) Bm y) ↔ AhM G.N em Ss l Bm y := fun y => by
       rw [← hM.out y, ziw, List.mem_append, hme]
       simp only [AhM, if_pos (And.intro r0 r1), HGD.out]
       rw [or_assoc]
      have hpl2 := bnd2 hpl hcs hSml
      rw [← List.length_append] at hpl2
      obtain ⟨bv, hbv⟩ : ∃ bv, at_ em x.1 = bv := ⟨_, rfl⟩
      have hec := hFq.emc x.1 r0 r1
      rw [hbv] at hec hMx
      have hHeld : wr.drew.cell? ⟨B2, 0, none⟩ = some (.pointer (some ⟨G.X, 0, none⟩)) ∧ wr.drew.cell? ⟨G.X, 3, none⟩ = some (.slice (some ⟨G.ge, 0, none⟩) G.N G.N) ∧ wr.drew.cell? ⟨ib, 0, none⟩ = some (.int .i64 x.1) ∧ wr.drew.cell? ⟨G.ge, x.1.toNat, none⟩ = some (.bool bv) :=
       ⟨(hbw.cell (p := ⟨B2, 0, none⟩) b2.lt).trans b2.cell, zab hFq.blk 3, zab hiq 0, hec⟩
      have HM2 := Lib.hid hMx
      clear hMx hme hec hbv hFq cq
      refine wpIn_wide.2 (zcy (zbl (S := fun X => X.cell? ⟨B2, 0, none⟩ = some (.pointer (some ⟨G.X, 0, none⟩)) ∧ X.cell? ⟨G.X, 3, none⟩ = some (.slice (some ⟨G.ge, 0, none⟩) G.N G.N) ∧ X.cell? ⟨ib, 0, none⟩ = some (.int .i64 x.1) ∧ X.cell? ⟨G.ge, x.1.toNat, none⟩ = some (.bool bv)) (ds := []) (Ymk 9 0) (by kernel_rfl) rfl rfl hHeld (fun _ => ?_)))
      refine Ytk 0 37 9 1 hHeld ?_
      refine Ypk 1 38 9 3 ?_
      refine Ypk 2 39 9 7 ?_
      refine Ytk 3 40 9 15 hHeld ?_
      refine Ypk 4 41 9 31 ?_
      refine Ytk 5 42 9 63 hHeld ?_
      refine Ypk 6 43 9 127 ?_
      refine Ytk 7 44 9 255 hHeld ?_
      refine Ypk 8 45 9 511 ?_
      refine zbq (by kernel_rfl) ?_
      refine hK3 _ _ ?_
      clear hK3
      have hJd : J (pre ++ ys) wr.drew := hJ _ _ _ hJq Turn.drew
      cases bv with
      | true =>
       gi_wp2
       go_roundw
       case rel =>
        have p2 : j + 1 ≤ l.length := hlt
        refine ⟨j + 1, pre ++ ys, by go_num, p2, hJd, hpl2, Lib.hid (fun y => ?_), hbq, za4 hbw⟩
        rw [← HM2.out y]
        simp
       case measure => simp [Go.RowKit.intOf]; omega
      | false =>
       gi_wp2
       refine ⟨_, results_none rfl _ _ _, ⟨_, rfl⟩, .inl ⟨pre ++ ys, fun y => ?_, hJd⟩⟩
       rw [← HM2.out y]
       simp
     ·intro y c kl yd yp w3 cnt2 hkey hlk hv hat hrg2 hlt2 hg2 hs2 hen
      obtain ⟨y', ex, rfl, hwf⟩ := Maps.keyOf_i64 Tryz.underlying3 hkey
      obtain rfl : y = y' := encZ_inj ex
      have tg : Turn W.heap.size (fun _ => False) wr w3 := Turn.grown hg2 (fun r e => by cases e; exact .inr ⟨hWr, hrg.iter_walk.imp (fun o h => ⟨h.1, Obj.not_cells_of_walk h.2⟩)⟩)
      have hJ3 : J (pre ++ ys) w3 := hJ _ _ _ hJq tg
      have hlen2 := bnd (Nb := Nb) hpl hcs hSml (by omega) hlt
      rw [← List.length_append] at hlen2
      obtain ⟨fn, tmps, assign, body, hy, hR⟩ := hY (pre ++ ys) ⟨y, hwf⟩ w3 hJ3 hlen2
      simp only [encX] at hy
      have hb3' := Boxed.turn hbq tg (fun h => h)
      have hi3 := zc3 hiq tg (fun h => h)
      have hbw3 : Below w.heap.size w w3 := zcn hbw tg (Nat.le_refl _) hwW.size (fun k h => h.elim)
      have c3 := hb3'.cell
      have hC2 : CollectedI D (fun z => left z && !z.sameKey (Lit.int .i64 y)) (vals (ys ++ [⟨y, hwf⟩])) := by
       have := hCo.step hlk hat
       simpa [vals] using this
      clear hs2 cq hY
      gi_wp2
      refine hR.mono ?_
      rintro e W3 (⟨rfl, hJ4, hk4⟩ | ⟨rfl, hJx4, _⟩)
      ·gi_wp2
       have hrg3 := hrg2.of_walks hk4.1.2.1
       go_roundw
       case rel =>
        refine ⟨_, cnt2, ys ++ [⟨y, hwf⟩], hrg3, by simp; omega, hC2, ?_, hk4.1.2.2 _ _ _ _ hb3' (by decide) (by decide), hk4.1.2.2 _ _ _ _ hi3 (by decide) (by decide), hbw3.trans hk4.1.1.1⟩
        rw [← List.append_assoc]
        exact hJ4
       case measure => rw [hrg3.left_eq, hrg.left_eq]; exact hlt2
      ·gi_wp2
       exact ⟨_, results_none rfl _ _ _, ⟨_, rfl⟩, .inr ⟨_, trivial, hJx4⟩⟩
   ·have hd : (decide (0 ≤ x.1) && decide (x.1 < (G.N : Int))) = false := by
     rw [Bool.and_eq_false_iff, decide_eq_false_iff_not, decide_eq_false_iff_not]
     by_cases h : 0 ≤ x.1
     ·exact .inr (fun h' => hr ⟨h, h'⟩)
     ·exact .inl h
    rw [hd] at hth
    gi_wp2_with (gi_at_call 90; refine (callsIn_wide.2 hth).mono ?_; rintro e w1 ⟨rfl, hB1⟩)
    go_roundw
    case rel =>
     have p1 : pre.length ≤ (j + 1) * 1000000 := Nat.le_trans hpl (Nat.mul_le_mul_right _ (Nat.le_succ j))
     have p2 : j + 1 ≤ l.length := hlt
     refine ⟨j + 1, pre, by go_num, p2, hJ _ _ _ hJi (Turn.below hB1), p1, Lib.hid (fun y => ?_), Boxed.turn (Boxed.turn hb4 (Turn.below (L := 0) (T := fun _ => False) hBi) (fun h => h)) (Turn.below (L := 0) (T := fun _ => False) hB1) (fun h => h), hb.trans ((hBi.trans (hB1.mono hBi.size)).mono hb.size)⟩
     rw [← hM.out y]
     simp only [AhM, if_neg hr]
    case measure => simp [Go.RowKit.intOf]; omega
  ·obtain rfl : j = l.length := by omega
   have k3 : wr.cell? ⟨B3, 0, none⟩ = some (.func (.func gb) #[] lbb) := (hb.cell (p := ⟨B3, 0, none⟩) b3.lt).trans b3.cell
   have hWl : W.heap.size < wr.heap.size := hb4.lt
   gi_wp2
   refine rangeH (gf := gb) (lb := lbb) rfl heg hseq keepH_t (keepH_b hb.size) (Turn.below hb) (fun _ => rfl)
    (fun p2 X => J (pre ++ p2) X ∧ Boxed X W.heap.size 64 (.func (.yield L) #[] #[]) ∧ wr.heap.size ≤ X.heap.size ∧ Below w.heap.size w X)
    (fun c p2 X => c = .ret ∧ Jx (pre ++ p2) X)
    ?hI ?hIx ?h0
    (fun x a' X => a' = Act.mk #[.func (.yield L) #[] #[], .pointer (some ⟨B1, 0, none⟩), .pointer (some ⟨B2, 0, none⟩), .pointer (some ⟨B3, 0, none⟩), .pointer (some ⟨W.heap.size, 0, none⟩), undef, u6, u7, .int .i64 x.1, .slice Al l.length cl, .int .i64 (l.length : Int), .int .i64 (l.length : Int), .bool false, u13, u14, u15, u16, u17, u18, u19, u20, u21, u22, u23, u24, u25, u26, u27, u28, u29, u30, u31, u32, u33, u34, u35, u36, u37, u38, u39, u40, u41, u42, u43, u44, u45, u46, .func (.func gb) #[] lbb, .int .i64 x.1, undef, undef, undef, undef] []) ?hAx ?assign ?body ?done ?stop
   case hI =>
    rintro p2 X X' ⟨h1, h2, h3, h4⟩ ht
    exact ⟨hJ _ _ _ h1 (ht.mono (by omega) (fun _ h => h)), Boxed.turn h2 ht (fun h => h), Nat.le_trans h3 ht.size, zcn h4 ht (Nat.le_refl _) (by have := hwW.size; omega) (fun k hk => hk.elim)⟩
   case hIx => exact fun c p2 X X' h ht => ⟨h.1, hJx _ _ _ h.2 (ht.mono (by omega) (fun _ h => h))⟩
   case h0 => exact ⟨by rw [List.append_nil]; exact hJs, hb4, Nat.le_refl _, hb⟩
   case hAx => exact fun x a' s X Y h _ => h
   case assign =>
    rintro l' p2 x X K hI hK2
    simp only [encX]
    gi_wp2
    exact hK2 _ _ (KeepsFrom.refl _ _) (zjj _ _ _) hI rfl
   case body =>
    rintro l' p2 x a' X hl hr ⟨h1, h2, h3, h4⟩ rfl hpre
    have hlen2 : (pre ++ p2).length < l.length * 1000000 + Nb := by rw [List.length_append]; omega
    obtain ⟨fn, tmps, assign, body, hy, hR⟩ := hY (pre ++ p2) x X h1 hlen2
    simp only [encX] at hy
    have c4 := h2.cell
    clear hY
    gi_wp2
    refine ⟨rfl, (RoundIn.into l' (RoundIn.anyDepth rfl hR)).mono ?_⟩
    rintro e W3 (⟨rfl, hJ4, hk4⟩ | ⟨rfl, hJx4, hbe⟩)
    ·gi_wp2
     refine ⟨zhr hk4.2 (by omega), ⟨hk4.1, behind_mono hk4.2 (by omega)⟩, ?_, hk4.1.2.2 _ _ _ _ h2 (by decide) (by decide), Nat.le_trans h3 hk4.2.1, h4.trans hk4.1.1.1⟩
     rw [← List.append_assoc]
     exact hJ4
    ·gi_wp2
     refine ⟨zhr hbe (by omega), rfl, ?_⟩
     rw [← List.append_assoc]
     exact hJx4
   case done =>
    rintro D ys X hD hS ⟨h1, h2, h3, h4⟩ hK'
    have HS := Lib.hid hS
    clear hS
    gi_wp2
    refine ⟨by simp, .inl ⟨_, _, rfl, run_takeDeferred hK', ?_⟩⟩
    refine ⟨_, results_none rfl _ _ _, ⟨_, rfl⟩, .inl ⟨pre ++ ys, fun y => ?_, hJ _ _ _ h1 (Turn.putObj _ hK' (by omega) rfl)⟩⟩
    rw [ziw, List.mem_append, HS.out y, ← hM.out y, List.drop_length]
    rfl
   case stop =>
    rintro D c p2 X hD hp ⟨rfl, hx⟩ hK'
    gi_wp2
    refine ⟨by simp, .inl ⟨_, _, rfl, run_takeDeferred hK', ?_⟩⟩
    exact ⟨_, results_none rfl _ _ _, ⟨_, rfl⟩, .inr ⟨_, trivial, hJx _ _ _ hx (Turn.putObj _ hK' (by omega) rfl)⟩⟩
theorem ahead_calls (X : Nat) (Al : Option Addr) (n cl gb : Nat) (lbb : Array Value) (w : World) : Calls Tryz.prog 75 #[.pointer (some ⟨X, 0, none⟩), .slice Al n cl, .func (.func gb) #[] lbb] w fun e w' =>
  e = .returned (.func (.func 89) #[] #[.pointer (some ⟨w.heap.size + 1, 0, none⟩), .pointer (some ⟨w.heap.size, 0, none⟩), .pointer (some ⟨w.heap.size + 1 + 1, 0, none⟩)]) ∧
   ((w.alloc (.cells #[.pointer (some ⟨X, 0, none⟩)] 93)).alloc (.cells #[.slice Al n cl] 40)).alloc (.cells #[.func (.func gb) #[] lbb] 80) = w' := by
 go_enter Tryz.func75, Tryz.ntmps75
 go_wp2;go_ret
 exact ⟨rfl, rfl⟩
end Go.Proofs.ZZ.Ahd
end
section
namespace Go.Proofs.ZZ.Begin
open Go Go.RowKit Go.Shelf Go.Maps Go.Proofs.ZW.PrintWords Go.Proofs.ZW.PrintLast Go.Proofs.ZZ.Round Go.Proofs.ZZ.RangeG Go.Proofs.ZZ.RangeH Go.Proofs.ZZ.Fl Go.Proofs.ZZ.Grow Go.Proofs.ZZ.Seqs Go.Proofs.ZZ.MSet Go.Proofs.ZZ.Add Go.Proofs.ZZ.Deri Go.Proofs.ZZ.Ahd
attribute [local go_sem] Oper.semAt_some
def ahV (N : Nat) (em : List Bool) (Ss : List (List Int)) : List I → List Int → List Int
 | [], B => B
 | i :: t, B => if 0 ≤ i.1 ∧ i.1 < N then (if at_ em i.1 = true then zbf (ahV N em Ss t B) (Ss.getD i.1.toNat []) else Ss.getD i.1.toNat []) else ahV N em Ss t B
theorem ahV_mem (N : Nat) (em : List Bool) (Ss : List (List Int)) (B : List Int) (x : Int) : ∀ l : List I, x ∈ ahV N em Ss l B ↔ AhM N em Ss l (· ∈ B) x
 | [] => Iff.rfl
 | i :: t => by
  simp only [ahV, AhM]
  split
  ·split
   ·rename_i h
    rw [zch, ahV_mem N em Ss B x t]
    simp [h]
   ·rename_i h
    simp [h]
  ·exact ahV_mem N em Ss B x t
def Bd (Ss : List (List Int)) : Prop := ∀ S ∈ Ss, ∀ x ∈ S, 0 ≤ x ∧ x < 1000000
theorem rises_len : ∀ {S : List Int} (lo : Int), zc8 S → (∀ x ∈ S, lo ≤ x ∧ x < 1000000) → lo ≤ 1000000 → (S.length : Int) ≤ 1000000 - lo
 | [], lo, _, _, h => by simp; omega
 | a :: t, lo, h, hb, _ => by
  obtain ⟨h1, h2⟩ := List.pairwise_cons.1 h
  have ha := hb a (by simp)
  have := rises_len (S := t) (a + 1) h2 (fun x hx => ⟨by have := h1 x hx; omega, (hb x (by simp [hx])).2⟩) (by omega)
  rw [List.length_cons]
  omega
theorem zgz {Ss : List (List Int)} (h : Bd Ss) (hr : ∀ S ∈ Ss, zc8 S) : ∀ S ∈ Ss, S.length ≤ 1000000 := fun S hS => by
 have := rises_len 0 (hr S hS) (h S hS) (by omega)
 omega
theorem zi0 {G : Geo} {em : List Bool} {Ss : List (List Int)} {W : World} (h : Fs G em Ss W) : ∀ S ∈ Ss, zc8 S := fun S hS => by
 obtain ⟨i, hi, rfl⟩ := List.mem_iff_getElem.1 hS
 obtain ⟨b, S', hb, hS', hA, _⟩ := h.bm i (by rw [← h.ssl]; exact hi)
 rw [List.getElem?_eq_getElem hi] at hS'
 cases hS'
 exact hA.1
def zcg (N : Nat) (em : List Bool) (Ss : List (List Int)) (p : P) : List (List Int) × Bool :=
 (Ss.set p.1.toNat (zbf (Ss.getD p.1.toNat []) (ahV N em Ss p.2.1 [])), decide ((zbf (Ss.getD p.1.toNat []) (ahV N em Ss p.2.1 [])).length > (Ss.getD p.1.toNat []).length))
theorem own_g {w : World} {base n : Nat} {v : Value} {xs : List I64} (h : w.ownsRow base TI 1 v n (ints xs)) : ∃ A c, v = .slice A xs.length c ∧ ∃ (g : Nat) (cs : Array Value), xs ≠ [] → A = some ⟨g, 0, none⟩ ∧ base ≤ g ∧ w.heap[g]? = some (.cells cs TI (0, 0)) ∧ ∀ (j : Nat) (x : I64), xs[j]? = some x → cs[j]? = some (.int .i64 x.1) := by
 have hl : n = xs.length := by have := h.1; simp [ints] at this; omega
 subst hl
 rcases h.2 with ⟨hv, hn⟩ | ⟨g, cap, cur, hv, hg, hh, hcap, hmax, hsz, htk⟩
 ·exact ⟨none, 0, by rw [hv, hn], 0, #[], fun hne => absurd (List.eq_nil_of_length_eq_zero hn) hne⟩
 ·refine ⟨_, cap, hv, g, cur, fun _ => ⟨rfl, hg, hh, fun j x hx => ?_⟩⟩
  have hj := (List.getElem?_eq_some_iff.1 hx).1
  have : (ints xs)[j]? = some (.int .i64 x.1) := by unfold ints; rw [List.getElem?_map, hx]; rfl
  rw [← htk, List.getElem?_take_of_lt (by omega), Array.getElem?_toList] at this
  exact this
theorem addrow_calls (w u : World) (v : Value) (n base : Nat) (xs : List I64) (b : Nat) (S : List Int) (hS : zb3 b S w) (ho : w.ownsRow base TI 1 v n (ints xs)) (hb : b < base) (hub : u.heap.size ≤ b) (hu : Below u.heap.size u w) (hl : S.length + xs.length ≤ 1000000000000) :
  ∃ A c, v = .slice A xs.length c ∧ Calls Tryz.prog 72 #[.map (some b), .func (.func 87) #[] #[.pointer (some ⟨w.heap.size, 0, none⟩)]] (w.alloc (.cells #[v] 35)) fun e w' => e = .returned (.bool (decide ((zbf S (vals xs)).length > S.length))) ∧ zb3 b (zbf S (vals xs)) w' ∧ Turn w.heap.size (fun k => k = b) w w' := by
 obtain ⟨A, c, rfl, g, cs, hg⟩ := own_g ho
 refine ⟨A, c, rfl, ?_⟩
 obtain ⟨W, hW⟩ : ∃ W, w.alloc (.cells #[.slice A xs.length c] 35) = W := ⟨_, rfl⟩
 have hB : W.heap[w.heap.size]? = some (.cells #[.slice A xs.length c] 35 (0, 0)) := by rw [← hW]; exact za9 w _
 have hlt := hS.lt
 have tW : ∀ L T, Turn L T w W := fun L T => by rw [← hW]; exact Turn.alloc _
 have hS' : zb3 b S W := hS.turn (tW w.heap.size (fun _ => False)) (fun h => h) hlt
 have hu' : Below u.heap.size u W := by rw [← hW]; exact hu.alloc hu.size _
 have szW : W.heap.size = w.heap.size + 1 := by rw [← hW]; simp
 obtain ⟨g', hg'1, hg'2, hg'3⟩ : ∃ g', g' < W.heap.size ∧ g' ≠ b ∧ (xs ≠ [] → A = some ⟨g', 0, none⟩ ∧ W.heap[g']? = some (.cells cs TI (0, 0)) ∧ ∀ (j : Nat) (x : I64), xs[j]? = some x → cs[j]? = some (.int .i64 x.1)) := by
  by_cases hx : xs = []
  ·exact ⟨w.heap.size, by omega, by omega, fun h => absurd hx h⟩
  ·obtain ⟨h1, h2, h3, h4⟩ := hg hx
   exact ⟨g, by have := zbk h3; omega, by omega, fun _ => ⟨h1, zc3 h3 (tW 0 (fun _ => False)) (fun h => h), h4⟩⟩
 have hseq := gvals_stops 2 w.heap.size g' (by omega) A c xs cs u W hu' (by omega) hB hg'3
 have ha := add_calls 87 #[.pointer (some ⟨w.heap.size, 0, none⟩)] (enters_of Tryz.func87 (by kernel_rfl) rfl) W u.heap.size [g'] b S xs _ xs.length hl hub (fun d hd => by simp at hd; subst hd; exact ⟨hg'1, hg'2⟩) hS' hseq
 rw [hW]
 refine ha.mono ?_
 rintro e w' ⟨h1, h2, h3⟩
 exact ⟨h1, h2, (tW _ _).trans (h3.mono (by omega) (fun _ h => h))⟩
theorem zga (G : Geo) (em : List Bool) (Ss : List (List Int)) (BX : Nat) (u W : World) (p : P) (A : Option Addr) (c : Nat) (hF : Fs G em Ss W) (hBd : Bd Ss) (hX : Boxed W BX 93 (.pointer (some ⟨G.X, 0, none⟩))) (hok : PrOk G.N p) (hc : p.2.1.length ≤ c) (hp : p.2.1.length ≤ 1000) (hC : Kd.C kI u A p.2.1.length p.2.1) (hu : Below u.heap.size u W) (hub : ∀ b ∈ G.bs, u.heap.size ≤ b) :
  Calls Tryz.prog 71 #[.agg #[.int .i64 p.1, .slice A p.2.1.length c, .int .i64 p.2.2], .pointer (some ⟨BX, 0, none⟩)] W fun e W' => ∃ b, G.bs[p.1.toNat]? = some b ∧ e = .returned (.bool (zcg G.N em Ss p).2) ∧ zb3 b (zbf (Ss.getD p.1.toNat []) (ahV G.N em Ss p.2.1 [])) W' ∧ Turn W.heap.size (fun k => k = b) W W' := by
 obtain ⟨W0, hW0⟩ : ∃ W0, W.alloc (.cells #[.int .i64 p.1, .slice A p.2.1.length c, .int .i64 p.2.2] TP) = W0 := ⟨_, rfl⟩
 have hB0 : Below W.heap.size W W0 := by rw [← hW0]; exact (Below.refl _ _).alloc (Nat.le_refl _) _
 have sz0 : W0.heap.size = W.heap.size + 1 := by rw [← hW0]; simp
 have hF0 := hF.below hB0
 have q0 := hok.1
 have q1 := hok.2.1
 obtain ⟨b, Sb, hbs, hSs, hSA, cm⟩ := hF0.bm p.1.toNat (by omega)
 have hgd : Ss.getD p.1.toNat [] = Sb := by rw [List.getD_eq_getElem?_getD, hSs]; rfl
 have hub' := hub b (List.mem_of_getElem? hbs)
 have hlb : b < W.heap.size := by
  obtain ⟨b', S', h1, h2, h3, _⟩ := hF.bm p.1.toNat (by omega)
  rw [h1] at hbs
  cases hbs
  exact h3.lt
 have hpb : W0.heap[W.heap.size]? = some (.cells #[.int .i64 p.1, .slice A p.2.1.length c, .int .i64 p.2.2] TP (0, 0)) := by rw [← hW0]; exact za9 W _
 have hu0 : Below u.heap.size u W0 := hu.trans (hB0.mono hu.size)
 have hHeld : W0.drew.cell? ⟨BX, 0, none⟩ = some (.pointer (some ⟨G.X, 0, none⟩)) ∧ W0.drew.cell? ⟨G.X, 4, none⟩ = some (.slice (some ⟨G.gr, 0, none⟩) G.N G.cr) ∧ W0.drew.cell? ⟨W.heap.size, 0, none⟩ = some (.int .i64 p.1) ∧ W0.drew.cell? ⟨W.heap.size, 1, none⟩ = some (.slice A p.2.1.length c) ∧ W0.drew.cell? ⟨G.gr, p.1.toNat, none⟩ = some (.map (some b)) :=
  ⟨(hB0.cell (p := ⟨BX, 0, none⟩) hX.lt).trans hX.cell, zab hF0.blk 4, zab hpb 0, zab hpb 1, cm⟩
 have keep : ∀ X Y : World, Below X.heap.size X Y → (fun X => X.cell? ⟨BX, 0, none⟩ = some (.pointer (some ⟨G.X, 0, none⟩)) ∧ X.cell? ⟨G.X, 4, none⟩ = some (.slice (some ⟨G.gr, 0, none⟩) G.N G.cr) ∧ X.cell? ⟨W.heap.size, 0, none⟩ = some (.int .i64 p.1) ∧ X.cell? ⟨W.heap.size, 1, none⟩ = some (.slice A p.2.1.length c) ∧ X.cell? ⟨G.gr, p.1.toNat, none⟩ = some (.map (some b))) X → (fun X => X.cell? ⟨BX, 0, none⟩ = some (.pointer (some ⟨G.X, 0, none⟩)) ∧ X.cell? ⟨G.X, 4, none⟩ = some (.slice (some ⟨G.gr, 0, none⟩) G.N G.cr) ∧ X.cell? ⟨W.heap.size, 0, none⟩ = some (.int .i64 p.1) ∧ X.cell? ⟨W.heap.size, 1, none⟩ = some (.slice A p.2.1.length c) ∧ X.cell? ⟨G.gr, p.1.toNat, none⟩ = some (.map (some b))) Y := fun X Y h hh => ⟨zad h hh.1, zad h hh.2.1, zad h hh.2.2.1, zad h hh.2.2.2.1, zad h hh.2.2.2.2⟩
 have t1 : p.2.1.length ≤ 9223372036854775807 := hC.2.1
 go_enter Tryz.func71, Tryz.ntmps71
 go_wp2
 rename_i hK2
 refine zcy (zbl (S := fun X => X.cell? ⟨BX, 0, none⟩ = some (.pointer (some ⟨G.X, 0, none⟩)) ∧ X.cell? ⟨G.X, 4, none⟩ = some (.slice (some ⟨G.gr, 0, none⟩) G.N G.cr) ∧ X.cell? ⟨W.heap.size, 0, none⟩ = some (.int .i64 p.1) ∧ X.cell? ⟨W.heap.size, 1, none⟩ = some (.slice A p.2.1.length c) ∧ X.cell? ⟨G.gr, p.1.toNat, none⟩ = some (.map (some b))) (ds := [14]) (Ymk 16 0) (by kernel_rfl) rfl rfl hHeld (fun _ => ?_))
 refine Ytk 0 4 16 1 hHeld ?_
 refine Ypk 1 5 16 3 ?_
 refine Ypk 2 6 16 7 ?_
 refine Ytk 3 7 16 15 hHeld ?_
 refine Ypk 4 8 16 31 ?_
 refine Ytk 5 9 16 63 hHeld ?_
 refine Ypk 6 10 16 127 ?_
 refine Ytk 7 11 16 255 hHeld ?_
 refine Ytk 8 12 16 511 hHeld ?_
 refine Ypk 9 13 16 1023 ?_
 refine Ytk 10 14 16 2047 hHeld ?_
 refine Yok 11 15 16 4095 (fun K hK => ?_)
 refine Ygh Tryz.func75 #[.pointer (some ⟨G.X, 0, none⟩), .slice A p.2.1.length c, .func (.func 76) #[] #[]] ?_
 refine (ahead_calls G.X A p.2.1.length c 76 #[] W0.drew).mono ?_
 rintro e X1 ⟨rfl, hX1⟩
 refine ⟨_, rfl, ?_⟩
 have hB1 : Below W0.drew.heap.size W0.drew X1 := by rw [← hX1]; exact (((Below.refl _ _).alloc (Nat.le_refl _) _).alloc (by simp) _).alloc (by simp; omega) _
 have sz1 : X1.heap.size = W0.drew.heap.size + 3 := by rw [← hX1]; simp
 have e1 : Boxed X1 (W0.drew.heap.size + 1) 40 (.slice A p.2.1.length c) := by
  rw [← hX1]; have := (Boxed.new (W0.drew.alloc (.cells #[.pointer (some ⟨G.X, 0, none⟩)] 93)) 40 (.slice A p.2.1.length c)).alloc (.cells #[.func (.func 76) #[] #[]] 80); simpa using this
 have e2 : Boxed X1 W0.drew.heap.size 93 (.pointer (some ⟨G.X, 0, none⟩)) := by
  rw [← hX1]; exact ((Boxed.new W0.drew _ _).alloc _).alloc _
 have e3 : Boxed X1 (W0.drew.heap.size + 1 + 1) 80 (.func (.func 76) #[] #[]) := by
  rw [← hX1]; have := Boxed.new ((W0.drew.alloc (.cells #[.pointer (some ⟨G.X, 0, none⟩)] 93)).alloc (.cells #[.slice A p.2.1.length c] 40)) 80 (.func (.func 76) #[] #[]); simpa using this
 have hF1 : Fs G em Ss X1 := (hF0.below (za4 (Below.refl _ _))).below hB1
 have hu1 : Below u.heap.size u X1 := (za4 hu0).trans (hB1.mono (za4 hu0).size)
 have hh1 := keep _ _ hB1 hHeld
 refine hK.out _ _ hh1 (fun _ => ?_)
 clear hK K hX1
 have hno : SeqH 1 Tryz.prog 76 #[] encX (zem X1.heap.size) (fun ys => ∀ x, x ∈ vals ys ↔ (fun _ => False) x) (fun _ => True) 0 X1 :=
  SeqH.of (none_stops 1 X1.heap.size [] 0 X1) (fun l A B h => h.1) (fun xs h => by subst h; intro x; simp [vals]) (fun _ _ => trivial)
 have hah := ahead_stops G em Ss X1 u A c p.2.1 (W0.drew.heap.size + 1) W0.drew.heap.size (W0.drew.heap.size + 1 + 1) 76 #[] (enters_of Tryz.func76 (by kernel_rfl) rfl) hF1 (zgz hBd (zi0 hF1)) hC hu1 e1 e2 e3 (fun _ => False) (fun _ => True) 0 hno
 refine Yok 12 16 16 8191 (fun K hK => ?_)
 refine Ygh Tryz.func74 #[.func (.func 89) #[] #[.pointer (some ⟨W0.drew.heap.size + 1, 0, none⟩), .pointer (some ⟨W0.drew.heap.size, 0, none⟩), .pointer (some ⟨W0.drew.heap.size + 1 + 1, 0, none⟩)]] ?_
 refine (zhp 89 _ (enters_of Tryz.func89 (by kernel_rfl) rfl) X1 _ _ _ (by omega) hah).mono ?_
 rintro e X2 ⟨v2, xs, rfl, hxs, hxl, ho2, hB2⟩
 refine ⟨_, rfl, ?_⟩
 have hh2 := keep _ _ hB2 hh1
 refine hK.out _ _ hh2 (fun _ => ?_)
 clear hK K
 obtain ⟨S0, hS0⟩ : ∃ S0 : World, S0 = X2 := ⟨_, rfl⟩
 have hA2 : zb3 b Sb X2 := ((hSA.keep rfl : zb3 b Sb W0.drew).keep (hB1.block b (by show b < W0.heap.size; omega))).keep (hB2.block b (by have := hB1.size; have : W0.drew.heap.size = W0.heap.size := rfl; omega))
 have hu2 := hu1.trans (hB2.mono hu1.size)
 have hSbl : Sb.length ≤ 1000000 := zgz hBd (zi0 hF1) Sb (List.mem_of_getElem? hSs)
 obtain ⟨Av, cv, rfl, hadd⟩ := addrow_calls X2 u v2 xs.length X1.heap.size xs b Sb hA2 ho2 (by have : W0.drew.heap.size = W0.heap.size := rfl; omega) hub' hu2 (by omega)
 refine Yok 13 17 16 16383 (fun K hK => ?_)
 refine Ygh Tryz.func73 #[.slice Av xs.length cv] ?_
 refine (ivals_calls Av xs.length cv X2).mono ?_
 rintro e X3 ⟨rfl, hX3⟩
 refine ⟨_, rfl, ?_⟩
 have hB3 : Below X2.heap.size X2 X3 := by rw [← hX3]; exact (Below.refl _ _).alloc (Nat.le_refl _) _
 have hh3 := keep _ _ hB3 hh2
 refine hK.out _ _ hh3 (fun _ => ?_)
 clear hK K
 rw [hX3] at hadd
 refine Ylk 14 18 16 32767 (fun K hK => ?_)
 refine Ygh Tryz.func72 #[.map (some b), .func (.func 87) #[] #[.pointer (some ⟨X2.heap.size, 0, none⟩)]] ?_
 refine hadd.mono ?_
 rintro e X4 ⟨rfl, hA4, ht4⟩
 refine ⟨_, rfl, ?_⟩
 refine hK.out _ _ ?_
 clear hK K
 refine Ypk 15 3 16 65535 ?_
 refine zbq (by kernel_rfl) ?_
 refine hK2 _ _ ?_
 clear hK2
 have hun : zbf Sb (vals xs) = zbf (Ss.getD p.1.toNat []) (ahV G.N em Ss p.2.1 []) := by
  rw [hgd]
  refine zfn (zcu _ hSA.1) (zcu _ hSA.1) (fun x => ?_)
  rw [zch, zch, ahV_mem, hxs x]
  simp
 rw [hun, hgd] at hA4
 rw [hgd] at hun
 go_wp2;go_ret
 refine ⟨?_, hA4, ?_⟩
 ·simp only [zcg, hgd]
  rfl
 ·have tz : Turn W.heap.size (fun k => k = b) W X2 := (Turn.below hB0).trans (Turn.drew.trans ((Turn.below hB1).trans (Turn.below hB2)))
  exact tz.trans (ht4.mono (by have := tz.size; omega) (fun _ h => h))
end Go.Proofs.ZZ.Begin
end
section
namespace Go.Proofs.ZZ.Begun
open Go Go.RowKit Go.Shelf Go.Maps Go.Proofs.ZW.PrintWords Go.Proofs.ZW.PrintLast Go.Proofs.ZZ.Round Go.Proofs.ZZ.RangeG Go.Proofs.ZZ.RangeH Go.Proofs.ZZ.Fl Go.Proofs.ZZ.Grow Go.Proofs.ZZ.Seqs Go.Proofs.ZZ.MSet Go.Proofs.ZZ.Add Go.Proofs.ZZ.Deri Go.Proofs.ZZ.Ahd Go.Proofs.ZZ.Begin
attribute [local go_sem] Oper.semAt_some
theorem append_ {ops : Array Oper} {Pr : Program} {Q : Exit → Act → World → Prop} {oi : Oper} {N : Option Tmp} {a : Act} {w : World} {K : Act → World → Prop} (hw : Region.wanted oi (yielded ops a.tmps) = true) (hN : oi.dst = N) (s x : Operand) (t : TypeId)
  (ho : oi.op = .call { callee := .builtin .append, args := #[s, x], argTypes := #[t, t] })
  (base : Nat) (e : TypeId) (i : TypeInfo) (z : Value) (size bytes : Nat) (ht : Pr.underlying t = some (.slice e)) (hi : Pr.info? e = some i) (hz : i.zero = some z)
  (hsize : i.size = size) (hby : i.bytes = bytes) (hzs : z.cells.size = size) (hsz : 0 < size)
  (v : Value) (n : Nat) (xs : List Value) (hs : a.eval s = v) (hown : w.ownsRow base e size v n xs)
  (ad : Addr) (m c : Nat) (news : List Value) (hx : a.eval x = .slice (some ad) m c) (hl : news.length = m * size) (hnews : ∀ j u, news[j]? = some u → w.cell? (ad.add j) = some u) (h1 : ∀ u ∈ news, u.oneCell' = true)
  (h63 : n + m ≤ maxLen) (hbytes : (n + m) * bytes ≤ 140737488355328) (hbase : base ≤ w.heap.size)
  (h : ∀ v' w', w'.ownsRow base e size v' (n + m) (xs ++ news) → w.grownBy w' v.ownBlock → K (a.put N v') w') : if Region.wanted oi (yielded ops a.tmps) = true then Oper.wp Pr oi a w K Q else K (a.put N undef) w := by
 obtain ⟨v', w', hr, h2, h3, h4, h5⟩ := run_append_own_at (P := Pr) w base t oi.type e i z size bytes ht hi hz hsize hby hzs hsz v n xs hown ad m c news hl hnews h1 h63 hbytes hbase
 refine zcm (w1 := w') (v := v') hw hN ?_ (h v' w' h2 h3)
 simp [execOp, ho, resolve, invoke, builtin, hs, hx, hr, Result.andThen]
theorem zi7 {W W' : World} {base : Nat} {e : TypeId} {size : Nat} {v : Value} {k : Nat} {xs : List Value} (h : W.ownsRow base e size v k xs) (hk : ∀ g cs, base ≤ g → W.heap[g]? = some (.cells cs e (0, 0)) → W'.heap[g]? = some (.cells cs e (0, 0))) : W'.ownsRow base e size v k xs := by
 refine ⟨h.1, ?_⟩
 rcases h.2 with h | ⟨g, cap, cur, h1, h2, h3, h4⟩
 ·exact .inl h
 ·exact .inr ⟨g, cap, cur, h1, h2, hk g cur h2 h3, h4⟩
theorem own_ne {W : World} {base : Nat} {e : TypeId} {size : Nat} {v : Value} {k : Nat} {xs : List Value} (h : W.ownsRow base e size v k xs) {j : Nat} {o : Obj} (hj : W.heap[j]? = some o) (hno : ∀ cur, o ≠ .cells cur e (0, 0)) : some j ≠ v.ownBlock := by
 intro e'
 rcases h.2 with ⟨rfl, _⟩ | ⟨g, cap, cur, rfl, hb, hh, _⟩
 ·simp [Value.ownBlock] at e'
 ·obtain rfl : j = g := by simpa [Value.ownBlock] using e'
  rw [hh] at hj
  cases hj
  exact hno cur rfl
def zcq (N n0 : Nat) : List (List Int) := (List.range N).map fun i => if i < n0 then [(i : Int)] else []
theorem infoS : (Tryz.prog.info? 103).map (fun i => (i.zero, i.size, i.bytes)) = some (some (.map none), 1, 8) := by kernel_rfl
theorem wf_n {j : Nat} (h : j ≤ 1000000000000) : (Lit.int .i64 (j : Int)).wf = true := by
 simp [Lit.wf, IntKind.min, IntKind.max, IntKind.signed, IntKind.bits]
 omega
theorem Fs.low {G : Geo} {em : List Bool} {Ss : List (List Int)} {L : Nat} {W W' : World} (h : Fs G em Ss W) (h1 : G.X < L) (h2 : G.ge < L) (h3 : G.gr < L) (h4 : ∀ b ∈ G.bs, b < L) (ht : Turn L (fun k => L ≤ k) W W') : Fs G em Ss W' := by
 obtain ⟨cs, r1, r2⟩ := h.row
 exact ⟨ht.same _ _ h.blk (by omega) (.inr rfl), h.nn, h.few, h.eml, ht.same _ _ h.emb (by omega) (.inr rfl), ⟨cs, ht.same _ _ r1 (by omega) (.inr rfl), r2⟩, h.bsl, h.ssl, fun i b S hb hS => (h.sets i b S hb hS).turn ht (by have := h4 b (List.mem_of_getElem? hb); omega) (h4 b (List.mem_of_getElem? hb))⟩
theorem zh5 (N : Nat) (em : List Bool) (Ss : List (List Int)) (B : List Int) (x : Int) : ∀ l : List I, x ∈ ahV N em Ss l B → x ∈ B ∨ ∃ S ∈ Ss, x ∈ S
 | [], h => .inl h
 | i :: t, h => by
  have hs : x ∈ Ss.getD i.1.toNat [] → ∃ S ∈ Ss, x ∈ S := fun h => by
   rw [List.getD_eq_getElem?_getD] at h
   cases e : Ss[i.1.toNat]? with
   | none => rw [e] at h; exact nomatch h
   | some S => rw [e] at h; exact ⟨S, List.mem_of_getElem? e, h⟩
  simp only [ahV] at h
  split at h
  ·split at h
   ·rcases (zch x _ _).1 h with h | h
    ·exact .inr (hs h)
    ·exact zh5 N em Ss B x t h
   ·exact .inr (hs h)
  ·exact zh5 N em Ss B x t h
theorem stepF_bd {N : Nat} {em : List Bool} {Ss : List (List Int)} {p : P} (h : Bd Ss) : Bd (zcg N em Ss p).1 := by
 intro S hS x hx
 rcases List.mem_or_eq_of_mem_set hS with hS | rfl
 ·exact h S hS x hx
 ·rcases (zch x _ _).1 hx with hx | hx
  ·rcases zh5 N em Ss [] x _ hx with hx | ⟨S, hS, hx⟩
   ·exact nomatch hx
   ·exact h S hS x hx
  ·rw [List.getD_eq_getElem?_getD] at hx
   cases e : Ss[p.1.toNat]? with
   | none => rw [e] at hx; exact nomatch hx
   | some S => rw [e] at hx; exact h S (List.mem_of_getElem? e) x hx
theorem Fs.step {G : Geo} {em : List Bool} {Ss : List (List Int)} {W W' : World} {q b : Nat} {S : List Int} (h : Fs G em Ss W) (hn : G.bs.Nodup) (hb : G.bs[q]? = some b) (hS : zb3 b S W') (ht : Turn W.heap.size (fun k => k = b) W W') : Fs G em (Ss.set q S) W' := by
 obtain ⟨cs, r1, r2⟩ := h.row
 obtain ⟨b', S', e1, e2, hA, _⟩ := h.bm q (by have := (List.getElem?_eq_some_iff.1 hb).1; rw [h.bsl] at this; exact this)
 rw [hb] at e1
 cases e1
 obtain ⟨o, ho, hc, _⟩ := hA.block
 have hne : ∀ (k : Nat) (cs : Array Value) (t : TypeId) (fr : Nat × Nat), W.heap[k]? = some (.cells cs t fr) → k ≠ b := by
  rintro k cs t fr hk rfl
  rw [ho] at hk
  cases hk
  cases hc
 refine ⟨ht.same _ _ h.blk (hne _ _ _ _ h.blk) (.inr rfl), h.nn, h.few, h.eml, ht.same _ _ h.emb (hne _ _ _ _ h.emb) (.inr rfl), ⟨cs, ht.same _ _ r1 (hne _ _ _ _ r1) (.inr rfl), r2⟩, h.bsl, by rw [List.length_set]; exact h.ssl, fun i b1 S1 hb1 hS1 => ?_⟩
 by_cases e : q = i
 ·subst e
  rw [hb] at hb1
  cases hb1
  rw [List.getElem?_set_self (by rw [h.ssl, ← h.bsl]; exact (List.getElem?_eq_some_iff.1 hb).1)] at hS1
  cases hS1
  exact hS
 ·rw [List.getElem?_set_ne e] at hS1
  have h1 := h.sets i b1 S1 hb1 hS1
  refine h1.turn ht (fun e' => ?_) h1.lt
  subst e'
  obtain ⟨l1, l2⟩ := List.getElem?_eq_some_iff.1 hb
  obtain ⟨l3, l4⟩ := List.getElem?_eq_some_iff.1 hb1
  exact e ((List.getElem_inj hn).1 (l2.trans l4.symm))
theorem zgl (N n0 : Nat) : (zcq N n0).length = N := by simp [zcq]
theorem zfj {N n0 q : Nat} {S : List Int} (h : (zcq N n0)[q]? = some S) : S = if q < n0 then [(q : Int)] else [] := by
 obtain ⟨h1, h2⟩ := List.getElem?_eq_some_iff.1 h
 rw [← h2]
 simp [zcq]
theorem zi2 {N n0 : Nat} (hN : N ≤ 1000000) : Bd (zcq N n0) := by
 intro S hS x hx
 obtain ⟨q, hq, e⟩ := List.mem_iff_getElem.1 hS
 have := zfj (S := S) (by rw [List.getElem?_eq_getElem hq, e])
 rw [zgl] at hq
 subst this
 split at hx
 ·rw [List.mem_singleton] at hx; omega
 ·exact nomatch hx
structure Lp (f N n0 j : Nat) (bs : List Nat) (v : Value) (a0 a1 a2 : Value) (em : List Bool) (BX X ge : Nat) (W : World) : Prop where
 len : bs.length = j
 nod : bs.Nodup
 far : ∀ b ∈ bs, f < b
 sets : ∀ (q b : Nat), bs[q]? = some b → zb3 b (if q < n0 then [(q : Int)] else []) W
 own : W.ownsRow (f + 1) 103 1 v j (bs.map fun b => Value.map (some b))
 hb : Boxed W BX 93 (.pointer (some ⟨X, 0, none⟩))
 hx : W.heap[X]? = some (.cells #[a0, a1, a2, .slice (some ⟨ge, 0, none⟩) N N, v] 92 (0, 0))
 hg : W.heap[ge]? = some (.cells (em.map Value.bool).toArray TB (0, 0))
 hf : W.heap[f]? = some (.cells #[a0, a1, a2] TF (0, 0))
theorem Lp.below {f N n0 j : Nat} {bs : List Nat} {v a0 a1 a2 : Value} {em : List Bool} {BX X ge : Nat} {W W' : World} (h : Lp f N n0 j bs v a0 a1 a2 em BX X ge W) (hb : Below W.heap.size W W') : Lp f N n0 j bs v a0 a1 a2 em BX X ge W' :=
 ⟨h.len, h.nod, h.far, fun q b hq => (h.sets q b hq).keep (hb.block b (h.sets q b hq).lt), zi7 h.own (fun g cs _ hg => zat hg hb), zat h.hb hb, zat h.hx hb, zat h.hg hb, zat h.hf hb⟩
theorem begin_calls (w : World) (A0 A1 A2 : Option Addr) (n0 n1 c0 c1 c2 N : Nat) (hNe : n0 + n1 = N) (hN1 : 1 ≤ N) (ps : List P) (hC : Kd.C kP w A2 ps.length ps) (hN : N ≤ 1000000) (hps : ∀ p ∈ ps, PrOk N p ∧ p.2.1.length ≤ 1000) (k0 k : Nat) (em : List Bool) (hem : zb2 zb7 ps k0 (List.replicate N false) = some em) (k1 : Nat) (Ss : List (List Int)) (hSs : zb2 (zcg N em) ps k1 (zcq N n0) = some Ss) :
  Calls Tryz.prog 57 #[.agg #[.slice A0 n0 c0, .slice A1 n1 c1, .slice A2 ps.length c2]] w fun e W' => ∃ G : Geo, e = .returned (.pointer (some ⟨G.X, 0, none⟩)) ∧ G.N = N ∧ Fs G em Ss W' ∧ Bd Ss ∧ Below w.heap.size w W' := by
 obtain ⟨W0, hW0⟩ : ∃ W0, w.alloc (.cells #[.slice A0 n0 c0, .slice A1 n1 c1, .slice A2 ps.length c2] TF) = W0 := ⟨_, rfl⟩
 have hB0 : Below w.heap.size w W0 := by rw [← hW0]; exact (Below.refl _ _).alloc (Nat.le_refl _) _
 have sz0 : W0.heap.size = w.heap.size + 1 := by rw [← hW0]; simp
 have f0 : W0.heap[w.heap.size]? = some (.cells #[.slice A0 n0 c0, .slice A1 n1 c1, .slice A2 ps.length c2] TF (0, 0)) := by rw [← hW0]; exact za9 w _
 have hHeld : W0.drew.cell? ⟨w.heap.size, 0, none⟩ = some (.slice A0 n0 c0) ∧ W0.drew.cell? ⟨w.heap.size, 1, none⟩ = some (.slice A1 n1 c1) ∧ W0.drew.cell? ⟨w.heap.size, 2, none⟩ = some (.slice A2 ps.length c2) := ⟨zab f0 0, zab f0 1, zab f0 2⟩
 have keep : ∀ X Y : World, Below X.heap.size X Y → (fun X => X.cell? ⟨w.heap.size, 0, none⟩ = some (.slice A0 n0 c0) ∧ X.cell? ⟨w.heap.size, 1, none⟩ = some (.slice A1 n1 c1) ∧ X.cell? ⟨w.heap.size, 2, none⟩ = some (.slice A2 ps.length c2)) X → (fun X => X.cell? ⟨w.heap.size, 0, none⟩ = some (.slice A0 n0 c0) ∧ X.cell? ⟨w.heap.size, 1, none⟩ = some (.slice A1 n1 c1) ∧ X.cell? ⟨w.heap.size, 2, none⟩ = some (.slice A2 ps.length c2)) Y := fun X Y h hh => ⟨zad h hh.1, zad h hh.2.1, zad h hh.2.2⟩
 have hs := fun W => zhn A0 A1 A2 n0 n1 ps.length c0 c1 c2 W (by rw [hNe]; exact hN)
 rw [hNe] at hs
 have hemp := fun W (hC : Kd.C kP W A2 ps.length ps) => zii W A0 A1 A2 n0 n1 c0 c1 c2 N hNe ps hC hN (fun p hp => (hps p hp).1) k0 em hem
 go_enter Tryz.func57, Tryz.ntmps57
 go_wp2
 rename_i K1 hK2
 have rest : ∀ (W1 : World) (BX X ge : Nat), w.heap.size < BX → w.heap.size < X → w.heap.size < ge → BX ≠ X → ge ≠ X → ge ≠ BX → Boxed W1 BX 93 (.pointer (some ⟨X, 0, none⟩)) → W1.heap[X]? = some (.cells #[.slice A0 n0 c0, .slice A1 n1 c1, .slice A2 ps.length c2, .slice (some ⟨ge, 0, none⟩) N N, .slice none 0 0] 92 (0, 0)) →
   em.length = N → W1.heap[ge]? = some (.cells (em.map Value.bool).toArray TB (0, 0)) → W1.heap[w.heap.size]? = some (.cells #[.slice A0 n0 c0, .slice A1 n1 c1, .slice A2 ps.length c2] TF (0, 0)) → Below w.heap.size w W1 →
   K1 (Act.mk #[.agg #[.slice A0 n0 c0, .slice A1 n1 c1, .slice A2 ps.length c2], .pointer (some ⟨w.heap.size, 0, none⟩), .pointer none, .pointer (some ⟨BX, 0, none⟩), undef, .agg #[.slice A0 n0 c0, .slice A1 n1 c1, .slice A2 ps.length c2], .agg #[.slice A0 n0 c0, .slice A1 n1 c1, .slice A2 ps.length c2], .slice (some ⟨ge, 0, none⟩) N N, .agg #[.slice A0 n0 c0, .slice A1 n1 c1, .slice A2 ps.length c2, .slice (some ⟨ge, 0, none⟩) N N, .slice none 0 0], .pointer (some ⟨X, 0, none⟩), undef, undef, undef, undef, undef, undef, undef, undef, undef, undef, undef, undef, undef, undef, undef, undef, undef, undef, undef, undef, undef, undef, undef, undef, undef, undef, undef, undef, undef, undef, undef, undef, undef] []) W1 := by
  intro W1 BX X ge hBX hX hge hXn hgX hgB hb hx heml hg hf hB
  refine hK2 _ _ ?_
  clear hK2
  refine (wpIn_wide (n := 4)).1 ?_
  have cf0 : W1.cell? ⟨w.heap.size, 0, none⟩ = some (.slice A0 n0 c0) := zab hf 0
  have cf1 : W1.cell? ⟨w.heap.size, 1, none⟩ = some (.slice A1 n1 c1) := zab hf 1
  have cf2 : W1.cell? ⟨w.heap.size, 2, none⟩ = some (.slice A2 ps.length c2) := zab hf 2
  have hfN : Fence.wide.fn 59 := trivial
  gi_wp2_with (gi_at_call 59; refine (callsIn_wide.2 (hs _)).mono ?_; rintro e W2 ⟨rfl, hB2⟩)
  have hb2 : Boxed W2 BX 93 (.pointer (some ⟨X, 0, none⟩)) := zat hb hB2
  have hx2 := zat hx hB2
  have hg2 := zat hg hB2
  have hf2 := zat hf hB2
  have hBz := hB.trans (hB2.mono hB.size)
  clear hb hx hg hf hB cf0 cf1 cf2 hs hB2
  gi_loopw [12] (fun i wr => ∃ (j : Nat) (v : Value) (bs : List Nat), i = .int .i64 (j : Int) ∧ j ≤ N ∧ Lp w.heap.size N n0 j bs v (.slice A0 n0 c0) (.slice A1 n1 c1) (.slice A2 ps.length c2) em BX X ge wr ∧ Below w.heap.size w wr) (fun i _ => N - (Go.RowKit.intOf i).toNat)
  case atStart => exact ⟨0, .slice none 0 0, [], rfl, Nat.zero_le _, ⟨rfl, List.nodup_nil, fun _ h => (nomatch h), fun q b h => by simp at h, ⟨rfl, .inl ⟨rfl, rfl⟩⟩, hb2, hx2, hg2, hf2⟩, hBz⟩
  case round =>
   obtain ⟨j, v, bs, rfl, hj, hL, hbz⟩ := hrel
   by_cases hlt : j < N
   ·gi_wp2
    rename_i Kr hKr
    have hHeld : wr.drew.cell? ⟨BX, 0, none⟩ = some (.pointer (some ⟨X, 0, none⟩)) ∧ wr.drew.cell? ⟨X, 4, none⟩ = some v := ⟨hL.hb.cell, zab hL.hx 4⟩
    have keep2 : ∀ A B : World, Below A.heap.size A B → (fun Y => Y.cell? ⟨BX, 0, none⟩ = some (.pointer (some ⟨X, 0, none⟩)) ∧ Y.cell? ⟨X, 4, none⟩ = some v) A → (fun Y => Y.cell? ⟨BX, 0, none⟩ = some (.pointer (some ⟨X, 0, none⟩)) ∧ Y.cell? ⟨X, 4, none⟩ = some v) B := fun A B h hh => ⟨zad h hh.1, zad h hh.2⟩
    have hX1 := zbk hL.hx
    have hBX1 : BX < wr.heap.size := zbk hL.hb
    refine wpIn_wide.2 (zcy (zbl (S := fun Y => Y.cell? ⟨BX, 0, none⟩ = some (.pointer (some ⟨X, 0, none⟩)) ∧ Y.cell? ⟨X, 4, none⟩ = some v) (ds := [10]) (Ymk 11 0) (by kernel_rfl) rfl rfl hHeld (fun _ => ?_)))
    refine Ytk 0 15 11 1 hHeld ?_
    refine Ytk 1 16 11 3 hHeld ?_
    refine Ypk 2 17 11 7 ?_
    refine Ypk 3 18 11 15 ?_
    refine Ytk 4 19 11 31 hHeld ?_
    refine Yok 5 20 11 63 (fun K hK => ?_)
    refine zcm (w1 := wr.drew.alloc (.map #[] 0)) (v := .map (some wr.heap.size)) (by rfl) rfl ?_ ?_
    ·go_simp
     rw [run_makeMap]
     rfl
    have hh1 := keep2 wr.drew (wr.drew.alloc (.map #[] 0)) ((Below.refl _ _).alloc (Nat.le_refl _) _) hHeld
    refine hK.out _ _ hh1 (fun _ => ?_)
    clear hK K
    refine Ynm 20 ?_
    refine Yok 6 21 11 127 (fun K hK => ?_)
    refine zcm (w1 := (wr.drew.alloc (.map #[] 0)).alloc (.cells #[.map (some wr.heap.size)] 103)) (v := .slice (some ⟨wr.heap.size + 1, 0, none⟩) 1 1) (by rfl) rfl ?_ ?_
    ·go_simp
    have hh2 := keep2 (wr.drew.alloc (.map #[] 0)) ((wr.drew.alloc (.map #[] 0)).alloc (.cells #[.map (some wr.heap.size)] 103)) ((Below.refl _ _).alloc (Nat.le_refl _) _) hh1
    refine hK.out _ _ hh2 (fun _ => ?_)
    clear hK K
    refine Ynm 21 ?_
    refine Yok 7 22 11 255 (fun K hK => ?_)
    obtain ⟨W5, hW5⟩ : ∃ W5, (wr.drew.alloc (.map #[] 0)).alloc (.cells #[.map (some wr.heap.size)] 103) = W5 := ⟨_, rfl⟩
    have hB5 : Below wr.heap.size wr W5 := by rw [← hW5]; exact ((za4 (Below.refl _ wr)).alloc (Nat.le_refl _) _).alloc (by simp) _
    have hm5 : zb3 wr.heap.size [] W5 := by rw [← hW5]; exact (zb3.new wr.drew).keep (Below.heap_alloc _ _ _ (by simp))
    have hr5 : W5.heap[wr.heap.size + 1]? = some (.cells #[.map (some wr.heap.size)] 103 (0, 0)) := by rw [← hW5]; have := za9 (wr.drew.alloc (.map #[] 0)) (.cells #[.map (some wr.heap.size)] 103); simpa using this
    have sz5 : W5.heap.size = wr.heap.size + 2 := by rw [← hW5]; simp
    rw [hW5] at hh2
    rw [hW5]
    have hL5 := hL.below hB5
    obtain ⟨i0, hi, hz0, hz1, hz2⟩ := info_parts infoS
    have hXr : some X ≠ v.ownBlock := own_ne hL5.own hL5.hx (fun cur e => by cases e)
    have hBr : some BX ≠ v.ownBlock := own_ne hL5.own hL5.hb (fun cur e => by cases e)
    have hgr : some ge ≠ v.ownBlock := own_ne hL5.own hL5.hg (fun cur e => by cases e)
    have hfr : some w.heap.size ≠ v.ownBlock := own_ne hL5.own hL5.hf (fun cur e => by cases e)
    have hsr : ∀ b S, zb3 b S W5 → some b ≠ v.ownBlock := fun b S h => by obtain ⟨o, ho, hc, _⟩ := h.block; exact own_ne hL5.own ho (fun cur e => by subst e; cases hc)
    refine append_ (by rfl) rfl (.tmp 19) (.tmp 21) 90 rfl (w.heap.size + 1) 103 i0 (.map none) 1 8 Tryz.underlying90 hi hz0 hz1 hz2 rfl (by omega) v j _ rfl hL5.own ⟨wr.heap.size + 1, 0, none⟩ 1 1 [.map (some wr.heap.size)] rfl rfl ?_ ?_ (by have : maxLen = 9223372036854775807 := rfl; omega) (by omega) (by omega) (fun v' W6 hown hgrow => ?_)
    ·intro q u hq
     rw [List.getElem?_singleton] at hq
     split at hq
     ·rename_i h0; subst h0; cases hq; exact zab hr5 0
     ·cases hq
    ·intro u hu
     rw [List.mem_singleton] at hu
     subst hu
     rfl
    obtain ⟨A6, c6, hv6⟩ : ∃ A c, v' = .slice A (j + 1) c := by
     rcases hown.2 with ⟨_, h0⟩ | ⟨g, cap, cur, h0, _⟩
     ·omega
     ·exact ⟨_, _, h0⟩
    subst hv6
    have hx6 := zcc hL5.hx hgrow hXr
    have hb6 : Boxed W6 BX 93 (.pointer (some ⟨X, 0, none⟩)) := zcc hL5.hb hgrow hBr
    refine hK.out _ _ ⟨hb6.cell, zab hx6 4⟩ (fun _ => ?_)
    clear hK K
    refine Ynm 22 ?_
    refine Ypk 8 23 11 511 ?_
    refine Ypk 9 24 11 1023 ?_
    have x6c := zab hx6 4
    have x6f := zdi hx6 4
    have x6s := zg0 hx6 4 (.slice A6 (j + 1) c6)
    refine zfv (i := 10) (N := none) (Ymk 11 2047) rfl rfl (by kernel_rfl) (by decide) (fun K hK => ?_)
    refine skip_ (w1 := W6.setCell ⟨X, 4, none⟩ (.slice A6 (j + 1) c6)) (by rfl) rfl ?_ ?_
    ·go_simp
    refine hK.out _ _ ?_
    clear hK K
    refine zbq (by kernel_rfl) ?_
    refine hKr _ _ ?_
    clear hKr
    have hXne : ∀ g cs, W6.heap[g]? = some (.cells cs 103 (0, 0)) → g ≠ X := fun g cs hg => blk_ne hg hx6 (by decide)
    have hobs : ∀ g, v.ownBlock = some g → w.heap.size + 1 ≤ g := by
     intro g hg
     rcases hL5.own.2 with ⟨rfl, _⟩ | ⟨g', cap, cur, rfl, hb, _⟩
     ·simp [Value.ownBlock] at hg
     ·obtain rfl : g' = g := by simpa [Value.ownBlock] using hg
      exact hb
    obtain ⟨W7, hW7⟩ : ∃ W7, W6.setCell ⟨X, 4, none⟩ (.slice A6 (j + 1) c6) = W7 := ⟨_, rfl⟩
    have k7 : ∀ g, g ≠ X → W7.heap[g]? = W6.heap[g]? := fun g hg => by rw [← hW7]; exact Below.heap_setCell _ _ _ _ hg
    have hown7 : W7.ownsRow (w.heap.size + 1) 103 1 (.slice A6 (j + 1) c6) (j + 1) ((bs ++ [wr.heap.size]).map fun b => Value.map (some b)) := by
     rw [List.map_append]
     exact zi7 hown (fun g cs _ hg => (k7 g (hXne g cs hg)).trans hg)
    have hx7 : W7.heap[X]? = some (.cells #[.slice A0 n0 c0, .slice A1 n1 c1, .slice A2 ps.length c2, .slice (some ⟨ge, 0, none⟩) N N, .slice A6 (j + 1) c6] 92 (0, 0)) := by rw [← hW7]; exact zbu hx6 4 _ rfl
    have hb7 : Boxed W7 BX 93 (.pointer (some ⟨X, 0, none⟩)) := (k7 BX hXn).trans hb6
    have hg7 := (k7 ge hgX).trans (zcc hL5.hg hgrow hgr)
    have hf7 := (k7 w.heap.size (by omega)).trans (zcc hL5.hf hgrow hfr)
    have ks : ∀ b S, zb3 b S W5 → zb3 b S W7 := fun b S h => by
     refine h.keep ((k7 b ?_).trans (hgrow.block b h.lt (hsr b S h)))
     rintro rfl
     obtain ⟨o, ho, hc, _⟩ := h.block
     rw [hL5.hx] at ho
     cases ho
     cases hc
    have hm7 := ks _ _ hm5
    have hwz7 : Below w.heap.size w W7 := by
     have h1 := hbz.trans (hB5.mono hbz.size)
     have h2 := h1.grown hgrow (h1.size) (fun g hg => by have := hobs g hg; omega)
     rw [← hW7]
     exact h2.setCell (p := ⟨X, 4, none⟩) (by show w.heap.size ≤ X; omega) _
    have sz7 : W5.heap.size ≤ W7.heap.size := by rw [← hW7]; have := hgrow.size; simpa using this
    have hmn : wr.heap.size ∉ bs := fun h => by obtain ⟨q, hq, e⟩ := List.mem_iff_getElem.1 h; have := (hL.sets q _ (by rw [List.getElem?_eq_getElem hq])).lt; omega
    have hst : ∀ q b, bs[q]? = some b → zb3 b (if q < n0 then [(q : Int)] else []) W7 := fun q b hq => ks _ _ (hL5.sets q b hq)
    have hlen := hL.len
    have hnod := hL.nod
    have hfar := hL.far
    have hwz := hbz.size
    rw [hW7]
    clear hW7 k7 ks hL hL5 hown hgrow hx6 hb6 x6c x6f x6s hXr hBr hgr hfr hsr hm5 hr5 hB5 hobs hXne hbz hx2 hb2 hg2 hf2 hBz hHeld keep2 hh1 hh2
    have cB7 := hb7.cell
    have cX7 : W7.cell? ⟨X, 4, none⟩ = some (.slice A6 (j + 1) c6) := zab hx7 4
    have cf7 : W7.cell? ⟨w.heap.size, 0, none⟩ = some (.slice A0 n0 c0) := zab hf7 0
    have hnod' : (bs ++ [wr.heap.size]).Nodup := by
     rw [List.nodup_append]
     refine ⟨hnod, by simp, fun a ha b hb => ?_⟩
     rw [List.mem_singleton] at hb
     subst hb
     exact fun e => hmn (e ▸ ha)
    have hfar' : ∀ b ∈ bs ++ [wr.heap.size], w.heap.size < b := fun b hb => by
     rcases List.mem_append.1 hb with hb | hb
     ·exact hfar b hb
     ·rw [List.mem_singleton] at hb; omega
    by_cases hT : j < n0
    ·obtain ⟨g6, hA6, h6⟩ : ∃ g6, A6 = some ⟨g6, 0, none⟩ ∧ W7.cell? ⟨g6, j, none⟩ = some (.map (some wr.heap.size)) := by
      rcases hown7.2 with ⟨_, h0⟩ | ⟨g, cap, cur, h0, _, hh, _, _, _, htk⟩
      ·omega
      ·cases h0
       refine ⟨g, rfl, ?_⟩
       rw [zab hh j]
       have : (cur.toList.take ((j + 1) * 1))[j]? = some (.map (some wr.heap.size)) := by
        rw [htk, List.map_append, List.getElem?_append_right (by simp; omega)]
        simp [hlen]
       rwa [List.getElem?_take_of_lt (by omega), Array.getElem?_toList] at this
     subst hA6
     obtain ⟨q1, q2, D', hown', hsz', hhas'⟩ := hm7
     gi_wp2_with (first
      | (gi_at_mapUpdate; (refine wpListIn_mapUpdate_own _ rfl _ _ _ 103 rfl TI TB law Tryz.underlying103 _ wr.heap.size _ _ rfl hown' (by simp [maxLen]) _ _ _ rfl rfl (Maps.keyOf_int_mk Tryz.underlying3 (wf_n (by omega))) _ [] (plainElem_bool Tryz.underlying4 true) ?_); intro W8 hown8 hgrow8)
      | gi_in)
     have hq8 : zb3 wr.heap.size [(j : Int)] W8 := zb3.put q1 q2 hsz' hhas' hown' (j : Int) (wf_n (by omega)) hown8
     have k8 : ∀ g, g < W7.heap.size → g ≠ wr.heap.size → W8.heap[g]? = W7.heap[g]? := fun g hg hne => hgrow8.block g hg (fun e => by cases e; exact hne rfl)
     have kc : ∀ (g : Nat) (cs : Array Value) (t : TypeId), W7.heap[g]? = some (.cells cs t (0, 0)) → W8.heap[g]? = some (.cells cs t (0, 0)) := fun g cs t hg => zcc hg hgrow8 (fun e => by
      cases e
      obtain ⟨o, ho, hc, _⟩ := zb3.block (S := []) ⟨q1, q2, D', hown', hsz', hhas'⟩
      rw [hg] at ho
      cases ho
      cases hc)
     go_roundw
     case rel =>
      refine ⟨j + 1, _, bs ++ [wr.heap.size], by go_num, by omega, ⟨by simp [hlen], hnod', hfar', fun q b hq => ?_, zi7 hown7 (fun g cs _ hg => kc g cs _ hg), kc _ _ _ hb7, kc _ _ _ hx7, kc _ _ _ hg7, kc _ _ _ hf7⟩, hwz7.grown hgrow8 hwz7.size (fun k e => by cases e; omega)⟩
      by_cases hq' : q < bs.length
      ·rw [List.getElem?_append_left hq'] at hq
       have h1 := hst q b hq
       exact h1.keep (k8 b h1.lt (fun e => hmn (e ▸ List.mem_of_getElem? hq)))
      ·rw [List.getElem?_append_right (by omega)] at hq
       obtain rfl : q = j := by have := (List.getElem?_eq_some_iff.1 hq).1; simp at this; omega
       rw [hlen, Nat.sub_self] at hq
       cases hq
       rw [if_pos hT]
       exact hq8
     case measure => simp [Go.RowKit.intOf]; omega
    ·gi_wp2
     go_roundw
     case rel =>
      refine ⟨j + 1, _, bs ++ [wr.heap.size], by go_num, by omega, ⟨by simp [hlen], hnod', hfar', fun q b hq => ?_, hown7, hb7, hx7, hg7, hf7⟩, hwz7⟩
      by_cases hq' : q < bs.length
      ·rw [List.getElem?_append_left hq'] at hq
       exact hst q b hq
      ·rw [List.getElem?_append_right (by omega)] at hq
       obtain rfl : q = j := by have := (List.getElem?_eq_some_iff.1 hq).1; simp at this; omega
       rw [hlen, Nat.sub_self] at hq
       cases hq
       rw [if_neg hT]
       exact hm7
     case measure => simp [Go.RowKit.intOf]; omega
   ·obtain rfl : j = N := by omega
    obtain ⟨gr, cap, cur, hv, hgr, hgrh, htk⟩ : ∃ gr cap cur, v = .slice (some ⟨gr, 0, none⟩) j cap ∧ w.heap.size + 1 ≤ gr ∧ wr.heap[gr]? = some (.cells cur 103 (0, 0)) ∧ cur.toList.take (j * 1) = bs.map fun b => Value.map (some b) := by
     rcases hL.own.2 with ⟨_, h0⟩ | ⟨g, cap, cur, h0, h1, h2, _, _, _, h6⟩
     ·omega
     ·exact ⟨g, cap, cur, h0, h1, h2, h6⟩
    subst hv
    obtain ⟨G, hG⟩ : ∃ G : Geo, G = ⟨X, ge, gr, j, n0, n1, ps.length, c0, c1, c2, cap, A0, A1, A2, bs⟩ := ⟨_, rfl⟩
    have hF0 : Fs G em (zcq j n0) wr := by
     rw [hG]
     refine ⟨hL.hx, hNe, hN, heml, hL.hg, ⟨cur, hgrh, fun i b hb => ?_⟩, hL.len, zgl _ _, fun q b S hb hS => ?_⟩
     ·have hi : i < bs.length := (List.getElem?_eq_some_iff.1 hb).1
      have hi' := hL.len
      have : (cur.toList.take (j * 1))[i]? = some (.map (some b)) := by rw [htk, List.getElem?_map, hb]; rfl
      rwa [List.getElem?_take_of_lt (by omega), Array.getElem?_toList] at this
     ·rw [zfj hS]
      exact hL.sets q b hb
    have hnod : G.bs.Nodup := by rw [hG]; exact hL.nod
    have hGX : G.X = X := by rw [hG]
    have hGN : G.N = j := by rw [hG]
    have hbw : ∀ b ∈ G.bs, w.heap.size ≤ b ∧ b < wr.heap.size := fun b hb => by
     rw [hG] at hb
     obtain ⟨q, hq, e⟩ := List.mem_iff_getElem.1 hb
     exact ⟨by have := hL.far b hb; omega, (hL.sets q b (by rw [List.getElem?_eq_getElem hq, e])).lt⟩
    have l1 : G.X < wr.heap.size := by rw [hG]; exact zbk hL.hx
    have l2 : G.ge < wr.heap.size := by rw [hG]; exact zbk hL.hg
    have l3 : G.gr < wr.heap.size := by rw [hG]; exact zbk hgrh
    have l4 : BX < wr.heap.size := zbk hL.hb
    have hgrw := zjh 71 #[.pointer (some ⟨BX, 0, none⟩)] (enters_of Tryz.func71 (by kernel_rfl) rfl) w wr A0 A1 A2 n0 n1 c0 c1 c2 ps (· ∈ G.bs) hbw hbz hC
     (fun Ss W => Fs G em Ss W ∧ Boxed W BX 93 (.pointer (some ⟨G.X, 0, none⟩)) ∧ Bd Ss)
     (fun s W W' ht hR => ⟨Fs.low hR.1 l1 l2 l3 (fun b hb => (hbw b hb).2) ht, ht.same _ _ hR.2.1 (by omega) (.inr rfl), hR.2.2⟩) (zcg j em)
     (fun x s W hsz hb hR => by
      have hx := hps _ x.2.2.2
      refine (zga G em s BX w W x.p x.1.2.1 x.1.2.2 hR.1 hR.2.2 hR.2.1 (by rw [hGN]; exact hx.1) x.2.1 hx.2 x.2.2.1 hb (fun b hb => (hbw b hb).1)).mono ?_
      rintro e W' ⟨b, e1, rfl, e3, e4⟩
      have hnb : b ∈ G.bs := List.mem_of_getElem? e1
      rw [hGN] at e3 ⊢
      refine ⟨rfl, ⟨Fs.step hR.1 hnod e1 e3 e4, ?_, stepF_bd hR.2.2⟩, e4.mono (Nat.le_refl _) (fun k h => h ▸ hnb)⟩
      refine e4.same _ _ hR.2.1 (fun e' => ?_) (.inr rfl)
      obtain ⟨b', S', q1, q2, q3, _⟩ := hR.1.bm x.p.1.toNat (by have := (List.getElem?_eq_some_iff.1 e1).1; rw [hR.1.bsl] at this; exact this)
      rw [e1] at q1
      cases q1
      obtain ⟨o, ho, hc, _⟩ := q3.block
      have hbx : W.heap[BX]? = _ := hR.2.1
      rw [e', ho] at hbx
      cases hbx
      cases hc) k1 (zcq j n0) Ss ⟨hF0, by rw [hGX]; exact hL.hb, zi2 hN⟩ hSs
    have cf0 : wr.cell? ⟨w.heap.size, 0, none⟩ = some (.slice A0 n0 c0) := zab hL.hf 0
    have cf1 : wr.cell? ⟨w.heap.size, 1, none⟩ = some (.slice A1 n1 c1) := zab hL.hf 1
    have cf2 : wr.cell? ⟨w.heap.size, 2, none⟩ = some (.slice A2 ps.length c2) := zab hL.hf 2
    have hfN : Fence.wide.fn 70 := trivial
    clear hF0 hgrh htk hL hb2 hx2 hg2 hf2 hemp hSs hem
    gi_wp2_with (gi_at_call 70; refine (callsIn_wide.2 hgrw).mono ?_; rintro e W9 ⟨rfl, ⟨hF9, hX9, hBd9⟩, ht9⟩; have cX9 := hX9.cell)
    refine bodyPost_ret (results_tmp rfl _ _ _) rfl ?_
    exact ⟨G, by rw [hGX]; rfl, hGN, hF9, hBd9, zcn hbz ht9 (Nat.le_refl _) hbz.size (fun k hk => (hbw k hk).1)⟩
 refine zcy (zbl (S := fun X => X.cell? ⟨w.heap.size, 0, none⟩ = some (.slice A0 n0 c0) ∧ X.cell? ⟨w.heap.size, 1, none⟩ = some (.slice A1 n1 c1) ∧ X.cell? ⟨w.heap.size, 2, none⟩ = some (.slice A2 ps.length c2)) (ds := [6]) (Ymk 7 0) (by kernel_rfl) rfl rfl hHeld (fun _ => ?_))
 refine Ytk 0 5 7 1 hHeld ?_
 refine Ytk 1 6 7 3 hHeld ?_
 refine two_ (i := 2) (j := 5) (Ni := some 7) (Nj := some 3) #[Yt,Yt,Yt,Nf,Nf,Nf,Nf] #[Yt,Yt,Nf,Nf,Nf,Yt,Nf] rfl rfl rfl rfl (by kernel_rfl) (by decide) (by decide) (fun K hK => ?_) (fun K hK => ?_)
 ·refine Ygh Tryz.func45 #[.agg #[.slice A0 n0 c0, .slice A1 n1 c1, .slice A2 ps.length c2]] ?_
  refine (hemp _ (Kd.zak hC (za4 hB0))).mono ?_
  rintro e X1 ⟨ge, rfl, heml, hge, hgb, hB1⟩
  refine ⟨_, rfl, ?_⟩
  have hh1 := keep _ _ hB1 hHeld
  refine hK.out _ _ hh1 (fun _ => ?_)
  clear hK K
  refine Ynm 7 ?_
  refine Ypk 3 8 7 15 ?_
  refine two_ (i := 4) (j := 5) (Ni := some 9) (Nj := some 3) #[Yt,Yt,Yt,Yt,Yt,Nf,Nf] #[Yt,Yt,Yt,Yt,Nf,Yt,Nf] rfl rfl rfl rfl (by kernel_rfl) (by decide) (by decide) (fun K hK => ?_) (fun K hK => ?_)
  ·refine zcm (w1 := ?_) (v := ?_) (by rfl) rfl ?_ ?_
   rotate_left 2
   ·go_simp
    constructor
    ·rfl
    ·rfl
   have hh2 := keep X1 (X1.alloc (.cells #[.slice A0 n0 c0, .slice A1 n1 c1, .slice A2 ps.length c2, .slice (some ⟨ge, 0, none⟩) N N, .slice none 0 0] 92)) ((Below.refl _ _).alloc (Nat.le_refl _) _) hh1
   refine hK.out _ _ hh2 (fun _ => ?_)
   clear hK K
   refine Ynm 9 ?_
   refine Yok 5 3 7 63 (fun K hK => ?_)
   refine zcm (w1 := ?_) (v := ?_) (by rfl) rfl ?_ ?_
   rotate_left 2
   ·go_simp
    constructor
    ·rfl
    ·rfl
   have hh3 := keep (X1.alloc (.cells #[.slice A0 n0 c0, .slice A1 n1 c1, .slice A2 ps.length c2, .slice (some ⟨ge, 0, none⟩) N N, .slice none 0 0] 92)) ((X1.alloc (.cells #[.slice A0 n0 c0, .slice A1 n1 c1, .slice A2 ps.length c2, .slice (some ⟨ge, 0, none⟩) N N, .slice none 0 0] 92)).alloc (.cells #[.pointer none] 93)) ((Below.refl _ _).alloc (Nat.le_refl _) _) hh2
   refine hK.out _ _ hh3 (fun _ => ?_)
   clear hK K
   refine Ynm 3 ?_
   obtain ⟨Y, hY⟩ : ∃ Y, (X1.alloc (.cells #[.slice A0 n0 c0, .slice A1 n1 c1, .slice A2 ps.length c2, .slice (some ⟨ge, 0, none⟩) N N, .slice none 0 0] 92)).alloc (.cells #[.pointer none] 93) = Y := ⟨_, rfl⟩
   have hwD : w.heap.size < W0.drew.heap.size := by show w.heap.size < W0.heap.size; omega
   have hgl := zbk hgb
   have hbY : Boxed ((X1.alloc (.cells #[.slice A0 n0 c0, .slice A1 n1 c1, .slice A2 ps.length c2, .slice (some ⟨ge, 0, none⟩) N N, .slice none 0 0] 92)).alloc (.cells #[.pointer none] 93)) (X1.heap.size + 1) 93 (.pointer none) := by have := Boxed.new (X1.alloc (.cells #[.slice A0 n0 c0, .slice A1 n1 c1, .slice A2 ps.length c2, .slice (some ⟨ge, 0, none⟩) N N, .slice none 0 0] 92)) 93 (.pointer none); simpa using this
   have hxY : ((X1.alloc (.cells #[.slice A0 n0 c0, .slice A1 n1 c1, .slice A2 ps.length c2, .slice (some ⟨ge, 0, none⟩) N N, .slice none 0 0] 92)).alloc (.cells #[.pointer none] 93)).heap[X1.heap.size]? = some (.cells #[.slice A0 n0 c0, .slice A1 n1 c1, .slice A2 ps.length c2, .slice (some ⟨ge, 0, none⟩) N N, .slice none 0 0] 92 (0, 0)) := zaj (za9 _ _) _
   have hgY : ((X1.alloc (.cells #[.slice A0 n0 c0, .slice A1 n1 c1, .slice A2 ps.length c2, .slice (some ⟨ge, 0, none⟩) N N, .slice none 0 0] 92)).alloc (.cells #[.pointer none] 93)).heap[ge]? = _ := zaj (zaj hgb _) _
   have hfY : ((X1.alloc (.cells #[.slice A0 n0 c0, .slice A1 n1 c1, .slice A2 ps.length c2, .slice (some ⟨ge, 0, none⟩) N N, .slice none 0 0] 92)).alloc (.cells #[.pointer none] 93)).heap[w.heap.size]? = _ := zaj (zaj (zat (zah f0) hB1) _) _
   have hwY : Below w.heap.size w ((X1.alloc (.cells #[.slice A0 n0 c0, .slice A1 n1 c1, .slice A2 ps.length c2, .slice (some ⟨ge, 0, none⟩) N N, .slice none 0 0] 92)).alloc (.cells #[.pointer none] 93)) := (((za4 hB0).trans (hB1.mono (za4 hB0).size)).alloc (by have := hB1.size; omega) _).alloc (by have := hB1.size; simp; omega) _
   have hz1 := hB1.size
   rw [hY] at hbY hxY hgY hfY hwY
   rw [hY]
   have c1' := hbY.cell
   have c2' := hbY.frozen
   refine zfv (i := 6) (N := none) (Ymk 7 127) rfl rfl (by kernel_rfl) (by decide) (fun K hK => ?_)
   refine skip_ (w1 := Y.setCell ⟨X1.heap.size + 1, 0, none⟩ (.pointer (some ⟨X1.heap.size, 0, none⟩))) (by rfl) rfl ?_ ?_
   ·go_simp
   refine hK.out _ _ ?_
   clear hK K
   refine zbq (by kernel_rfl) ?_
   exact rest _ (X1.heap.size + 1) (X1.heap.size) ge (by first | omega | (simp; done) | (simp; omega)) (by first | omega | (simp; done) | (simp; omega)) (by first | omega | (simp; done) | (simp; omega)) (by first | omega | (simp; done) | (simp; omega)) (by first | omega | (simp; done) | (simp; omega)) (by first | omega | (simp; done) | (simp; omega)) (hbY.set _) (zdu hxY (by first | omega | (simp; done) | (simp; omega)) _) heml (zdu hgY (by first | omega | (simp; done) | (simp; omega)) _) (zdu hfY (by first | omega | (simp; done) | (simp; omega)) _) (hwY.setCell (p := ⟨X1.heap.size + 1, 0, none⟩) (by first | omega | (simp; done) | (simp; omega)) _)
  ·refine zcm (w1 := ?_) (v := ?_) (by rfl) rfl ?_ ?_
   rotate_left 2
   ·go_simp
    constructor
    ·rfl
    ·rfl
   have hh2 := keep X1 (X1.alloc (.cells #[.pointer none] 93)) ((Below.refl _ _).alloc (Nat.le_refl _) _) hh1
   refine hK.out _ _ hh2 (fun _ => ?_)
   clear hK K
   refine Ynm 3 ?_
   refine Yok 4 9 7 63 (fun K hK => ?_)
   refine zcm (w1 := ?_) (v := ?_) (by rfl) rfl ?_ ?_
   rotate_left 2
   ·go_simp
    constructor
    ·rfl
    ·rfl
   have hh3 := keep (X1.alloc (.cells #[.pointer none] 93)) ((X1.alloc (.cells #[.pointer none] 93)).alloc (.cells #[.slice A0 n0 c0, .slice A1 n1 c1, .slice A2 ps.length c2, .slice (some ⟨ge, 0, none⟩) N N, .slice none 0 0] 92)) ((Below.refl _ _).alloc (Nat.le_refl _) _) hh2
   refine hK.out _ _ hh3 (fun _ => ?_)
   clear hK K
   refine Ynm 9 ?_
   obtain ⟨Y, hY⟩ : ∃ Y, (X1.alloc (.cells #[.pointer none] 93)).alloc (.cells #[.slice A0 n0 c0, .slice A1 n1 c1, .slice A2 ps.length c2, .slice (some ⟨ge, 0, none⟩) N N, .slice none 0 0] 92) = Y := ⟨_, rfl⟩
   have hwD : w.heap.size < W0.drew.heap.size := by show w.heap.size < W0.heap.size; omega
   have hgl := zbk hgb
   have hbY : Boxed ((X1.alloc (.cells #[.pointer none] 93)).alloc (.cells #[.slice A0 n0 c0, .slice A1 n1 c1, .slice A2 ps.length c2, .slice (some ⟨ge, 0, none⟩) N N, .slice none 0 0] 92)) X1.heap.size 93 (.pointer none) := (Boxed.new _ _ _).alloc _
   have hxY : ((X1.alloc (.cells #[.pointer none] 93)).alloc (.cells #[.slice A0 n0 c0, .slice A1 n1 c1, .slice A2 ps.length c2, .slice (some ⟨ge, 0, none⟩) N N, .slice none 0 0] 92)).heap[X1.heap.size + 1]? = some (.cells #[.slice A0 n0 c0, .slice A1 n1 c1, .slice A2 ps.length c2, .slice (some ⟨ge, 0, none⟩) N N, .slice none 0 0] 92 (0, 0)) := by have := za9 (X1.alloc (.cells #[.pointer none] 93)) (.cells #[.slice A0 n0 c0, .slice A1 n1 c1, .slice A2 ps.length c2, .slice (some ⟨ge, 0, none⟩) N N, .slice none 0 0] 92); simpa using this
   have hgY : ((X1.alloc (.cells #[.pointer none] 93)).alloc (.cells #[.slice A0 n0 c0, .slice A1 n1 c1, .slice A2 ps.length c2, .slice (some ⟨ge, 0, none⟩) N N, .slice none 0 0] 92)).heap[ge]? = _ := zaj (zaj hgb _) _
   have hfY : ((X1.alloc (.cells #[.pointer none] 93)).alloc (.cells #[.slice A0 n0 c0, .slice A1 n1 c1, .slice A2 ps.length c2, .slice (some ⟨ge, 0, none⟩) N N, .slice none 0 0] 92)).heap[w.heap.size]? = _ := zaj (zaj (zat (zah f0) hB1) _) _
   have hwY : Below w.heap.size w ((X1.alloc (.cells #[.pointer none] 93)).alloc (.cells #[.slice A0 n0 c0, .slice A1 n1 c1, .slice A2 ps.length c2, .slice (some ⟨ge, 0, none⟩) N N, .slice none 0 0] 92)) := (((za4 hB0).trans (hB1.mono (za4 hB0).size)).alloc (by have := hB1.size; omega) _).alloc (by have := hB1.size; simp; omega) _
   have hz1 := hB1.size
   rw [hY] at hbY hxY hgY hfY hwY
   rw [hY]
   have c1' := hbY.cell
   have c2' := hbY.frozen
   refine zfv (i := 6) (N := none) (Ymk 7 127) rfl rfl (by kernel_rfl) (by decide) (fun K hK => ?_)
   refine skip_ (w1 := Y.setCell ⟨X1.heap.size, 0, none⟩ (.pointer (some ⟨X1.heap.size + 1, 0, none⟩))) (by rfl) rfl ?_ ?_
   ·go_simp
   refine hK.out _ _ ?_
   clear hK K
   refine zbq (by kernel_rfl) ?_
   exact rest _ (X1.heap.size) (X1.heap.size + 1) ge (by first | omega | (simp; done) | (simp; omega)) (by first | omega | (simp; done) | (simp; omega)) (by first | omega | (simp; done) | (simp; omega)) (by first | omega | (simp; done) | (simp; omega)) (by first | omega | (simp; done) | (simp; omega)) (by first | omega | (simp; done) | (simp; omega)) (hbY.set _) (zdu hxY (by first | omega | (simp; done) | (simp; omega)) _) heml (zdu hgY (by first | omega | (simp; done) | (simp; omega)) _) (zdu hfY (by first | omega | (simp; done) | (simp; omega)) _) (hwY.setCell (p := ⟨X1.heap.size, 0, none⟩) (by first | omega | (simp; done) | (simp; omega)) _)
 ·refine zcm (w1 := ?_) (v := ?_) (by rfl) rfl ?_ ?_
  rotate_left 2
  ·go_simp
   constructor
   ·rfl
   ·rfl
  have hh0 := keep W0.drew (W0.drew.alloc (.cells #[.pointer none] 93)) ((Below.refl _ _).alloc (Nat.le_refl _) _) hHeld
  refine hK.out _ _ hh0 (fun _ => ?_)
  clear hK K
  refine Ynm 3 ?_
  refine Yok 2 7 7 39 (fun K hK => ?_)
  refine Ygh Tryz.func45 #[.agg #[.slice A0 n0 c0, .slice A1 n1 c1, .slice A2 ps.length c2]] ?_
  refine (hemp _ (Kd.zak hC ((za4 hB0).alloc (za4 hB0).size _))).mono ?_
  rintro e X1 ⟨ge, rfl, heml, hge, hgb, hB1⟩
  refine ⟨_, rfl, ?_⟩
  have hh1 := keep _ _ hB1 hh0
  refine hK.out _ _ hh1 (fun _ => ?_)
  clear hK K
  refine Ynm 7 ?_
  refine Ypk 3 8 7 47 ?_
  refine Yok 4 9 7 63 (fun K hK => ?_)
  refine zcm (w1 := ?_) (v := ?_) (by rfl) rfl ?_ ?_
  rotate_left 2
  ·go_simp
   constructor
   ·rfl
   ·rfl
  have hh3 := keep X1 (X1.alloc (.cells #[.slice A0 n0 c0, .slice A1 n1 c1, .slice A2 ps.length c2, .slice (some ⟨ge, 0, none⟩) N N, .slice none 0 0] 92)) ((Below.refl _ _).alloc (Nat.le_refl _) _) hh1
  refine hK.out _ _ hh3 (fun _ => ?_)
  clear hK K
  refine Ynm 9 ?_
  obtain ⟨Y, hY⟩ : ∃ Y, X1.alloc (.cells #[.slice A0 n0 c0, .slice A1 n1 c1, .slice A2 ps.length c2, .slice (some ⟨ge, 0, none⟩) N N, .slice none 0 0] 92) = Y := ⟨_, rfl⟩
  have hwD : w.heap.size < W0.drew.heap.size := by show w.heap.size < W0.heap.size; omega
  have hgl := zbk hgb
  have hz0 : (W0.drew.alloc (.cells #[.pointer none] 93)).heap.size = W0.drew.heap.size + 1 := by simp
  have hbY : Boxed (X1.alloc (.cells #[.slice A0 n0 c0, .slice A1 n1 c1, .slice A2 ps.length c2, .slice (some ⟨ge, 0, none⟩) N N, .slice none 0 0] 92)) (w.heap.size + 1) 93 (.pointer none) := by have e : W0.drew.heap.size = w.heap.size + 1 := sz0; rw [← e]; exact zaj (zat (Boxed.new _ _ _) hB1) _
  have hxY : (X1.alloc (.cells #[.slice A0 n0 c0, .slice A1 n1 c1, .slice A2 ps.length c2, .slice (some ⟨ge, 0, none⟩) N N, .slice none 0 0] 92)).heap[X1.heap.size]? = some (.cells #[.slice A0 n0 c0, .slice A1 n1 c1, .slice A2 ps.length c2, .slice (some ⟨ge, 0, none⟩) N N, .slice none 0 0] 92 (0, 0)) := za9 _ _
  have hgY : (X1.alloc (.cells #[.slice A0 n0 c0, .slice A1 n1 c1, .slice A2 ps.length c2, .slice (some ⟨ge, 0, none⟩) N N, .slice none 0 0] 92)).heap[ge]? = _ := zaj hgb _
  have hfY : (X1.alloc (.cells #[.slice A0 n0 c0, .slice A1 n1 c1, .slice A2 ps.length c2, .slice (some ⟨ge, 0, none⟩) N N, .slice none 0 0] 92)).heap[w.heap.size]? = _ := zaj (zat (zaj (zah f0) _) hB1) _
  have hwY : Below w.heap.size w (X1.alloc (.cells #[.slice A0 n0 c0, .slice A1 n1 c1, .slice A2 ps.length c2, .slice (some ⟨ge, 0, none⟩) N N, .slice none 0 0] 92)) := (((za4 hB0).alloc (za4 hB0).size _).trans (hB1.mono ((za4 hB0).alloc (za4 hB0).size _).size)).alloc (by have := hB1.size; omega) _
  have hz1 := hB1.size
  have hz2 : W0.drew.heap.size = w.heap.size + 1 := sz0
  rw [hY] at hbY hxY hgY hfY hwY
  rw [hY]
  have c1' := hbY.cell
  have c2' := hbY.frozen
  refine zfv (i := 6) (N := none) (Ymk 7 127) rfl rfl (by kernel_rfl) (by decide) (fun K hK => ?_)
  refine skip_ (w1 := Y.setCell ⟨w.heap.size + 1, 0, none⟩ (.pointer (some ⟨X1.heap.size, 0, none⟩))) (by rfl) rfl ?_ ?_
  ·go_simp
  refine hK.out _ _ ?_
  clear hK K
  refine zbq (by kernel_rfl) ?_
  exact rest _ (w.heap.size + 1) (X1.heap.size) ge (by first | omega | (simp; done) | (simp; omega)) (by first | omega | (simp; done) | (simp; omega)) (by first | omega | (simp; done) | (simp; omega)) (by first | omega | (simp; done) | (simp; omega)) (by first | omega | (simp; done) | (simp; omega)) (by first | omega | (simp; done) | (simp; omega)) (hbY.set _) (zdu hxY (by first | omega | (simp; done) | (simp; omega)) _) heml (zdu hgY (by first | omega | (simp; done) | (simp; omega)) _) (zdu hfY (by first | omega | (simp; done) | (simp; omega)) _) (hwY.setCell (p := ⟨w.heap.size + 1, 0, none⟩) (by first | omega | (simp; done) | (simp; omega)) _)
end Go.Proofs.ZZ.Begun
end
section
namespace Go.Proofs
open Go.Shelf
def Tryz.YtgdmjpehofdnpaaGreatsortI_ren : Go.Shelf.Ren := ⟨fun | 189 => 84 | 125 => 82 | 257 => 102 | 128 => 100 | 129 => 101 | 294 => 109 | 295 => 110 | 296 => 111 | 297 => 112 | 298 => 113 | 299 => 114 | 216 => 115 | 300 => 116 | 301 => 117 | 328 => 119 | 329 => 105 | 330 => 106 | 331 => 120 | 332 => 121 | 215 => 83 | 343 => 122 | n => n, fun | 28 => 35 | 3 => 3 | 46 => 116 | 0 => 0 | 51 => 131 | 53 => 38 | 4 => 4 | 183 => 125 | 182 => 124 | 131 => 51 | 5 => 5 | 9 => 9 | 218 => 134 | 222 => 138 | 228 => 146 | 229 => 147 | n => n, fun | n => n⟩
theorem Tryz.YtgdmjpehofdnpaaGreatsortI : Go.Proofs.Lays.n189 Tryz.prog Tryz.YtgdmjpehofdnpaaGreatsortI_ren := {
 mixed := by kernel_rfl
 f125 := Tryz.func82.trans (congrArg some (by kernel_rfl))
 f128 := Tryz.func100.trans (congrArg some (by kernel_rfl))
 f129 := Tryz.func101.trans (congrArg some (by kernel_rfl))
 f189 := Tryz.func84.trans (congrArg some (by kernel_rfl))
 f215 := Tryz.func83.trans (congrArg some (by kernel_rfl))
 f216 := Tryz.func115.trans (congrArg some (by kernel_rfl))
 f257 := Tryz.func102.trans (congrArg some (by kernel_rfl))
 f294 := Tryz.func109.trans (congrArg some (by kernel_rfl))
 f295 := Tryz.func110.trans (congrArg some (by kernel_rfl))
 f296 := Tryz.func111.trans (congrArg some (by kernel_rfl))
 f297 := Tryz.func112.trans (congrArg some (by kernel_rfl))
 f298 := Tryz.func113.trans (congrArg some (by kernel_rfl))
 f299 := Tryz.func114.trans (congrArg some (by kernel_rfl))
 f300 := Tryz.func116.trans (congrArg some (by kernel_rfl))
 f301 := Tryz.func117.trans (congrArg some (by kernel_rfl))
 f328 := Tryz.func119.trans (congrArg some (by kernel_rfl))
 f329 := Tryz.func105.trans (congrArg some (by kernel_rfl))
 f330 := Tryz.func106.trans (congrArg some (by kernel_rfl))
 f331 := Tryz.func120.trans (congrArg some (by kernel_rfl))
 f332 := Tryz.func121.trans (congrArg some (by kernel_rfl))
 f343 := Tryz.func122.trans (congrArg some (by kernel_rfl))
 t0 := Tryz.underlying0
 a0 := Tryz.isAgg0
 z0 := Tryz.sizeOf0
 v0 := Tryz.zeroValue0
 t3 := Tryz.underlying3
 a3 := Tryz.isAgg3
 z3 := Tryz.sizeOf3
 v3 := Tryz.zeroValue3
 t4 := Tryz.underlying4
 a4 := Tryz.isAgg4
 z4 := Tryz.sizeOf4
 v4 := Tryz.zeroValue4
 t5 := Tryz.underlying5
 a5 := Tryz.isAgg5
 z5 := Tryz.sizeOf5
 v5 := Tryz.zeroValue5
 t9 := Tryz.underlying9
 a9 := Tryz.isAgg9
 z9 := Tryz.sizeOf9
 v9 := Tryz.zeroValue9
 t28 := Tryz.underlying35
 a28 := Tryz.isAgg35
 z28 := Tryz.sizeOf35
 v28 := Tryz.zeroValue35
 t46 := Tryz.underlying116
 a46 := Tryz.isAgg116
 z46 := Tryz.sizeOf116
 v46 := Tryz.zeroValue116
 t51 := Tryz.underlying131
 a51 := Tryz.isAgg131
 z51 := Tryz.sizeOf131
 v51 := Tryz.zeroValue131
 t53 := Tryz.underlying38
 a53 := Tryz.isAgg38
 z53 := Tryz.sizeOf38
 v53 := Tryz.zeroValue38
 t131 := Tryz.underlying51
 a131 := Tryz.isAgg51
 z131 := Tryz.sizeOf51
 v131 := Tryz.zeroValue51
 t182 := Tryz.underlying124
 a182 := Tryz.isAgg124
 z182 := Tryz.sizeOf124
 v182 := Tryz.zeroValue124
 t183 := Tryz.underlying125
 a183 := Tryz.isAgg125
 z183 := Tryz.sizeOf125
 v183 := Tryz.zeroValue125
 t218 := Tryz.underlying134
 a218 := Tryz.isAgg134
 z218 := Tryz.sizeOf134
 v218 := Tryz.zeroValue134
 t222 := Tryz.underlying138
 a222 := Tryz.isAgg138
 z222 := Tryz.sizeOf138
 v222 := Tryz.zeroValue138
 t228 := Tryz.underlying146
 a228 := Tryz.isAgg146
 z228 := Tryz.sizeOf146
 v228 := Tryz.zeroValue146
 t229 := Tryz.underlying147
 a229 := Tryz.isAgg147
 z229 := Tryz.sizeOf147
 v229 := Tryz.zeroValue147 }
end Go.Proofs
end
section
namespace Go.Proofs.ZZ.Srt
open Go Go.RowKit Go.Shelf Go.Maps Go.Sort Go.Proofs.ZW.PrintWords Go.Proofs.ZW.PrintLast Go.Proofs.ZZ.Round Go.Proofs.ZZ.RangeG Go.Proofs.ZZ.RangeH Go.Proofs.ZZ.Fl Go.Proofs.ZZ.Grow Go.Proofs.ZZ.Seqs Go.Proofs.ZZ.MSet Go.Proofs.ZZ.Ahd
attribute [local go_sem] Oper.semAt_some
def nums (l : List Int) : List Value := l.map (Value.int .i64)
def sorted (l : List Int) : List Int := l.mergeSort fun x y => decide (x ≤ y)
theorem sort_own (base : Nat) (v : Value) (l : List Int) (w : World) (h : w.ownsRow base TI 1 v l.length (nums l)) (hl : l.length < 4611686018427387904) :
  Calls Tryz.prog 84 #[v] w fun e w' => e = .returned (.tuple #[]) ∧ w'.ownsRow base TI 1 v l.length (nums (sorted l)) ∧ w.grownBy w' v.ownBlock := by
 have hsl : (sorted l).length = l.length := List.length_mergeSort l
 have hnil : l = [] → ∀ p c, v = .slice p 0 c → Calls Tryz.prog 84 #[v] w fun e w' => e = .returned (.tuple #[]) ∧ w'.ownsRow base TI 1 v l.length (nums (sorted l)) ∧ w.grownBy w' v.ownBlock := by
  intro hl0 p c hv
  subst hl0
  have hc := Any.slices_Sort_int_none Tryz.YtgdmjpehofdnpaaGreatsortI p c w
  rw [hv] at h ⊢
  refine hc.mono ?_
  rintro e w' ⟨rfl, rfl⟩
  exact ⟨rfl, by simpa [sorted, nums] using h, rfl, rfl, rfl, Nat.le_refl _, fun _ _ _ => rfl⟩
 rcases h.2 with ⟨hv, hn⟩ | ⟨g, cap, cur, hv, hg, hh, hcap, hmax, hsz, htk⟩
 ·exact hnil (List.eq_nil_of_length_eq_zero hn) _ _ hv
 ·by_cases hl0 : l = []
  ·refine hnil hl0 (some ⟨g, 0, none⟩) cap ?_
   rw [hv, hl0]
   rfl
  ·have hH := holds_of_blockI (ss := l) hh (by simpa [nums] using htk)
   have hc := Any.slices_Sort_int Tryz.YtgdmjpehofdnpaaGreatsortI g 0 cap l w hH (zbk hh) hl
   rw [hv]
   refine hc.mono ?_
   rintro e w' ⟨rfl, n, os, rfl⟩
   exact ⟨rfl, ownsRow_sortedI (ss := l) (ts := sorted l) hsl hg hh hcap hmax hsz, grownBy_sortedI _⟩
end Go.Proofs.ZZ.Srt
end
section
namespace Go.Proofs.ZZ.Sorts
open Go Go.RowKit Go.Shelf Go.Maps Go.Sort Go.Proofs.ZW.PrintWords Go.Proofs.ZW.PrintLast Go.Proofs.ZZ.Round Go.Proofs.ZZ.RangeG Go.Proofs.ZZ.RangeH Go.Proofs.ZZ.Fl Go.Proofs.ZZ.Grow Go.Proofs.ZZ.Deri Go.Proofs.ZZ.Seqs Go.Proofs.ZZ.MSet Go.Proofs.ZZ.Ahd Go.Proofs.ZZ.Begin Go.Proofs.ZZ.Begun Go.Proofs.ZZ.Srt
attribute [local go_sem] Oper.semAt_some
theorem ints_nums (xs : List I64) : ints xs = Srt.nums (vals xs) := by
 simp only [ints, Srt.nums, vals, List.map_map]
 rfl
theorem zj5 (gf : Nat) (lb : Array Value) (heg : ∀ args w, (callFunc gf args).run Tryz.prog w = .ok (.enter gf args) w) (w : World)
  (S Sp : List I64 → Prop) (N : Nat) (hN : N ≤ 1000000000000) (hseq : SeqH 2 Tryz.prog gf lb encX (zem w.heap.size) S Sp N w) :
  Calls Tryz.prog 68 #[.func (.func gf) #[] lb] w fun e w' => ∃ v xs, e = .returned v ∧ S xs ∧ xs.length ≤ N ∧ w'.ownsRow w.heap.size TI 1 v (Srt.sorted (vals xs)).length (Srt.nums (Srt.sorted (vals xs))) ∧ Below w.heap.size w w' := by
 have hc := zhp gf lb heg w S Sp N hN hseq
 go_enter Tryz.func68, Tryz.ntmps68
 go_wp2_with (first
  | (go_at_call 74; refine hc.mono ?_; rintro e w1 ⟨v, xs, rfl, h1, h2, h3, h4⟩; have hl : (vals xs).length = xs.length := by { simp [vals] }; have hs := sort_own w.heap.size v (vals xs) w1 (by rw [hl, ← ints_nums]; exact h3) (by omega))
  | (go_at_call 84; refine hs.mono ?_; rintro e w2 ⟨rfl, h5, h6⟩))
 go_ret
 have hsl : (Srt.sorted (vals xs)).length = (vals xs).length := List.length_mergeSort _
 refine ⟨v, xs, rfl, h1, h2, by rw [hsl]; exact h5, h4.grown h6 h4.size (fun k hk => zd4 h3 k hk)⟩
theorem sorted_eq {xs : List I64} {S : List Int} (h1 : (vals xs).Nodup) (h2 : ∀ x, x ∈ vals xs ↔ x ∈ S) (hS : zc8 S) : Srt.sorted (vals xs) = S := by
 have hp : (Srt.sorted (vals xs)).Perm (vals xs) := List.mergeSort_perm _ _
 have hs : (Srt.sorted (vals xs)).Pairwise fun x y => decide (x ≤ y) = true := List.pairwise_mergeSort (by intro a b c h1 h2; simp at *; omega) (by intro a b; simp; omega) _
 have hn : (Srt.sorted (vals xs)).Nodup := hp.nodup_iff.2 h1
 refine zfn ?_ hS (fun x => by rw [hp.mem_iff, h2])
 refine (hs.and hn).imp ?_
 rintro a b ⟨h, h'⟩
 simp at h
 omega
theorem own_R {w : World} {base : Nat} {v : Value} {l : List Int} (h : w.ownsRow base TI 1 v l.length (Srt.nums l)) : Kd.R (Kd.int .i64) TI w base (fun _ => True) v l := by
 refine Kd.ziy (enc := Value.int .i64) (h1 := fun _ => rfl) ?_ (fun _ _ => trivial)
 exact h
theorem infoL : (Tryz.prog.info? 35).map (fun i => (i.zero, i.size, i.bytes)) = some (some (.slice none 0 0), 1, 24) := by kernel_rfl
theorem sorts_calls (gr cr N : Nat) (cs : Array Value) (bs : List Nat) (Ss : List (List Int)) (w : World) (hN : N ≤ 1000000) (hr : w.heap[gr]? = some (.cells cs 103 (0, 0))) (hc : ∀ (i : Nat) b, bs[i]? = some b → cs[i]? = some (.map (some b))) (hbl : bs.length = N) (hsl : Ss.length = N)
  (hS : ∀ (i : Nat) b S, bs[i]? = some b → Ss[i]? = some S → zb3 b S w) (hlen : ∀ S ∈ Ss, S.length ≤ 1000000) :
  Calls Tryz.prog 56 #[.slice (some ⟨gr, 0, none⟩) N cr] w fun e w' => ∃ v, e = .returned v ∧ Kd.R (Kd.slice TI (Kd.int .i64)) 35 w' w.heap.size (fun _ => True) v Ss ∧ Below w.heap.size w w' := by
 go_enter Tryz.func56, Tryz.ntmps56
 go_wp2
 go_loopw [8, 3] (fun i o wr => ∃ j : Nat, i = .int .i64 j ∧ j ≤ N ∧ Kd.R (Kd.slice TI (Kd.int .i64)) 35 wr w.heap.size (fun _ => True) o (Ss.take j) ∧ Below w.heap.size w wr) (fun i _ _ => N - (Go.RowKit.intOf i).toNat)
 case atStart => exact ⟨0, rfl, Nat.zero_le _, Kd.zdr _ _ _ _ _, Below.refl _ _⟩
 case round =>
  obtain ⟨j, rfl, hj, hR, hb⟩ := hrel
  by_cases hlt : j < N
  ·obtain ⟨b, hbj⟩ : ∃ b, bs[j]? = some b := ⟨bs[j]'(by omega), List.getElem?_eq_getElem _⟩
   obtain ⟨S, hSj⟩ : ∃ S, Ss[j]? = some S := ⟨Ss[j]'(by omega), List.getElem?_eq_getElem _⟩
   have hSA := (hS j b S hbj hSj).keep (hb.block b (hS j b S hbj hSj).lt)
   have hgr := zbk hr
   have cj : wr.cell? ⟨gr, j, none⟩ = some (.map (some b)) := (zab ((hb.block gr hgr).trans hr) j).trans (hc j b hbj)
   have hk := keys_calls (some b) wr
   have hsz := hb.size
   have hSl := hlen S (List.mem_of_getElem? hSj)
   have hkeys : ∃ W1, wr.alloc (.cells #[.map (some b)] 103) = W1 := ⟨_, rfl⟩
   obtain ⟨W1, hW1⟩ := hkeys
   have hb1 : Below wr.heap.size wr W1 := by rw [← hW1]; exact (Below.refl _ _).alloc (Nat.le_refl _) _
   have hB1 : W1.heap[wr.heap.size]? = some (.cells #[.map (some b)] 103 (0, 0)) := by rw [← hW1]; exact za9 _ _
   have hs := zj5 85 #[.pointer (some ⟨wr.heap.size, 0, none⟩)] (enters_of Tryz.func85 (by kernel_rfl) rfl) W1 _ _ S.length (by omega)
    (SeqH.of (Kq := zem W1.heap.size) (keys_stops 2 wr.heap.size b (by omega) S W1.heap.size [] W1 (by have := hSA.lt; have := hb1.size; omega) (hSA.keep (hb1.block b hSA.lt)) hB1) (fun l A B h => h.1) (fun xs h => h) (fun _ h => h))
   go_wp2_with (first
    | (go_at_call 69; refine hk.mono ?_; rintro e w1 ⟨rfl, rfl⟩; rw [hW1])
    | (go_at_call 68; refine hs.mono ?_; rintro e W2 ⟨v2, xs, rfl, ⟨h1, h2⟩, h3, h4, h5⟩; rw [sorted_eq h1 h2 hSA.1] at h4; have R2 := own_R h4; obtain ⟨A2, c2, rfl⟩ := Kd.zbj R2)
    | (at_builtin; go_loud (refine Kd.zdd (Kd.slice TI (Kd.int .i64)) (w0 := w) w.heap.size rfl (.tmp 12) (.tmp 16) 68 35 (.slice none 0 0) 24 rfl Tryz.underlying68 infoL rfl (by decide) (by omega) u3 (Ss.take j) S [.slice A2 S.length c2] (fun _ => True) (fun k => True ∧ some k ≠ u3.ownBlock) rfl rfl ?aP (fun _ h => h) (fun _ _ => trivial) ?aO ?aB ?aS ?aL ?_); rotate_right; intro v1 W3 R3 hB3 hg3 _))
   case aP => exact ⟨_, rfl, Kd.zbz (Kd.R_new' (u := u3) R2 (fun k hk => by have := Kd.R_lt hR k hk; have := hb1.size; omega)) (by have := hb1.size; omega)⟩
   case aO => exact Kd.zbc hR (hb1.trans (h5.mono hb1.size))
   case aB => exact hb.trans ((hb1.trans (h5.mono hb1.size)).mono hb.size)
   case aS => have := hb1.size; have := h5.size; omega
   case aL => have := List.length_take_le j Ss; omega
   go_roundw
   case rel => exact ⟨j + 1, by go_num, by omega, by rw [List.take_add_one, hSj]; exact R3, hB3⟩
   case measure => simp [Go.RowKit.intOf]; omega
  ·obtain rfl : j = N := by omega
   go_wp2;go_ret
   exact ⟨_, rfl, by rw [List.take_of_length_le (by omega)] at hR; exact hR, hb⟩
theorem first_calls (w : World) (A0 A1 A2 : Option Addr) (n0 n1 c0 c1 c2 N : Nat) (hNe : n0 + n1 = N) (hN1 : 1 ≤ N) (ps : List P) (hC : Kd.C kP w A2 ps.length ps) (hN : N ≤ 1000000) (hps : ∀ p ∈ ps, PrOk N p ∧ p.2.1.length ≤ 1000) (k0 : Nat) (em : List Bool) (hem : zb2 zb7 ps k0 (List.replicate N false) = some em) (k1 : Nat) (Ss : List (List Int)) (hSs : zb2 (zcg N em) ps k1 (zcq N n0) = some Ss) :
  Calls Tryz.prog 44 #[.agg #[.slice A0 n0 c0, .slice A1 n1 c1, .slice A2 ps.length c2]] w fun e w' => ∃ v, e = .returned v ∧ Kd.R (Kd.slice TI (Kd.int .i64)) 35 w' w.heap.size (fun _ => True) v Ss ∧ Below w.heap.size w w' := by
 obtain ⟨W0, hW0⟩ : ∃ W0, w.alloc (.cells #[.slice A0 n0 c0, .slice A1 n1 c1, .slice A2 ps.length c2] TF) = W0 := ⟨_, rfl⟩
 have hB0 : Below w.heap.size w W0 := by rw [← hW0]; exact (Below.refl _ _).alloc (Nat.le_refl _) _
 have f0 : W0.heap[w.heap.size]? = some (.cells #[.slice A0 n0 c0, .slice A1 n1 c1, .slice A2 ps.length c2] TF (0, 0)) := by rw [← hW0]; exact za9 w _
 have cf0 : W0.cell? ⟨w.heap.size, 0, none⟩ = some (.slice A0 n0 c0) := zab f0 0
 have cf1 : W0.cell? ⟨w.heap.size, 1, none⟩ = some (.slice A1 n1 c1) := zab f0 1
 have cf2 : W0.cell? ⟨w.heap.size, 2, none⟩ = some (.slice A2 ps.length c2) := zab f0 2
 have hbg := begin_calls W0 A0 A1 A2 n0 n1 c0 c1 c2 N hNe hN1 ps (Kd.zak hC hB0) hN hps k0 k0 em hem k1 Ss hSs
 clear hSs hem f0 hps hC
 go_enter Tryz.func44, Tryz.ntmps44
 go_wp2_with (first
  | (go_at_call 57; refine hbg.mono ?_; rintro e W1 ⟨G, rfl, hGN, hF, hBd, hB1⟩; have cX : W1.cell? ⟨G.X, 4, none⟩ = some (.slice (some ⟨G.gr, 0, none⟩) G.N G.cr) := zab hF.blk 4; obtain ⟨rcs, r1, r2⟩ := hF.row; have hs := sorts_calls G.gr G.cr G.N rcs G.bs Ss W1 hF.few r1 r2 hF.bsl hF.ssl hF.sets (zgz hBd (zi0 hF)); rw [hGN] at hs cX; clear hF r1 r2 hBd hbg)
  | (go_at_call 56; refine hs.mono ?_; rintro e W2 ⟨v2, rfl, R2, hB2⟩))
 go_ret
 have hB01 := hB0.trans (hB1.mono hB0.size)
 exact ⟨_, rfl, Kd.zbz R2 hB01.size, hB01.trans (hB2.mono hB01.size)⟩
end Go.Proofs.ZZ.Sorts
end
section
namespace Go.Proofs.ZZ.Refs
open Go Go.RowKit Go.Shelf Go.Maps Go.Sort Go.Proofs.ZW.PrintWords Go.Proofs.ZW.PrintLast Go.Proofs.ZZ.Round Go.Proofs.ZZ.RangeG Go.Proofs.ZZ.RangeH Go.Proofs.ZZ.Fl Go.Proofs.ZZ.Grow Go.Proofs.ZZ.Deri Go.Proofs.ZZ.Seqs Go.Proofs.ZZ.MSet Go.Proofs.ZZ.Ahd Go.Proofs.ZZ.Begin Go.Proofs.ZZ.Begun Go.Proofs.ZZ.Sorts
attribute [local go_sem] Oper.semAt_some
theorem zf8 (x : Int) : ∀ (l : List Int) (j : Nat), j ≤ l.length → (∀ q y, q < j → l[q]? = some y → y < x) → (∀ y, l[j]? = some y → x < y) → putV l x = (l.take j ++ [x]) ++ l.drop j
 | [], j, h, _, _ => by
  obtain rfl : j = 0 := by simpa using h
  rfl
 | a :: t, 0, _, _, h2 => by
  have := h2 a rfl
  simp [putV, this]
 | a :: t, j + 1, h, h1, h2 => by
  have h3 := h1 0 a (by omega) rfl
  have := zf8 x t j (by simpa using h) (fun q y hq hy => h1 (q + 1) y (by omega) hy) (fun y hy => h2 y hy)
  simp only [putV]
  rw [if_neg (by omega), if_neg (by omega), this]
  rfl
theorem putV_in (x : Int) : ∀ (l : List Int) (j : Nat), (∀ q y, q < j → l[q]? = some y → y < x) → l[j]? = some x → putV l x = l
 | [], j, _, h => by simp at h
 | a :: t, 0, _, h => by
  cases h
  simp [putV]
 | a :: t, j + 1, h1, h => by
  have h3 := h1 0 a (by omega) rfl
  have := putV_in x t j (fun q y hq hy => h1 (q + 1) y (by omega) hy) h
  simp only [putV]
  rw [if_neg (by omega), if_neg (by omega), this]
theorem infoN : (Tryz.prog.info? TI).map (fun i => (i.zero, i.size, i.bytes)) = some (some (.int .i64 0), 1, 8) := infoI
theorem rd_at {l : List Int} {j : Nat} {y : Int} (h : l[j]? = some y) : rd l (j : Int) = y := by
 show l.getD ((j : Int)).toNat 0 = y
 rw [Int.toNat_natCast, List.getD_eq_getElem?_getD, h]
 rfl
theorem put_calls (A : Option Addr) (c : Nat) (l : List Int) (x : Int) (w : World) (hC : Kd.C (Kd.int .i64) w A l.length l) (hc : l.length ≤ c) (hl : l.length ≤ 1000000000) :
  Calls Tryz.prog 54 #[.slice A l.length c, .int .i64 x] w fun e w' => ∃ v, e = .returned v ∧ ((v = .slice A l.length c ∧ putV l x = l) ∨ Kd.R (Kd.int .i64) TI w' w.heap.size (fun _ => True) v (putV l x)) ∧ Below w.heap.size w w' := by
 have hB0 : Below w.heap.size w w := Below.refl _ _
 go_enter Tryz.func54, Tryz.ntmps54
 go_wp2
 go_loopw [5] (fun i wr => ∃ j : Nat, i = .int .i64 (j : Int) ∧ j ≤ l.length ∧ Hid (∀ q y, q < j → l[q]? = some y → y < x) ∧ Below w.heap.size w wr) (fun i _ => l.length - (Go.RowKit.intOf i).toNat)
 case atStart => exact ⟨0, rfl, Nat.zero_le _, Lib.hid (fun q y h => absurd h (Nat.not_lt_zero _)), hB0⟩
 case round =>
  obtain ⟨j, rfl, hj, hM, hb⟩ := hrel
  have hCr := Kd.zak hC hb
  by_cases hlt : j < l.length
  ·obtain ⟨y, hy⟩ : ∃ y, l[j]? = some y := ⟨_, List.getElem?_eq_getElem hlt⟩
   obtain ⟨ad, rfl, hcell⟩ := Kd.zek hCr (j : Int) (by omega) (by omega)
   rw [rd_at hy] at hcell
   have hcell' : wr.cell? (ad.add j) = some (.int .i64 y) := hcell
   clear hcell
   by_cases hyx : y < x
   ·go_wp2
    go_roundw
    case rel =>
     refine ⟨j + 1, by go_num, by omega, Lib.hid (fun q z hq hz => ?_), hb⟩
     rcases Nat.lt_or_ge q j with h | h
     ·exact hM.out q z h hz
     ·obtain rfl : q = j := by omega
      rw [hy] at hz
      cases hz
      exact hyx
    case measure => simp [Go.RowKit.intOf]; omega
   ·by_cases he : y = x
    ·subst he
     have hp := putV_in y l j hM.out hy
     have HP := Lib.hid hp
     clear hp hy;go_wp2;go_ret
     exact ⟨_, rfl, .inl ⟨rfl, HP.out⟩, hb⟩
    ·skip
     have hT : ∀ W, Below w.heap.size w W → Kd.C (Kd.int .i64) W (some ad) j (l.take j) := fun W h => by
      have h2 := Kd.zc9 (Kd.zak hC h) hj
      rwa [List.length_take, Nat.min_eq_left hj] at h2
     have hD : ∀ W, Below w.heap.size w W → Kd.C (Kd.int .i64) W (some (ad.add j)) (l.length - j) (l.drop j) := fun W h => by
      have h2 := Kd.zd5 (Kd.zak hC h) hj hc
      rw [List.length_drop] at h2
      rw [show j * (Kd.int .i64).sz = j from Nat.mul_one j, if_neg (by omega)] at h2
      exact h2
     have hp := zf8 x l j hj hM.out (fun z hz => by rw [hy] at hz; cases hz; omega)
     have HP := Lib.hid hp
     have hbs := hb.size
     clear hp hy
     go_wp2_with (first
      | (at_builtin; (refine Kd.zb9 (Kd.int .i64) (w0 := w) w.heap.size rfl (.tmp 34) (.tmp 37) 35 TI (.int .i64 0) 8 rfl Tryz.underlying35 infoN rfl (by decide) (by omega) (.slice none 0 0) ([] : List Int) (l.take j) _ _ _ (fun _ => True) (fun _ => False) rfl rfl (Kd.zdr _ _ _ _ _) (hT _ hb) (fun _ _ h => h) (fun _ h => h.elim) (fun _ _ => trivial) hb hbs (by simp; omega) ?_); intro v1 W1 R1 hb1 _ _; have hs1 := hb1.size)
      | (at_builtin; (refine Kd.zdd (Kd.int .i64) (w0 := w) w.heap.size rfl (.tmp 39) (.tmp 41) 35 TI (.int .i64 0) 8 rfl Tryz.underlying35 infoN rfl (by decide) (by omega) v1 _ x [.int .i64 x] (fun _ => True) (fun _ => False) rfl rfl rfl (fun _ hk => hk.elim) (fun _ _ => trivial) R1 hb1 hs1 (by simp; omega) ?_); intro v2 W2 R2 hb2 _ _; have hs2 := hb2.size)
      | (at_builtin; (refine Kd.zb9 (Kd.int .i64) (w0 := w) w.heap.size rfl (.tmp 43) (.tmp 46) 35 TI (.int .i64 0) 8 rfl Tryz.underlying35 infoN rfl (by decide) (by omega) v2 _ (l.drop j) _ _ _ (fun _ => True) (fun _ => False) rfl rfl R2 (hD _ hb2) (fun _ _ h => h) (fun _ h => h.elim) (fun _ _ => trivial) hb2 hs2 (by simp; omega) ?_); intro v3 W3 R3 hb3 _ _))
     go_ret
     exact ⟨_, rfl, .inr (by rw [HP.out]; exact R3), hb3⟩
  ·obtain rfl : j = l.length := by omega
   have hT : ∀ W, Below w.heap.size w W → Kd.C (Kd.int .i64) W A l.length (l.take l.length) := fun W h => by
    have h2 := Kd.zc9 (Kd.zak hC h) hj
    rwa [List.length_take, Nat.min_eq_left hj] at h2
   have hD : ∀ W, Below w.heap.size w W → Kd.C (Kd.int .i64) W (if c = l.length then A else A.map (·.add l.length)) 0 (l.drop l.length) := fun W h => by
    have h2 := Kd.zd5 (Kd.zak hC h) hj hc
    rw [List.length_drop, Nat.sub_self] at h2
    rw [show l.length * (Kd.int .i64).sz = l.length from Nat.mul_one _] at h2
    exact h2
   have hp := zf8 x l l.length hj hM.out (fun y hy => by rw [List.getElem?_eq_none (by omega)] at hy; cases hy)
   have HP := Lib.hid hp
   have hbs := hb.size
   clear hp
   go_wp2_with (first
    | (at_builtin; (refine Kd.zb9 (Kd.int .i64) (w0 := w) w.heap.size rfl (.tmp 34) (.tmp 37) 35 TI (.int .i64 0) 8 rfl Tryz.underlying35 infoN rfl (by decide) (by omega) (.slice none 0 0) ([] : List Int) (l.take l.length) _ _ _ (fun _ => True) (fun _ => False) rfl rfl (Kd.zdr _ _ _ _ _) (hT _ hb) (fun _ _ h => h) (fun _ h => h.elim) (fun _ _ => trivial) hb hbs (by simp; omega) ?_); intro v1 W1 R1 hb1 _ _; have hs1 := hb1.size)
    | (at_builtin; (refine Kd.zdd (Kd.int .i64) (w0 := w) w.heap.size rfl (.tmp 39) (.tmp 41) 35 TI (.int .i64 0) 8 rfl Tryz.underlying35 infoN rfl (by decide) (by omega) v1 _ x [.int .i64 x] (fun _ => True) (fun _ => False) rfl rfl rfl (fun _ hk => hk.elim) (fun _ _ => trivial) R1 hb1 hs1 (by simp; omega) ?_); intro v2 W2 R2 hb2 _ _; have hs2 := hb2.size)
    | (at_builtin; (refine Kd.zb9 (Kd.int .i64) (w0 := w) w.heap.size rfl (.tmp 43) (.tmp 46) 35 TI (.int .i64 0) 8 rfl Tryz.underlying35 infoN rfl (by decide) (by omega) v2 _ (l.drop l.length) _ _ _ (fun _ => True) (fun _ => False) rfl rfl R2 (hD _ hb2) (fun _ _ h => h) (fun _ h => h.elim) (fun _ _ => trivial) hb2 hs2 (by simp; omega) ?_); intro v3 W3 R3 hb3 _ _))
   all_goals go_ret
   all_goals exact ⟨_, rfl, .inr (by rw [HP.out]; exact R3), hb3⟩
theorem zg8 (x : Int) : ∀ l : List Int, (putV l x).length ≤ l.length + 1
 | [] => by simp [putV]
 | a :: t => by
  have := zg8 x t
  simp only [putV]
  split
  ·simp
  ·split
   ·simp
   ·simp; omega
theorem unionV_le : ∀ (xs l : List Int), (zbf l xs).length ≤ l.length + xs.length
 | [], l => by simp [zbf]
 | x :: t, l => by
  have h1 := unionV_le t (putV l x)
  have h2 := zg8 x l
  show (zbf (putV l x) t).length ≤ _
  simp
  omega
theorem union_calls (A : Option Addr) (c : Nat) (l : List Int) (B : Option Addr) (d : Nat) (m : List Int) (w : World) (hC : Kd.C (Kd.int .i64) w A l.length l) (hc : l.length ≤ c) (hD : Kd.C (Kd.int .i64) w B m.length m) (hl : l.length + m.length ≤ 1000000000) :
  Calls Tryz.prog 41 #[.slice A l.length c, .slice B m.length d] w fun e w' => ∃ v, e = .returned v ∧ ((v = .slice A l.length c ∧ zbf l m = l) ∨ Kd.R (Kd.int .i64) TI w' w.heap.size (fun _ => True) v (zbf l m)) ∧ Below w.heap.size w w' := by
 have hB0 : Below w.heap.size w w := Below.refl _ _
 have hml : m.length ≤ 9223372036854775807 := hD.2.1
 go_enter Tryz.func41, Tryz.ntmps41
 go_wp2
 go_loopw [5, 0] (fun i v wr => ∃ (j : Nat), i = .int .i64 (j : Int) ∧ j ≤ m.length ∧ Hid (((v = .slice A l.length c ∧ zbf l (m.take j) = l) ∨ Kd.R (Kd.int .i64) TI wr w.heap.size (fun _ => True) v (zbf l (m.take j)))) ∧ Below w.heap.size w wr) (fun i _ _ => m.length - (Go.RowKit.intOf i).toNat)
 case atStart => exact ⟨0, rfl, Nat.zero_le _, Lib.hid (.inl ⟨rfl, rfl⟩), hB0⟩
 case round =>
  obtain ⟨j, rfl, hj, hM, hb⟩ := hrel
  by_cases hlt : j < m.length
  ·obtain ⟨y, hy⟩ : ∃ y, m[j]? = some y := ⟨_, List.getElem?_eq_getElem hlt⟩
   obtain ⟨ad, rfl, hcell⟩ := Kd.zek (Kd.zak hD hb) (j : Int) (by omega) (by omega)
   rw [rd_at hy] at hcell
   have hcell' : wr.cell? (ad.add j) = some (.int .i64 y) := hcell
   clear hcell
   have hu : putV (zbf l (m.take j)) y = zbf l (m.take (j + 1)) := by
    rw [List.take_add_one, hy]
    simp [zbf]
   have hul := unionV_le (m.take j) l
   rw [List.length_take] at hul
   obtain ⟨A', c', hv, hc', hC'⟩ : ∃ A' c', u0 = .slice A' (zbf l (m.take j)).length c' ∧ (zbf l (m.take j)).length ≤ c' ∧ Kd.C (Kd.int .i64) wr A' (zbf l (m.take j)).length (zbf l (m.take j)) := by
    rcases hM.out with ⟨h1, h2⟩ | h
    ·rw [h2]
     exact ⟨A, c, h1, hc, Kd.zak hC hb⟩
    ·exact Kd.zds h
   have hMo := Lib.hid hM.out
   obtain ⟨l', hl'⟩ : ∃ l', zbf l (m.take j) = l' := ⟨_, rfl⟩
   rw [hl'] at hv hc' hC' hul hu hMo
   subst hv
   have hput := put_calls A' c' l' y wr hC' hc' (by omega)
   have hsz := hb.size
   clear hM hy hl'
   go_wp2_with (go_at_call 54; refine hput.mono ?_; rintro e W2 ⟨v2, rfl, hR2, hB2⟩)
   go_roundw
   case rel =>
    refine ⟨j + 1, by go_num, by omega, Lib.hid ?_, hb.trans (hB2.mono hsz)⟩
    rw [← hu]
    rcases hR2 with ⟨h1, h2⟩ | h
    ·rcases hMo.out with ⟨h3, h4⟩ | h3
     ·exact .inl ⟨h1.trans h3, h2.trans h4⟩
     ·refine .inr ?_
      rw [h1, h2]
      exact Kd.zbc h3 hB2
    ·exact .inr (Kd.zbz h hsz)
   case measure => simp [Go.RowKit.intOf]; omega
  ·obtain rfl : j = m.length := by omega
   have hM' := hM.out
   rw [List.take_length] at hM'
   go_wp2;go_ret
   exact ⟨_, rfl, hM', hb⟩
end Go.Proofs.ZZ.Refs
end
section
namespace Go.Proofs.ZZ.RRow
open Go Go.RowKit Go.Shelf Go.Maps Go.Sort Go.Proofs.ZW.PrintWords Go.Proofs.ZW.PrintLast Go.Proofs.ZZ.Round Go.Proofs.ZZ.RangeG Go.Proofs.ZZ.RangeH Go.Proofs.ZZ.Fl Go.Proofs.ZZ.Grow Go.Proofs.ZZ.Deri Go.Proofs.ZZ.Seqs Go.Proofs.ZZ.MSet Go.Proofs.ZZ.Ahd Go.Proofs.ZZ.Begin Go.Proofs.ZZ.Begun Go.Proofs.ZZ.Sorts Go.Proofs.ZZ.Refs
attribute [local go_sem] Oper.semAt_some
abbrev TL : TypeId := 35
abbrev kL : Kd (List Int) := Kd.slice TI (Kd.int .i64)
theorem ze8 {W : World} {base g n c : Nat} {FS : List (List Int)} (h : kL.R TL W base (fun _ => True) (.slice (some ⟨g, 0, none⟩) n c) FS) (i : Nat) (hi : i < n) :
  ∃ A c', W.cell? ⟨g, i, none⟩ = some (.slice A (FS.getD i []).length c') ∧ W.frozen? ⟨g, i, none⟩ = false ∧ (FS.getD i []).length ≤ c' ∧ Kd.C (Kd.int .i64) W A (FS.getD i []).length (FS.getD i []) ∧ Kd.R (Kd.int .i64) TI W base (fun k => k ≠ g) (.slice A (FS.getD i []).length c') (FS.getD i []) := by
 obtain ⟨cs, h1, ⟨v, rfl, hv⟩, h3, h4⟩ := Kd.R_elem h ([] : List Int) (i : Int) (by omega) (by omega)
 simp only [Int.toNat_natCast] at hv h3 h4
 obtain ⟨A, c', rfl, h5, h6⟩ := Kd.zds hv
 have e : i * kL.sz + 0 = i := Nat.mul_one i
 refine ⟨A, c', ?_, ?_, h5, h6, Kd.zba hv (fun k hk => hk.2)⟩
 ·have := h3 0 _ rfl
  rwa [e] at this
 ·have := h4 0
  rwa [e] at this
theorem orow_put {W : World} {base g n c : Nat} {FS : List (List Int)} (h : kL.R TL W base (fun _ => True) (.slice (some ⟨g, 0, none⟩) n c) FS) (i : Nat) (hi : i < n) {v : Value} {x : List Int} (hv : Kd.R (Kd.int .i64) TI W base (fun k => k ≠ g) v x) :
  kL.R TL (W.setCell ⟨g, i, none⟩ v) base (fun _ => True) (.slice (some ⟨g, 0, none⟩) n c) (FS.set i x) ∧ W.grownBy (W.setCell ⟨g, i, none⟩ v) (some g) := by
 obtain ⟨cs, h1, ⟨v0, rfl, hv0⟩, h3, h4⟩ := Kd.R_elem h ([] : List Int) (i : Int) (by omega) (by omega)
 have e : i * kL.sz + 0 = i := Nat.mul_one i
 have hs := Kd.R_seg h (i : Int) (by omega) (by omega) (seg := [v]) (j := 0) h1 h3 (by simp [kL, Kd.slice]) (x' := x) (okp := fun k => True ∧ k ≠ g) ⟨v, rfl, Kd.zba hv (fun k hk => ⟨trivial, hk⟩)⟩ (fun k hk => hk)
 simp only [Int.toNat_natCast, e] at hs
 exact hs
theorem infoR : (Tryz.prog.info? TL).map (fun i => (i.zero, i.size, i.bytes)) = some (some (.slice none 0 0), 1, 24) := infoL
theorem make_rows (N : Nat) (hN : N ≤ 1000000) (w : World) : (Instr.makeSlice 68 (.int .i64 (N : Int)) (.int .i64 (N : Int))).run Tryz.prog w = .ok (.slice (some ⟨w.heap.size, 0, none⟩) N N) (w.alloc (.cells (Array.replicate N (Value.slice none 0 0)) TL)) := by
 obtain ⟨i0, hi, hz0, hz1, hz2⟩ := info_parts infoR
 have h := run_makeSlice w 68 TL i0 (.slice none 0 0) Tryz.underlying68 hi hz0 .i64 .i64 (N : Int) (N : Int) (by omega) (by omega) (by rw [hz1]; simp; omega) (by rw [hz2]; omega) (by omega)
 rw [h, hz1]
 simp only [Int.toNat_natCast, Nat.mul_one]
 have e : madeCells (Value.slice none 0 0).cells N = Array.replicate N (Value.slice none 0 0) := by
  apply Array.toList_inj.1
  rw [show (Value.slice none 0 0).cells = #[.slice none 0 0] from rfl, toList_madeCells_one]
  simp
 rw [e]
theorem orow_new (W : World) (N base : Nat) (hN : N ≤ 1000000) (hb : base ≤ W.heap.size) : kL.R TL (W.alloc (.cells (Array.replicate N (Value.slice none 0 0)) TL)) base (fun _ => True) (.slice (some ⟨W.heap.size, 0, none⟩) N N) (List.replicate N []) := by
 refine ⟨fun _ _ => trivial, List.replicate N (.slice none 0 0), ?_, ?_⟩
 ·refine ⟨by simp [kL, Kd.slice], .inr ⟨W.heap.size, N, Array.replicate N (.slice none 0 0), by simp, hb, za9 _ _, by simp, by simp [maxLen]; omega, by simp [kL, Kd.slice], ?_⟩⟩
  simp [kL, Kd.slice]
 ·refine ⟨by simp [kL, Kd.slice], fun j p hp => ?_⟩
  rw [List.getElem?_replicate] at hp
  split at hp
  ·cases hp
   rename_i hj
   refine ⟨.slice none 0 0, ?_, Kd.zdr _ _ _ _ _⟩
   rw [show kL.sz = 1 from rfl, Nat.mul_one, List.drop_replicate]
   obtain ⟨m, hm⟩ : ∃ m, N - j = m + 1 := ⟨N - j - 1, by omega⟩
   rw [hm, List.replicate_succ]
   rfl
  ·cases hp
theorem rsize_calls (A0 A1 A2 : Option Addr) (n0 n1 n2 c0 c1 c2 : Nat) (w : World) (h : n0 + n1 ≤ 1000000) : Calls Tryz.prog 34 #[.agg #[.slice A0 n0 c0, .slice A1 n1 c1, .slice A2 n2 c2]] w fun e w' => e = .returned (.int .i64 ((n0 + n1 : Nat) : Int)) ∧ Below w.heap.size w w' := by
 go_enter Tryz.func34, Tryz.ntmps34
 go_wp2;go_ret
 exact ⟨by go_num, (Below.refl _ _).alloc (Nat.le_refl _) _⟩
structure RS (w : World) (g N : Nat) (ve : Value) (em : List Bool) (a0 a1 a2 : Value) (FS : List (List Int)) (W : World) : Prop where
 b : Below w.heap.size w W
 o : kL.R TL W w.heap.size (fun _ => True) (.slice (some ⟨g, 0, none⟩) N N) FS
 e : Kd.R Kd.bool TB W w.heap.size (fun k => k ≠ g) ve em
 f : W.heap[w.heap.size]? = some (.cells #[a0, a1, a2] TF (0, 0))
 gl : w.heap.size < g
 gs : g < W.heap.size
theorem RS.below {w : World} {g N : Nat} {ve : Value} {em : List Bool} {a0 a1 a2 : Value} {FS : List (List Int)} {W W' : World} (h : RS w g N ve em a0 a1 a2 FS W) (hb : Below W.heap.size W W') : RS w g N ve em a0 a1 a2 FS W' :=
 ⟨h.b.trans (hb.mono h.b.size), Kd.zbc h.o hb, Kd.zbc h.e hb, zat h.f hb, h.gl, by have := h.gs; have := hb.size; omega⟩
theorem RS.put {w : World} {g N : Nat} {ve : Value} {em : List Bool} {a0 a1 a2 : Value} {FS : List (List Int)} {W : World} (h : RS w g N ve em a0 a1 a2 FS W) (i : Nat) (hi : i < N) {v : Value} {x : List Int} (hv : Kd.R (Kd.int .i64) TI W w.heap.size (fun k => k ≠ g) v x) :
  RS w g N ve em a0 a1 a2 (FS.set i x) (W.setCell ⟨g, i, none⟩ v) := by
 obtain ⟨h1, h2⟩ := orow_put h.o i hi hv
 exact ⟨h.b.setCell (p := ⟨g, i, none⟩) (by show w.heap.size ≤ g; have := h.gl; omega) _, h1, Kd.ze2 h.e h2 (fun k hk e => by cases e; exact hk rfl), (Below.heap_setCell _ _ _ _ (by show w.heap.size ≠ g; have := h.gl; omega)).trans h.f, h.gl, by have := h.gs; simpa using this⟩
structure Inv (N : Nat) (FS : List (List Int)) : Prop where
 r : ∀ S ∈ FS, zc8 S
 l : FS.length = N
 d : Bd FS
theorem zeq {FS : List (List Int)} {i : Nat} : FS.getD i [] = [] ∨ FS.getD i [] ∈ FS := by
 rw [List.getD_eq_getElem?_getD]
 cases e : FS[i]? with
 | none => exact .inl rfl
 | some S => exact .inr (List.mem_of_getElem? e)
theorem Inv.rise {N : Nat} {FS : List (List Int)} (h : Inv N FS) (i : Nat) : zc8 (FS.getD i []) := by
 rcases zeq (FS := FS) (i := i) with e | e
 ·rw [e]; exact List.Pairwise.nil
 ·exact h.r _ e
theorem Inv.bnd {N : Nat} {FS : List (List Int)} (h : Inv N FS) (i : Nat) : ∀ x ∈ FS.getD i [], 0 ≤ x ∧ x < 1000000 := by
 rcases zeq (FS := FS) (i := i) with e | e
 ·rw [e]; exact fun _ h => nomatch h
 ·exact h.d _ e
theorem Inv.len {N : Nat} {FS : List (List Int)} (h : Inv N FS) (i : Nat) : (FS.getD i []).length ≤ 1000000 := by
 rcases zeq (FS := FS) (i := i) with e | e
 ·rw [e]; simp
 ·exact zgz h.d h.r _ e
theorem Inv.set {N : Nat} {FS : List (List Int)} (h : Inv N FS) (i : Nat) {X : List Int} (h1 : zc8 X) (h2 : ∀ x ∈ X, 0 ≤ x ∧ x < 1000000) : Inv N (FS.set i X) := by
 refine ⟨fun S hS => ?_, by rw [List.length_set]; exact h.l, fun S hS => ?_⟩
 ·rcases List.mem_or_eq_of_mem_set hS with hS | rfl
  ·exact h.r S hS
  ·exact h1
 ·rcases List.mem_or_eq_of_mem_set hS with hS | rfl
  ·exact h.d S hS
  ·exact h2
theorem Inv.union {N : Nat} {FS : List (List Int)} (h : Inv N FS) (i : Nat) {T X : List Int} (hT : zc8 T) (h1 : ∀ x ∈ T, 0 ≤ x ∧ x < 1000000) (h2 : ∀ x ∈ X, 0 ≤ x ∧ x < 1000000) : Inv N (FS.set i (zbf T X)) :=
 h.set i (zcu _ hT) (fun x hx => ((zch x _ _).1 hx).elim (h2 x) (h1 x))
theorem Inv.init {N n0 : Nat} (hN : N ≤ 1000000) : Inv N (zcq N n0) := by
 refine ⟨fun S hS => ?_, zgl _ _, zi2 hN⟩
 obtain ⟨q, hq, e⟩ := List.mem_iff_getElem.1 hS
 have := zfj (S := S) (by rw [List.getElem?_eq_getElem hq, e])
 subst this
 split
 ·exact List.pairwise_singleton _ _
 ·exact List.Pairwise.nil
def refK (em : List Bool) (left : Nat) : List I → List (List Int) → List (List Int)
 | [], FS => FS
 | i :: t, FS => if at_ em i.1 = true then refK em left t (FS.set left (zbf (FS.getD left []) (FS.getD i.1.toNat []))) else FS.set left (zbf (FS.getD left []) (FS.getD i.1.toNat []))
theorem zi1 {FS : List (List Int)} {left i : Nat} {T : List Int} (hl : left < FS.length) : (FS.set left T).getD i [] = if i = left then T else FS.getD i [] := by
 rw [List.getD_eq_getElem?_getD]
 by_cases e : i = left
 ·subst e
  rw [if_pos rfl, List.getElem?_set_self hl]
  rfl
 ·rw [if_neg e, List.getElem?_set_ne (fun h => e h.symm), ← List.getD_eq_getElem?_getD]
theorem refK_gen {N : Nat} {em : List Bool} {left : Nat} {FS : List (List Int)} (h : Inv N FS) (hl : left < N) : ∀ (l : List I) (T : List Int), ItOk N l → zc8 T → (∀ x ∈ FS.getD left [], x ∈ T) → refK em left l (FS.set left T) = FS.set left (zbf T (ahV N em FS l []))
 | [], T, _, _, _ => rfl
 | i :: t, T, ho, hT, hs => by
  have hi := ho i (by simp)
  have hg : (FS.set left T).getD left [] = T := by rw [zi1 (by rw [h.l]; exact hl), if_pos rfl]
  have hx : ∀ y, y ∈ zbf T ((FS.set left T).getD i.1.toNat []) ↔ y ∈ T ∨ y ∈ FS.getD i.1.toNat [] := fun y => by
   rw [zch, zi1 (by rw [h.l]; exact hl)]
   split
   ·rename_i e
    rw [e]
    exact ⟨fun h => .inl (h.elim id id), fun h => h.elim .inl (fun h => .inl (hs y h))⟩
   ·exact Or.comm
  have hsub : ∀ x ∈ FS.getD left [], x ∈ zbf T ((FS.set left T).getD i.1.toNat []) := fun x hx' => (hx x).2 (.inl (hs x hx'))
  simp only [refK, ahV]
  rw [if_pos (show 0 ≤ i.1 ∧ i.1 < (N : Int) from hi), hg, List.set_set]
  split
  ·rename_i he
   rw [refK_gen h hl t _ (fun j hj => ho j (by simp [hj])) (zcu _ hT) hsub]
   congr 1
   refine zfn (zcu _ (zcu _ hT)) (zcu _ hT) (fun y => ?_)
   rw [zch, hx, zch, zch]
   constructor
   ·rintro (h | h | h)
    ·exact .inl (.inr h)
    ·exact .inr h
    ·exact .inl (.inl h)
   ·rintro ((h | h) | h)
    ·exact .inr (.inr h)
    ·exact .inl h
    ·exact .inr (.inl h)
  ·congr 1
   refine zfn (zcu _ hT) (zcu _ hT) (fun y => ?_)
   rw [hx, zch]
   exact Or.comm
theorem refK_eq {N : Nat} {em : List Bool} {FS : List (List Int)} {p : P} (h : Inv N FS) (hp : PrOk N p) : refK em p.1.toNat p.2.1 FS = (Begin.zcg N em FS p).1 := by
 have hl : p.1.toNat < N := by have := hp.1; have := hp.2.1; omega
 have := refK_gen (em := em) h hl p.2.1 (FS.getD p.1.toNat []) hp.2.2 (h.rise _) (fun x hx => hx)
 have e : FS.set p.1.toNat (FS.getD p.1.toNat []) = FS := by
  rw [List.getD_eq_getElem?_getD, List.getElem?_eq_getElem (by rw [h.l]; exact hl)]
  exact List.set_getElem_self _
 rw [e] at this
 exact this
end Go.Proofs.ZZ.RRow
end
section
namespace Go.Proofs.ZZ.RFirst
open Go Go.RowKit Go.Shelf Go.Maps Go.Sort Go.Proofs.ZW.PrintWords Go.Proofs.ZW.PrintLast Go.Proofs.ZZ.Round Go.Proofs.ZZ.RangeG Go.Proofs.ZZ.RangeH Go.Proofs.ZZ.Fl Go.Proofs.ZZ.Grow Go.Proofs.ZZ.Deri Go.Proofs.ZZ.Seqs Go.Proofs.ZZ.MSet Go.Proofs.ZZ.Ahd Go.Proofs.ZZ.Begin Go.Proofs.ZZ.Begun Go.Proofs.ZZ.Sorts Go.Proofs.ZZ.Refs Go.Proofs.ZZ.RRow
attribute [local go_sem] Oper.semAt_some
theorem initV_next (N j : Nat) (h : j < N) : (zcq N j).set j [(j : Int)] = zcq N (j + 1) := by
 refine List.ext_getElem (by simp [zcq]) (fun i h1 h2 => ?_)
 rw [List.getElem_set]
 simp only [zcq, List.getElem_map, List.getElem_range]
 split
 ·rename_i e
  subst e
  rw [if_pos (Nat.lt_succ_self _)]
 ·rename_i e
  by_cases hi : i < j
  ·rw [if_pos hi, if_pos (by omega)]
  ·rw [if_neg hi, if_neg (by omega)]
theorem initV_zero (N : Nat) : zcq N 0 = List.replicate N [] := by
 refine List.ext_getElem (by simp [zcq]) (fun i h1 h2 => ?_)
 simp [zcq]
theorem row_one (W : World) (x : Int) (base : Nat) (hb : base ≤ W.heap.size) (ok : Nat → Prop) (hok : ok W.heap.size) : Kd.R (Kd.int .i64) TI (W.alloc (.cells #[.int .i64 x] TI)) base ok (.slice (some ⟨W.heap.size, 0, none⟩) 1 1) [x] := by
 refine Kd.ziy (enc := Value.int .i64) (h1 := fun _ => rfl) ?_ (fun k hk => ?_)
 ·exact ⟨rfl, .inr ⟨W.heap.size, 1, #[.int .i64 x], rfl, hb, za9 _ _, by simp, by simp [maxLen], by simp, rfl⟩⟩
 ·obtain rfl : W.heap.size = k := by simpa [Value.ownBlock] using hk
  exact hok
theorem zf1 {N : Nat} {em : List Bool} {FS FZ : List (List Int)} {p : P} {b : Bool} {rest : List P} {R : List (List Int) × Bool} (hI : Inv N FS) (hp : PrOk N p) (h : (p :: rest).foldl (zce (zcg N em)) (FS, b) = R) (hz : FZ = refK em p.1.toNat p.2.1 FS) :
  rest.foldl (zce (zcg N em)) (FZ, b || decide ((FS.getD p.1.toNat []).length < (FZ.getD p.1.toNat []).length)) = R := by
 rw [refK_eq hI hp] at hz
 rw [List.foldl_cons] at h
 have e : zce (zcg N em) (FS, b) p = (FZ, b || decide ((FS.getD p.1.toNat []).length < (FZ.getD p.1.toNat []).length)) := by
  unfold zce
  rw [← hz]
  congr 2
  have e2 : FZ.getD p.1.toNat [] = zbf (FS.getD p.1.toNat []) (ahV N em FS p.2.1 []) := by
   rw [hz]
   show (FS.set _ _).getD _ _ = _
   rw [zi1 (by rw [hI.l]; have := hp.1; have := hp.2.1; omega), if_pos rfl]
  rw [e2]
  rfl
 rw [← e]
 exact h
theorem rfirst_calls (w : World) (A0 A1 A2 : Option Addr) (n0 n1 c0 c1 c2 N : Nat) (hNe : n0 + n1 = N) (ps : List P) (hC : Kd.C kP w A2 ps.length ps) (hN : N ≤ 1000000) (hps : ∀ p ∈ ps, PrOk N p ∧ p.2.1.length ≤ 1000) (em : List Bool) (hel : em.length = N)
  (hE : ∀ W, Below w.heap.size w W → Calls Tryz.prog 39 #[.agg #[.slice A0 n0 c0, .slice A1 n1 c1, .slice A2 ps.length c2]] W fun e W' => ∃ v, e = .returned v ∧ Kd.R Kd.bool TB W' W.heap.size (fun _ => True) v em ∧ Below W.heap.size W W')
  (k : Nat) (Ss : List (List Int)) (hSs : zb2 (zcg N em) ps k (zcq N n0) = some Ss) :
  Calls Tryz.prog 38 #[.agg #[.slice A0 n0 c0, .slice A1 n1 c1, .slice A2 ps.length c2]] w fun e w' => ∃ v, e = .returned v ∧ kL.R TL w' w.heap.size (fun _ => True) v Ss ∧ Below w.heap.size w w' := by
 obtain ⟨W0, hW0⟩ : ∃ W0, w.alloc (.cells #[.slice A0 n0 c0, .slice A1 n1 c1, .slice A2 ps.length c2] TF) = W0 := ⟨_, rfl⟩
 have hB0 : Below w.heap.size w W0 := by rw [← hW0]; exact (Below.refl _ _).alloc (Nat.le_refl _) _
 have f0 : W0.heap[w.heap.size]? = some (.cells #[.slice A0 n0 c0, .slice A1 n1 c1, .slice A2 ps.length c2] TF (0, 0)) := by rw [← hW0]; exact za9 w _
 have cf0 : W0.cell? ⟨w.heap.size, 0, none⟩ = some (.slice A0 n0 c0) := zab f0 0
 have cf1 : W0.cell? ⟨w.heap.size, 1, none⟩ = some (.slice A1 n1 c1) := zab f0 1
 have cf2 : W0.cell? ⟨w.heap.size, 2, none⟩ = some (.slice A2 ps.length c2) := zab f0 2
 have sz0 : W0.heap.size = w.heap.size + 1 := by rw [← hW0]; simp
 have hs := fun W => rsize_calls A0 A1 A2 n0 n1 ps.length c0 c1 c2 W (by rw [hNe]; exact hN)
 rw [hNe] at hs
 have hmk := make_rows N hN
 have HF0 := Lib.hid f0
 have HSs := Lib.hid hSs
 have HNe := Lib.hid hNe
 have HEl := Lib.hid hel
 clear f0 hSs hel
 go_enter Tryz.func38, Tryz.ntmps38
 go_wp2_with (first
  | (go_at_call 34; refine (hs _).mono ?_; rintro e W1 ⟨rfl, hB1⟩; have d0 := zad hB1 cf0; have d1 := zad hB1 cf1; have d2 := zad hB1 cf2; have hB01 := hB0.trans (hB1.mono hB0.size); have hl1 : w.heap.size < W1.heap.size := (by have := hB1.size; omega); have hE1 := hE _ (hB01.alloc hB01.size (.cells (Array.replicate N (Value.slice none 0 0)) TL)))
  | (go_at_call 39; refine hE1.mono ?_; rintro e W2 ⟨ve, rfl, hR2, hB2⟩; clear hE1))
 have hRS0 : RS w W1.heap.size N ve em (.slice A0 n0 c0) (.slice A1 n1 c1) (.slice A2 ps.length c2) (zcq N 0) W2 := by
  have hBa : Below w.heap.size w (W1.alloc (.cells (Array.replicate N (Value.slice none 0 0)) TL)) := hB01.alloc hB01.size _
  refine ⟨hBa.trans (hB2.mono hBa.size), ?_, ?_, zat (zaj (zat HF0.out hB1) _) hB2, by omega, by have := hB2.size; simp at this; omega⟩
  ·rw [initV_zero]
   exact Kd.zbc (orow_new W1 N w.heap.size hN (by omega)) hB2
  ·have h := Kd.zbz hR2 hBa.size
   refine ⟨fun k hk => ?_, h.2⟩
   obtain ⟨cs, ho, _⟩ := hR2.2
   have := zd4 ho k hk
   simp at this
   omega
 obtain ⟨g, hg⟩ : ∃ g, W1.heap.size = g := ⟨_, rfl⟩
 rw [hg] at hRS0
 rw [hg]
 clear hg hR2 hB2 hB01 hB1 hl1 d0 d1 d2 hE hs hmk
 obtain ⟨Ab, cb, rfl, hcb, hCb⟩ := Kd.zds hRS0.e
 have HR0 := hRS0;clear hRS0 hCb
 go_loopw [5] (fun i wr => ∃ j : Nat, i = .int .i64 (j : Int) ∧ j ≤ n0 ∧ RS w g N (.slice Ab em.length cb) em (.slice A0 n0 c0) (.slice A1 n1 c1) (.slice A2 ps.length c2) (zcq N j) wr) (fun i _ => n0 - (Go.RowKit.intOf i).toNat)
 case atStart => exact ⟨0, rfl, Nat.zero_le _, HR0⟩
 case round =>
  obtain ⟨j, rfl, hj, hR⟩ := hrel
  have k0 : wr.cell? ⟨w.heap.size, 0, none⟩ = some (.slice A0 n0 c0) := zab hR.f 0
  by_cases hlt : j < n0
  ·have hRa := hR.below ((Below.refl _ _).alloc (Nat.le_refl _) (.cells #[.int .i64 (j : Int)] TI))
   obtain ⟨A', c', q1, q2, _⟩ := ze8 hRa.o j (by have := HNe.out; omega)
   have hRn := hRa.put j (by have := HNe.out; omega) (row_one wr (j : Int) w.heap.size hR.b.size (fun k => k ≠ g) (by have := hR.gs; omega))
   rw [initV_next N j (by have := HNe.out; omega)] at hRn
   have HRn := Lib.hid hRn
   have hjN : j < N := by have := HNe.out; omega
   clear hRa hRn hR HR0;go_wp2
   go_roundw
   case rel => exact ⟨j + 1, by go_num, by omega, HRn.out⟩
   case measure => simp [Go.RowKit.intOf]; omega
  ·obtain rfl : j = n0 := by omega
   go_wp2
   go_loopg [6] k (fun gk ag wr => (∃ FS, ag = .bool true ∧ Hid (zb2 (zcg N em) ps gk FS = some Ss) ∧ RS w g N (.slice Ab em.length cb) em (.slice A0 j c0) (.slice A1 n1 c1) (.slice A2 ps.length c2) FS wr ∧ Hid (Inv N FS)) ∨ (ag = .bool false ∧ RS w g N (.slice Ab em.length cb) em (.slice A0 j c0) (.slice A1 n1 c1) (.slice A2 ps.length c2) Ss wr))
   case atStart => exact .inl ⟨_, rfl, HSs, hR, Lib.hid (Inv.init hN)⟩
   case round =>
    clear hR HR0 k0 HSs hlt hj
    rcases hrel with ⟨FS, rfl, hG, hR, hI⟩ | ⟨rfl, hR⟩
    rotate_left
    ·go_wp2
     go_ret
     exact ⟨_, rfl, hR.o, hR.b⟩
    have hgm : ∃ m, gk = m + 1 := by
     cases gk with
     | zero => exact nomatch hG.out
     | succ m => exact ⟨m, rfl⟩
    obtain ⟨m, rfl⟩ := hgm
    go_wp2
    obtain ⟨R, hRR⟩ : ∃ R, zc5 (zcg N em) ps FS = R := ⟨_, rfl⟩
    have HG : Hid ((R.2 = true ∧ zb2 (zcg N em) ps m R.1 = some Ss) ∨ (R.2 = false ∧ R.1 = Ss)) := by
     have h := hG.out
     simp only [zb2, hRR] at h
     split at h
     ·exact Lib.hid (.inl ⟨by assumption, h⟩)
     ·exact Lib.hid (.inr ⟨by simpa using (by assumption : ¬ R.2 = true), by simpa using h⟩)
    have HR := Lib.hid (show (ps.drop 0).foldl (zce (zcg N em)) (FS, false) = R from hRR)
    clear hRR hG
    go_loopw [6, 7] (fun ag i wr => ∃ (q : Nat) (FS' : List (List Int)) (b : Bool), i = .int .i64 (q : Int) ∧ q ≤ ps.length ∧ ag = .bool b ∧ Hid ((ps.drop q).foldl (zce (zcg N em)) (FS', b) = R) ∧ RS w g N (.slice Ab em.length cb) em (.slice A0 j c0) (.slice A1 n1 c1) (.slice A2 ps.length c2) FS' wr ∧ Hid (Inv N FS')) (fun _ i _ => ps.length - (Go.RowKit.intOf i).toNat)
    case atStart => exact ⟨0, FS, false, rfl, Nat.zero_le _, rfl, HR, hR, hI⟩
    case round =>
     clear HR hR hI
     obtain ⟨q, FS', b, rfl, hq, rfl, HR, hR, hI⟩ := hrel
     have k2 : wr.cell? ⟨w.heap.size, 2, none⟩ = some (.slice A2 ps.length c2) := zab hR.f 2
     by_cases hlt : q < ps.length
     ·obtain ⟨ad, p, A3, c3, rfl, hp, hl3, hC3, f0', f1', f2'⟩ := atP hC q hlt
      have f0 := zad hR.b f0'
      have f1 := zad hR.b f1'
      have f2 := zad hR.b f2'
      have hpo := hps p (List.mem_of_getElem? hp)
      have hp0 := hpo.1.1
      have hp1 := hpo.1.2.1
      obtain ⟨Al, cl, ka, kf, _⟩ := ze8 hR.o p.1.toNat (by omega)
      have hgs := hR.gs
      have hps9 : p.2.1.length ≤ 9223372036854775807 := hC3.2.1
      have hdp : ps.drop q = p :: ps.drop (q + 1) := by
       rw [List.drop_eq_getElem_cons hlt]
       congr 1
       exact (List.getElem?_eq_some_iff.1 hp).2
      rw [hdp] at HR
      have hpsl : ps.length ≤ 9223372036854775807 := hC.2.1
      have HPO := Lib.hid hpo
      obtain ⟨L0, hL0⟩ : ∃ L0, FS'.getD p.1.toNat [] = L0 := ⟨_, rfl⟩
      rw [hL0] at ka
      have HL0 := Lib.hid hL0
      have HI0 := hI;clear hL0;clear HF0 cf1 cf2 hp hpo hdp f0' f1' f2';go_wp2
      have hB3 : Below wr.heap.size wr (wr.alloc (.cells #[.int .i64 p.1, .slice A3 p.2.1.length c3, .int .i64 p.2.2] TP)) := (Below.refl _ _).alloc (Nat.le_refl _) _
      have hRp := hR.below hB3
      have bp := za9 wr (.cells #[.int .i64 p.1, .slice A3 p.2.1.length c3, .int .i64 p.2.2] TP)
      have szp : (wr.alloc (.cells #[.int .i64 p.1, .slice A3 p.2.1.length c3, .int .i64 p.2.2] TP)).heap.size = wr.heap.size + 1 := by simp
      obtain ⟨Wp, hWp⟩ : ∃ Wp, wr.alloc (.cells #[.int .i64 p.1, .slice A3 p.2.1.length c3, .int .i64 p.2.2] TP) = Wp := ⟨_, rfl⟩
      rw [hWp] at hB3 hRp bp szp
      rw [hWp]
      have BP := Lib.hid bp
      obtain ⟨pb, hpb⟩ : ∃ pb, wr.heap.size = pb := ⟨_, rfl⟩
      rw [hpb] at BP szp hgs
      rw [hpb]
      clear hWp hpb bp hR ka kf f0 f1 f2 k2 hB3
      have HK := Lib.hid (show refK em p.1.toNat (p.2.1.drop 0) FS' = refK em p.1.toNat p.2.1 FS' from rfl)
      go_loopw [10] (fun i wx => ∃ (r : Nat) (FX : List (List Int)), i = .int .i64 (r : Int) ∧ r ≤ p.2.1.length ∧ Hid (refK em p.1.toNat (p.2.1.drop r) FX = refK em p.1.toNat p.2.1 FS') ∧ RS w g N (.slice Ab em.length cb) em (.slice A0 j c0) (.slice A1 n1 c1) (.slice (some ad) ps.length c2) FX wx ∧ Hid (Inv N FX) ∧ Hid (wx.heap[pb]? = some (.cells #[.int .i64 p.1, .slice A3 p.2.1.length c3, .int .i64 p.2.2] TP (0, 0))) ∧ pb < wx.heap.size) (fun i _ => p.2.1.length - (Go.RowKit.intOf i).toNat)
      case atStart => exact ⟨0, FS', rfl, Nat.zero_le _, HK, hRp, hI, BP, by omega⟩
      case round =>
       clear HK hRp BP hI szp
       obtain ⟨r, FX, rfl, hr, HK, hRx, hI, BP, hpw⟩ := hrel
       have b0 := zab BP.out 0
       have b1 := zab BP.out 1
       have hlen := hI.out.l
       obtain ⟨Al, cl, ka, kf, hla, hCa, hRa⟩ := ze8 hRx.o p.1.toNat (by omega)
       by_cases hlr : r < p.2.1.length
       ·obtain ⟨adi, x, rfl, hx, i0', i1', i2'⟩ := atI hC3 r hlr
        have i0 := zad hRx.b i0'
        have hxr := HPO.out.1.2.2 x (List.mem_of_getElem? hx)
        have hx0 := hxr.1
        have hx1 := hxr.2
        obtain ⟨As, cs, ks, _, hls, hCs, _⟩ := ze8 hRx.o x.1.toNat (by omega)
        have hdx : p.2.1.drop r = x :: p.2.1.drop (r + 1) := by
         rw [List.drop_eq_getElem_cons hlr]
         congr 1
         exact (List.getElem?_eq_some_iff.1 hx).2
        rw [hdx] at HK
        clear hx hxr hdx i1' i2'
        obtain ⟨LL, hLL⟩ : ∃ LL, FX.getD p.1.toNat [] = LL := ⟨_, rfl⟩
        obtain ⟨LX, hLX⟩ : ∃ LX, FX.getD x.1.toNat [] = LX := ⟨_, rfl⟩
        have hu1 := hI.out.len p.1.toNat
        have hu2 := hI.out.len x.1.toNat
        rw [hLL] at ka hla hCa hRa hu1
        rw [hLX] at ks hls hCs hu2
        have HLL := Lib.hid hLL
        have HLX := Lib.hid hLX
        clear hLL hLX;go_wp2
        rename_i K6 hK6
        have hHeld : (fun X => X.cell? ⟨pb, 0, none⟩ = some (.int .i64 p.1) ∧ X.cell? ⟨pb, 1, none⟩ = some (.slice (some adi) p.2.1.length c3) ∧ X.cell? ⟨g, p.1.toNat, none⟩ = some (.slice Al LL.length cl) ∧ X.cell? (adi.add (r * 3)) = some (.int .i64 x.1) ∧ X.cell? ⟨g, x.1.toNat, none⟩ = some (.slice As LX.length cs)) wr.drew := ⟨b0, b1, ka, i0, ks⟩
        have keep : ∀ X Y : World, Below X.heap.size X Y → (fun X => X.cell? ⟨pb, 0, none⟩ = some (.int .i64 p.1) ∧ X.cell? ⟨pb, 1, none⟩ = some (.slice (some adi) p.2.1.length c3) ∧ X.cell? ⟨g, p.1.toNat, none⟩ = some (.slice Al LL.length cl) ∧ X.cell? (adi.add (r * 3)) = some (.int .i64 x.1) ∧ X.cell? ⟨g, x.1.toNat, none⟩ = some (.slice As LX.length cs)) X → (fun X => X.cell? ⟨pb, 0, none⟩ = some (.int .i64 p.1) ∧ X.cell? ⟨pb, 1, none⟩ = some (.slice (some adi) p.2.1.length c3) ∧ X.cell? ⟨g, p.1.toNat, none⟩ = some (.slice Al LL.length cl) ∧ X.cell? (adi.add (r * 3)) = some (.int .i64 x.1) ∧ X.cell? ⟨g, x.1.toNat, none⟩ = some (.slice As LX.length cs)) Y := fun X Y h hh => ⟨zad h hh.1, zad h hh.2.1, zad h hh.2.2.1, zad h hh.2.2.2.1, zad h hh.2.2.2.2⟩
        refine zcy (zbl (S := (fun X => X.cell? ⟨pb, 0, none⟩ = some (.int .i64 p.1) ∧ X.cell? ⟨pb, 1, none⟩ = some (.slice (some adi) p.2.1.length c3) ∧ X.cell? ⟨g, p.1.toNat, none⟩ = some (.slice Al LL.length cl) ∧ X.cell? (adi.add (r * 3)) = some (.int .i64 x.1) ∧ X.cell? ⟨g, x.1.toNat, none⟩ = some (.slice As LX.length cs))) (ds := [19]) (Ymk 20 0) (by kernel_rfl) rfl rfl hHeld (fun h0_ => ?_))
        clear h0_
        refine Ypk 0 54 20 1 ?_
        refine Ypk 1 55 20 3 ?_
        refine Ytk 2 56 20 7 hHeld ?_
        refine Ypk 3 57 20 15 ?_
        refine Ypk 4 58 20 31 ?_
        refine Ytk 5 59 20 63 hHeld ?_
        refine Ypk 6 60 20 127 ?_
        refine Ytk 7 61 20 255 hHeld ?_
        refine Ypk 8 62 20 511 ?_
        refine Ypk 9 63 20 1023 ?_
        refine Ytk 10 64 20 2047 hHeld ?_
        refine Ypk 11 65 20 4095 ?_
        refine Ypk 12 66 20 8191 ?_
        refine Ypk 13 67 20 16383 ?_
        refine Ytk 14 68 20 32767 hHeld ?_
        refine Ypk 15 69 20 65535 ?_
        refine Ytk 16 70 20 131071 hHeld ?_
        refine Yok 17 71 20 262143 (fun K hK => ?_)
        refine Ygh Tryz.func41 #[.slice Al LL.length cl, .slice As LX.length cs] ?_
        refine (union_calls Al cl _ As cs _ wr.drew hCa hla hCs (by omega)).mono ?_
        rintro e W4 ⟨v4, rfl, hR4, hB4⟩
        obtain ⟨A4, n4, c4, rfl⟩ : ∃ A n c, v4 = .slice A n c := by
         rcases hR4 with ⟨rfl, _⟩ | h
         ·exact ⟨_, _, _, rfl⟩
         ·obtain ⟨A, c, h, _⟩ := Kd.zds h
          exact ⟨_, _, _, h⟩
        refine ⟨_, rfl, ?_⟩
        have hh1 := keep wr.drew W4 hB4 hHeld
        refine hK.out _ _ hh1 (fun h0_ => ?_)
        clear hK K h0_
        refine Ypk 18 72 20 524287 ?_
        refine zfv (i := 19) (N := none) (Ymk 20 1048575) rfl rfl (by kernel_rfl) (by decide) (fun K hK => ?_)
        have hRx4 := (hRx.below (za4 (Below.refl _ _))).below hB4
        obtain ⟨_, _, kz, kzf, _⟩ := ze8 hRx4.o p.1.toNat (by omega)
        have hput := hRx4.put p.1.toNat (by omega) (v := .slice A4 n4 c4) (x := zbf LL LX) (by
         rcases hR4 with ⟨e3, e4⟩ | h4
         ·rw [e4, e3]
          exact Kd.zbc (Kd.zbc hRa (za4 (Below.refl _ _))) hB4
         ·have h5 := Kd.zbz h4 (base' := w.heap.size) hRx.b.size
          refine ⟨fun k hk => ?_, h5.2⟩
          obtain ⟨cs, ho, _⟩ := h4.2
          have := zd4 ho k hk
          have := hRx.gs
          have e : wr.drew.heap.size = wr.heap.size := rfl
          omega)
        refine skip_ (w1 := W4.setCell ⟨g, p.1.toNat, none⟩ (.slice A4 n4 c4)) (by rfl) rfl ?_ ?_
        ·go_simp
        refine hK.out _ _ ?_
        clear hK K
        refine zbq (by kernel_rfl) ?_
        refine hK6 _ _ ?_
        clear hK6 keep hHeld hh1 hRx4 hR4 kz kzf ka ks kf i0 hla hCa hRa hls hCs
        obtain ⟨Wz, hWz⟩ : ∃ Wz, W4.setCell ⟨g, p.1.toNat, none⟩ (.slice A4 n4 c4) = Wz := ⟨_, rfl⟩
        have hBz : Wz.heap[pb]? = some (.cells #[.int .i64 p.1, .slice (some adi) p.2.1.length c3, .int .i64 p.2.2] TP (0, 0)) := by
         rw [← hWz]
         exact (Below.heap_setCell _ _ _ _ (by show pb ≠ g; omega)).trans (zat (zah BP.out) hB4)
        have hpz : pb < Wz.heap.size := zbk hBz
        rw [hWz] at hput
        rw [hWz]
        clear hWz BP b0 b1
        obtain ⟨FZ, hFZ⟩ : ∃ FZ, FX.set p.1.toNat (zbf LL LX) = FZ := ⟨_, rfl⟩
        rw [hFZ] at hput
        have hIz : Inv N FZ := by
         rw [← hFZ, ← HLL.out, ← HLX.out]
         exact hI.out.union _ (hI.out.rise _) (hI.out.bnd _) (hI.out.bnd _)
        have HKz : Hid ((if at_ em x.1 = true then refK em p.1.toNat (p.2.1.drop (r + 1)) FZ else FZ) = refK em p.1.toNat p.2.1 FS') := by
         have h := HK.out
         simp only [refK] at h
         rw [HLL.out, HLX.out, hFZ] at h
         exact Lib.hid h
        have HIz := Lib.hid hIz
        clear hFZ hIz HK hI HLL HLX hRx hu1 hu2
        have b0 : Wz.cell? ⟨pb, 0, none⟩ = some (.int .i64 p.1) := zab hBz 0
        have b1 : Wz.cell? ⟨pb, 1, none⟩ = some (.slice (some adi) p.2.1.length c3) := zab hBz 1
        obtain ⟨_, _, hCe⟩ := Kd.R_reads' hput.e
        obtain ⟨ae, rfl, ke⟩ := Kd.zf5 hCe x.1 hx0 (by rw [HEl.out]; exact hx1)
        have i0 := zad hput.b i0'
        have HBz := Lib.hid hBz
        clear hBz
        have ke' : Wz.cell? (ae.add x.1.toNat) = some (.bool (at_ em x.1)) := ke
        have hx1e : x.1 < em.length := by rw [HEl.out]; exact hx1
        have hZ := hput;clear ke hput
        cases hat : at_ em x.1 with
        | true =>
         rw [hat] at ke' HKz
         rw [if_pos rfl] at HKz
         go_wp2
         go_roundw
         case rel => exact ⟨r + 1, FZ, by go_num, by omega, HKz, hZ, HIz, HBz, hpz⟩
         case measure => simp [Go.RowKit.intOf]; omega
        | false =>
         rw [hat] at ke' HKz
         rw [if_neg (by decide)] at HKz
         have HFZ := HKz;clear HKz hat
         cases b with
         | true =>
          go_wp2
          go_roundw
          case rel => exact ⟨q + 1, FZ, true, by go_num, by omega, rfl, by have h := zf1 HI0.out HPO.out.1 HR.out HFZ.out; rw [Bool.true_or] at h; exact Lib.hid h, hZ, HIz⟩
          case measure => simp [Go.RowKit.intOf]; omega
         | false =>
          obtain ⟨Az, cz, kz, _, _⟩ := ze8 hZ.o p.1.toNat (by omega)
          obtain ⟨LZ, hLZ⟩ : ∃ LZ, FZ.getD p.1.toNat [] = LZ := ⟨_, rfl⟩
          rw [hLZ] at kz
          have h := zf1 HI0.out HPO.out.1 HR.out HFZ.out
          rw [Bool.false_or, HL0.out, hLZ] at h
          have HH := Lib.hid h
          clear h hLZ;go_wp2
          go_roundw
          case rel => exact ⟨q + 1, FZ, _, by go_num, by omega, rfl, HH, hZ, HIz⟩
          case measure => simp [Go.RowKit.intOf]; omega
       ·obtain rfl : r = p.2.1.length := by omega
        have HFZ : Hid (FX = refK em p.1.toNat p.2.1 FS') := by
         have h := HK.out
         rw [List.drop_length] at h
         exact Lib.hid h
        have hZ := hRx;have HIz := hI;clear HK hRx hI ka hCa hRa hla
        obtain ⟨FZ, hFZ⟩ : ∃ FZ, FX = FZ := ⟨_, rfl⟩
        subst hFZ
        cases b with
        | true =>
         go_wp2
         go_roundw
         case rel => exact ⟨q + 1, FX, true, by go_num, by omega, rfl, by have h := zf1 HI0.out HPO.out.1 HR.out HFZ.out; rw [Bool.true_or] at h; exact Lib.hid h, hZ, HIz⟩
         case measure => simp [Go.RowKit.intOf]; omega
        | false =>
         obtain ⟨Az, cz, kz, _, _⟩ := ze8 hZ.o p.1.toNat (by omega)
         obtain ⟨LZ, hLZ⟩ : ∃ LZ, FX.getD p.1.toNat [] = LZ := ⟨_, rfl⟩
         rw [hLZ] at kz
         have h := zf1 HI0.out HPO.out.1 HR.out HFZ.out
         rw [Bool.false_or, HL0.out, hLZ] at h
         have HH := Lib.hid h
         clear h hLZ;go_wp2
         go_roundw
         case rel => exact ⟨q + 1, FX, _, by go_num, by omega, rfl, HH, hZ, HIz⟩
         case measure => simp [Go.RowKit.intOf]; omega
     ·obtain rfl : q = ps.length := by omega
      have h := HR.out
      rw [List.drop_length] at h
      have h2 : (FS', b) = R := h
      subst h2;clear h HR;go_wp2
      rcases HG.out with ⟨rfl, hg⟩ | ⟨rfl, rfl⟩
      ·go_roundg m
       case measure => omega
       case rel => exact .inl ⟨_, rfl, Lib.hid hg, hR, hI⟩
      ·go_roundg m
       case measure => omega
       case rel => exact .inr ⟨rfl, hR⟩
end Go.Proofs.ZZ.RFirst
end
section
namespace Go.Proofs.ZZ.PNext
open Go.RowKit Go.Proofs.ZW.PrintWords Go.Proofs.ZW.PrintLast Go.Proofs.ZW.PrintMore
section
end
theorem info44 : (Tryz.prog.info? 44).map (fun i => (i.zero, i.size, i.bytes)) = some (some (.agg #[(.int .i64 0), (.string ⟨#[]⟩), (.string ⟨#[]⟩)]), 3, 40) := by kernel_rfl
structure S44 where
 f0 : Int
 f1 : ByteArray
 f2 : ByteArray
def z44 : S44 := ⟨(0 : Int), (⟨#[]⟩ : ByteArray), (⟨#[]⟩ : ByteArray)⟩
def k44 : Kd S44 := Kd.iso (Kd.pair (Kd.int .i64) (Kd.pair Kd.string Kd.string)) (fun x : S44 => (x.f0, x.f1, x.f2))
theorem zi4 : Kd.Heap k44 := Kd.zhh _ (Kd.zd1 (Kd.ze5 .i64) (Kd.zd1 Kd.zfb Kd.zfb))
theorem zi5 {w : World} {x : S44} {cs : List Value} (h : k44.K w x cs) : cs = [.int .i64 x.f0, .string x.f1, .string x.f2] := by
 obtain ⟨_, _, rfl, rfl, ⟨_, _, rfl, rfl, rfl⟩⟩ := h
 exact rfl
theorem k44_mkM (w : World) (base : Nat) (ok : Nat → Prop) (x : S44)  : k44.M w base ok x [.int .i64 x.f0, .string x.f1, .string x.f2] := ⟨[.int .i64 x.f0], [.string x.f1, .string x.f2], rfl, rfl, ⟨[.string x.f1], [.string x.f2], rfl, rfl, rfl⟩⟩
def za3 (xs : List S44) (i : Int) : S44 := xs.getD i.toNat z44
theorem zej {w : World} {A : Option Addr} {n : Nat} {xs : List S44} (h : Kd.C k44 w A n xs) (i : Int) (h0 : 0 ≤ i) (h1 : i < n) : ∃ ad , A = some ad ∧ w.cell? (ad.add (i.toNat * 3)) = some (.int .i64 (za3 xs i).f0) ∧ w.cell? ⟨(ad.add (i.toNat * 3)).block, (ad.add (i.toNat * 3)).off + 1, none⟩ = some (.string (za3 xs i).f1) ∧ w.cell? ⟨(ad.add (i.toNat * 3)).block, (ad.add (i.toNat * 3)).off + 2, none⟩ = some (.string (za3 xs i).f2) := by
 obtain ⟨ad, c, e, _, hK, hc0⟩ := Kd.zeu h z44 i h0 h1
 have hc : ∀ j u, c[j]? = some u → w.cell? (ad.add (i.toNat * 3 + j)) = some u := hc0
 obtain rfl := zi5 hK
 exact ⟨ad, e, hc 0 _ rfl, by rw [← zb5 _ _ 1 (by omega)]; exact hc 1 _ rfl, by rw [← zb5 _ _ 2 (by omega)]; exact hc 2 _ rfl⟩
structure S42 where
 f0 : Int
 f1 : (List S44)
 f2 : Int
def z42 : S42 := ⟨(0 : Int), ([] : List S44), (0 : Int)⟩
def k42 : Kd S42 := Kd.iso (Kd.pair (Kd.int .i64) (Kd.pair (Kd.slice 44 k44) (Kd.int .i64))) (fun x : S42 => (x.f0, x.f1, x.f2))
theorem zdy : Kd.Heap k42 := Kd.zhh _ (Kd.zd1 (Kd.ze5 .i64) (Kd.zd1 (Kd.zji 44 zi4) (Kd.ze5 .i64)))
theorem zdz {w : World} {x : S42} {cs : List Value} (h : k42.K w x cs) : ∃ A1 c1, cs = [.int .i64 x.f0, .slice A1 x.f1.length c1, .int .i64 x.f2] ∧ x.f1.length ≤ c1 ∧ k44.C w A1 x.f1.length x.f1 := by
 obtain ⟨_, _, rfl, rfl, ⟨_, _, rfl, ⟨A1, c1, rfl, l1, g1⟩, rfl⟩⟩ := h
 exact ⟨A1, c1, rfl, l1, g1⟩
theorem k42_mk (w : World) (x : S42) {A1 : Option Addr} {c1 : Nat} (l1 : x.f1.length ≤ c1) (g1 : k44.C w A1 x.f1.length x.f1) : k42.K w x [.int .i64 x.f0, .slice A1 x.f1.length c1, .int .i64 x.f2] := ⟨[.int .i64 x.f0], [.slice A1 x.f1.length c1, .int .i64 x.f2], rfl, rfl, ⟨[.slice A1 x.f1.length c1], [.int .i64 x.f2], rfl, ⟨A1, c1, rfl, l1, g1⟩, rfl⟩⟩
theorem zhw {W : World} {ok : Nat → Prop} {x : S42} {cs : List Value} (h : Kd.FK k42 W ok x cs) : ∃ A1 c1, cs = [.int .i64 x.f0, .slice A1 x.f1.length c1, .int .i64 x.f2] ∧ x.f1.length ≤ c1 ∧ Kd.F k44 W ok A1 x.f1.length x.f1 := by
 obtain ⟨A1, c1, rfl, l1, _⟩ := zdz (Kd.FK_now h)
 exact ⟨A1, c1, rfl, l1, (fun W' hW => by obtain ⟨A1_, c1_, he, l1_, g1_⟩ := zdz (h W' hW); injection (Option.some.inj (show some (Value.slice A1 x.f1.length c1) = some (Value.slice A1_ x.f1.length c1_) from congrArg (fun l => l[1]?) he)) with ha_ _ _; rw [ha_]; exact g1_)⟩
def zaf (xs : List S42) (i : Int) : S42 := xs.getD i.toNat z42
theorem zdf {w : World} {A : Option Addr} {n : Nat} {xs : List S42} (h : Kd.C k42 w A n xs) (i : Int) (h0 : 0 ≤ i) (h1 : i < n) : ∃ ad A1 c1, A = some ad ∧ w.cell? (ad.add (i.toNat * 3)) = some (.int .i64 (zaf xs i).f0) ∧ w.cell? ⟨(ad.add (i.toNat * 3)).block, (ad.add (i.toNat * 3)).off + 1, none⟩ = some (.slice A1 (zaf xs i).f1.length c1) ∧ w.cell? ⟨(ad.add (i.toNat * 3)).block, (ad.add (i.toNat * 3)).off + 2, none⟩ = some (.int .i64 (zaf xs i).f2) ∧ (zaf xs i).f1.length ≤ c1 ∧ k44.C w A1 (zaf xs i).f1.length (zaf xs i).f1 := by
 obtain ⟨ad, c, e, _, hK, hc0⟩ := Kd.zeu h z42 i h0 h1
 have hc : ∀ j u, c[j]? = some u → w.cell? (ad.add (i.toNat * 3 + j)) = some u := hc0
 obtain ⟨A1, c1, rfl, l1, g1⟩ := zdz hK
 exact ⟨ad, A1, c1, e, hc 0 _ rfl, by rw [← zb5 _ _ 1 (by omega)]; exact hc 1 _ rfl, by rw [← zb5 _ _ 2 (by omega)]; exact hc 2 _ rfl, l1, g1⟩
structure S25 where
 f0 : (List ByteArray)
 f1 : (List ByteArray)
 f2 : (List S42)
def z25 : S25 := ⟨([] : List ByteArray), ([] : List ByteArray), ([] : List S42)⟩
structure S50 where
 f0 : Int
 f1 : Int
 f2 : Int
def z50 : S50 := ⟨(0 : Int), (0 : Int), (0 : Int)⟩
def k50 : Kd S50 := Kd.iso (Kd.pair (Kd.int .i64) (Kd.pair (Kd.int .i64) (Kd.int .i64))) (fun x : S50 => (x.f0, x.f1, x.f2))
def zae (xs : List S50) (i : Int) : S50 := xs.getD i.toNat z50
section
end
theorem Yb_PNextx1_0 {n : Nat} {w w' : World} (h : Below n w w' := by repeat (first | (with_reducible first | exact HB.out | apply za2 | apply zav | apply zas | refine za6 ?_ GE101.out) | exact HB.out)) : Below n w w' := h
def zcp.f (l0_0 : List ByteArray) (l0_1 : List ByteArray) (l0_2 : List (S42)) (a1 : Int) : Option ((List (S44))) := if a1 < 0 then (some (([(⟨(l0_0.length : Int), (⟨#[]⟩ : ByteArray), (⟨#[]⟩ : ByteArray)⟩ : S44)] : List (S44)))) else (if 0 ≤ a1 then (if a1 < (l0_2.length : Int) then (some ((zaf l0_2 a1).f1)) else (none)) else (none))
theorem zcp.calls (A0_0 : Option Addr) (c0_0 : Nat) (l0_0 : List ByteArray) (A0_1 : Option Addr) (c0_1 : Nat) (l0_1 : List ByteArray) (P0_2_ : Nat → Prop) (A0_2 : Option Addr) (c0_2 : Nat) (l0_2 : List (S42)) (a1 : Int) (r : List (S44)) (w : World) (hr0_0 : Kd.C Kd.string w A0_0 l0_0.length l0_0) (hc0_0 : l0_0.length ≤ c0_0) (hr0_1 : Kd.C Kd.string w A0_1 l0_1.length l0_1) (hc0_1 : l0_1.length ≤ c0_1) (hs0_2 : Kd.V k42 42 w w.heap.size (fun k_ => P0_2_ k_) (.slice A0_2 l0_2.length c0_2) l0_2) (h : zcp.f l0_0 l0_1 l0_2 a1 = some r) :
  Calls Tryz.prog 35 #[.agg #[.slice A0_0 l0_0.length c0_0, .slice A0_1 l0_1.length c0_1, .slice A0_2 l0_2.length c0_2], .int .i64 a1] w fun e w' => ∃ v0_ : Value, e = .returned (v0_) ∧ Kd.V k44 44 w' w.heap.size (fun k_ => (P0_2_ k_ ∨ w.heap.size ≤ k_)) v0_ r ∧ Below w.heap.size w w' := by
 have hu25 := Tryz.underlying25
 have hu44 := Tryz.underlying44
 have HR0_0 := zaa.mk hr0_0;have HC0_0 := zaa.mk hc0_0;clear hr0_0 hc0_0;have HR0_1 := zaa.mk hr0_1;have HC0_1 := zaa.mk hc0_1;clear hr0_1 hc0_1
 have HO0_2 := zaa.mk (show Kd.V k42 42 w w.heap.size (fun k_ => (P0_2_ k_ ∨ w.heap.size ≤ k_)) (.slice A0_2 l0_2.length c0_2) l0_2 from Kd.zc2 hs0_2 (fun k_ hk => .inl hk))
 have HB := zaa.mk (Below.refl w.heap.size w)
 have H : (if a1 < 0 then (some (([(⟨(l0_0.length : Int), (⟨#[]⟩ : ByteArray), (⟨#[]⟩ : ByteArray)⟩ : S44)] : List (S44)))) else (if 0 ≤ a1 then (if a1 < (l0_2.length : Int) then (some ((zaf l0_2 a1).f1)) else (none)) else (none))) = some r := h
 clear h
 by_cases c3 : a1 < 0
 ·rw [if_pos c3] at H
  have c3b0 := decide_eq_true c3
  clear c3
  obtain ⟨y102, hy102⟩ : ∃ y_ : List (S44), y_ = (([(⟨(l0_0.length : Int), (⟨#[]⟩ : ByteArray), (⟨#[]⟩ : ByteArray)⟩ : S44)] : List (S44))) := ⟨_, rfl⟩
  replace H : (some y102) = some r := by first | (rw [hy102]; with_reducible exact H) | (have H2_ := (Option.bind_some _ _).symm.trans H; rw [hy102]; with_reducible exact H2_) | (have H2_ := (Option.bind_some _ _).symm.trans H; with_reducible exact H2_) | with_reducible exact H | (rw [hy102]; exact H) | exact H
  have Ny102 := zaa.mk hy102;clear hy102;obtain rfl := Option.some.inj H
  go_enter Tryz.func35, Tryz.ntmps35
  go_wp2_with (first | ((with_reducible refine zau (N := 2) rfl ?_); refine Ybx 2 #[.slice A0_0 l0_0.length c0_0, .slice A0_1 l0_1.length c0_1, .slice A0_2 l0_2.length c0_2] 25 ?_; intro gb101 hg w4 hbox hb; replace HO0_2 := zaa.mk (Kd.zh4 (Kd.zhc (by (with_reducible repeat (first | apply Kd.V_alloc | apply Kd.V_drewN | apply Kd.V_drew)); exact HO0_2.out) gb101 (Nat.le_of_eq hg.symm)) hb); obtain ⟨BK101, GW101, GE101, HB⟩ := Yb4 hbox hg hb Ybe; clear hb hbox hg; obtain ⟨hcz5_0, hfz5_0, hcz5_1, hfz5_1, hcz5_2, hfz5_2⟩ := Yc3 BK101.out) | ((with_reducible refine zau (N := 11) rfl ?_); refine Kd.R_lit k44 _ 44 ?hg (N := 11) ?hd (xs := ([(⟨(l0_0.length : Int), (⟨#[]⟩ : ByteArray), (⟨#[]⟩ : ByteArray)⟩ : S44)] : List (S44))) (inner := [.int .i64 (l0_0.length : Int), .string (⟨#[]⟩ : ByteArray), .string (⟨#[]⟩ : ByteArray)]) (ok := fun _ => True) (okp := fun _ => True) ?hr ?hp (fun _ hk => hk) trivial (Below.refl _ _) (Nat.le_refl _) (by simp) ?_; (case hd => rfl); (case hg => rfl); (case hr => first | (go_simp; done) | (go_simp; rfl)); (case hp => exact (Reps.c3 (show Kd.M k44 _ _ _ (⟨(l0_0.length : Int), (⟨#[]⟩ : ByteArray), (⟨#[]⟩ : ByteArray)⟩ : S44) [.int .i64 (l0_0.length : Int), .string (⟨#[]⟩ : ByteArray), .string (⟨#[]⟩ : ByteArray)] from (k44_mkM _ _ _ (⟨(l0_0.length : Int), (⟨#[]⟩ : ByteArray), (⟨#[]⟩ : ByteArray)⟩ : S44) )) (Reps.none _ _))); intro v103 w6 ho7 hb hg_ hnew_; clear hg_ hnew_; (first | rw [← Ny102.out] at ho7 | (simp only [Int.reduceToNat] at ho7; rw [← Ny102.out] at ho7)); replace HO0_2 := zaa.mk (Kd.V_elder' (by (with_reducible repeat (first | apply Kd.V_alloc | apply Kd.V_drewN | apply Kd.V_drew)); exact HO0_2.out) (Kd.zcj ho7) hb); have HO104 := zaa.mk (Kd.zbz (Kd.R_newM (M := fun k_ => (w.heap.size ≤ k_)) ho7 (za8 Yb_PNextx1_0) (fun k_ h_ => h_)) (za8 Yb_PNextx1_0)); replace BK101 := Ykb BK101 hb; replace HB := zaa.mk (zay Yb_PNextx1_0 hb); clear hb ho7))
  go_ret
  exact ⟨_, by first | rfl | (simp [errW_none, errW_some] <;> rfl) | (simp [*, errW_none, errW_some] <;> rfl), Kd.zc2 (Kd.R_V (by (with_reducible repeat (first | apply Kd.R_alloc | apply Kd.zb0 | apply Kd.zbn)); exact Kd.zba HO104.out (fun _ hk => hk.1))) (fun k_ hk => by first | exact ⟨(.inr (hk.1)), hk.2⟩ | exact (.inr (hk))), Yb_PNextx1_0⟩
 ·rw [if_neg c3] at H
  have c3b0 := decide_eq_false c3
  clear c3
  by_cases c8 : 0 ≤ a1
  ·rw [if_pos c8] at H
   have c8b0 := decide_eq_true c8
   clear c8
   by_cases c9 : a1 < (l0_2.length : Int)
   ·rw [if_pos c9] at H
    have c9b0 := decide_eq_true c9
    clear c9;obtain rfl := Option.some.inj H
    go_enter Tryz.func35, Tryz.ntmps35
    go_wp2_with (first | ((with_reducible refine zau (N := 2) rfl ?_); refine Ybx 2 #[.slice A0_0 l0_0.length c0_0, .slice A0_1 l0_1.length c0_1, .slice A0_2 l0_2.length c0_2] 25 ?_; intro gb101 hg w10 hbox hb; replace HO0_2 := zaa.mk (Kd.zh4 (Kd.zhc (by (with_reducible repeat (first | apply Kd.V_alloc | apply Kd.V_drewN | apply Kd.V_drew)); exact HO0_2.out) gb101 (Nat.le_of_eq hg.symm)) hb); obtain ⟨BK101, GW101, GE101, HB⟩ := Yb4 hbox hg hb Ybe; clear hb hbox hg; obtain ⟨hcz11_0, hfz11_0, hcz11_1, hfz11_1, hcz11_2, hfz11_2⟩ := Yc3 BK101.out; have p105 : 0 ≤ (a1 : Int) := Yod; have q105 : a1 < (l0_2.length : Int) := Yod; obtain ⟨ad105, A105_1, c105_1, e105, hx105_0, hx105_1, hx105_2, hl105_1, hi105_1⟩ := zdf (Kd.V_reads' HO0_2.out).2.2 a1 p105 q105; cases e105; obtain ⟨ce105, hce105, hMe105, hcc105⟩ := Kd.V_get HO0_2.out z42 a1 p105 (by first | exact q105 | exact of_decide_eq_true (by first | (with_reducible assumption) | assumption) | (have e_ := (Kd.V_reads' HO0_2.out).1; omega)); obtain ⟨ua105_1, uc105_1, rfl, ul105_1, ge105_1⟩ := zhw hMe105; have hv105_1 := hcc105 1 _ rfl; rw [zb5 _ _ 1 (by omega)] at hv105_1; replace hv105_1 := Option.some.inj (hv105_1.symm.trans hx105_1); injection hv105_1 with hva_ hvn_ hvc_; rw [hva_] at ge105_1; rw [hvc_] at ul105_1; have HL105_1 := zaa.mk (show Kd.V k44 44 _ w.heap.size _ _ ((zaf l0_2 a1).f1) from Kd.V_mk ul105_1 ge105_1); clear hva_ hvn_ hvc_ ge105_1 ul105_1; clear hcc105 hce105; have HR105_1 := zaa.mk hi105_1; have HC105_1 := zaa.mk hl105_1; clear hi105_1 hl105_1; replace p105 := eq_true p105; replace q105 := eq_true q105))
    go_ret
    exact ⟨_, by first | rfl | (simp [errW_none, errW_some] <;> rfl) | (simp [*, errW_none, errW_some] <;> rfl), by (with_reducible repeat (first | apply Kd.V_alloc | apply Kd.V_drewN | apply Kd.V_drew)); exact Kd.zc2 HL105_1.out (fun _ hk => hk.1), Yb_PNextx1_0⟩
   ·rw [if_neg c9] at H
    exact absurd H (by simp)
  ·rw [if_neg c8] at H
   exact absurd H (by simp)
section
end
theorem Yb_PNextx2_0 {n : Nat} {w w' : World} (h : Below n w w' := by repeat (first | (with_reducible first | exact HB.out | apply za2 | apply zav | apply zas | refine za6 ?_ GE106.out) | exact HB.out)) : Below n w w' := h
theorem Yb_PNextx2_1 {n : Nat} {w w' : World} (h : Below n w w' := by repeat (first | (with_reducible first | exact HB.out | apply za2 | apply zav | apply zas | refine za6 ?_ GE106.out | refine za6 ?_ GE107.out) | exact HB.out)) : Below n w w' := h
def zbp.f (l0_0 : List ByteArray) (l0_1 : List ByteArray) (l0_2 : List (S42)) (a1_0 : Int) (a1_1 : Int) (a1_2 : Int) : Option (Bool) := if a1_0 ≥ (-1) then (if a1_0 < (l0_2.length : Int) then (if a1_1 ≥ 0 then ((zcp.f l0_0 l0_1 l0_2 a1_0).bind fun t108 => (if a1_1 ≤ (t108.length : Int) then (if a1_2 ≥ 0 then (some (decide (a1_2 ≤ (l0_0.length : Int)))) else (some false)) else (some false))) else (some false)) else (some false)) else (some false)
def zbp.T1 : Bool × List (List Nat × List Nat) := (true, [([], []), ([0], [0]), ([1], [1]), ([2], [2]), ([3], [3]), ([4, 3], [3, 4]), ([3], [3]), ([6, 3], [3, 6]), ([7, 3], [3, 7]), ([5, 8, 3], [3, 5, 8]), ([3, 9], [3, 9]), ([10, 3], [10]), ([11], [11]), ([12, 11], [11, 12]), ([13, 11], [11, 13]), ([11, 14], [11, 14]), ([15, 11], [15]), ([16], [16]), ([17, 16], [16, 17]), ([16], [16]), ([16], [16]), ([20, 16], [16, 20]), ([19, 21, 16, 16], [16, 19, 21]), ([22, 16], [16, 22]), ([18, 23, 16], [16, 18, 23]), ([16, 24], [16, 24]), ([25, 22], [25]), ([26], [26]), ([27, 26], [26, 27]), ([28, 26], [26, 28]), ([26, 29], [26, 29]), ([30, 26], [30]), ([31], [31]), ([32, 31], [31, 32]), ([31], [31]), ([34, 31], [31, 34]), ([35, 31], [31, 35]), ([33, 36, 31], [31, 33, 36]), ([31, 37], [31, 37]), ([38, 31, 0, 1, 2, 3, 4, 5, 6, 7, 8, 9, 10, 11, 12, 13, 14, 15, 16, 17, 18, 19, 20, 21, 22, 23, 24, 25, 26, 27, 28, 29, 30, 31, 32, 33, 34, 35, 36, 37, 38], [38])])
def zbp.B1 : List Nat := [0, 1, 3, 7, 15, 31, 15, 79, 207, 511, 1023, 2047, 4095, 8191, 16383, 32767, 65535, 131071, 262143, 131071, 131071, 1179647, 3801087, 7995391, 16777215, 33554431, 67108863, 134217727, 268435455, 536870911, 1073741823, 2147483647, 4294967295, 8589934591, 4294967295, 21474836479, 55834574847, 137438953471, 274877906943, 549755813887]
theorem zbp.tab1 : rtab .any (opsOf Tryz.f17 1) = zbp.T1 := by kernel_rfl
theorem zbp.zeh : zc6 zbp.T1.2 zbp.B1 = true := by kernel_rfl
theorem zbp.calls (A0_0 : Option Addr) (c0_0 : Nat) (l0_0 : List ByteArray) (A0_1 : Option Addr) (c0_1 : Nat) (l0_1 : List ByteArray) (A0_2 : Option Addr) (c0_2 : Nat) (l0_2 : List (S42)) (a1_0 : Int) (a1_1 : Int) (a1_2 : Int) (r : Bool) (w : World) (hr0_0 : Kd.C Kd.string w A0_0 l0_0.length l0_0) (hc0_0 : l0_0.length ≤ c0_0) (hr0_1 : Kd.C Kd.string w A0_1 l0_1.length l0_1) (hc0_1 : l0_1.length ≤ c0_1) (hr0_2 : Kd.C k42 w A0_2 l0_2.length l0_2) (hc0_2 : l0_2.length ≤ c0_2) (h : zbp.f l0_0 l0_1 l0_2 a1_0 a1_1 a1_2 = some r) :
  Calls Tryz.prog 17 #[.agg #[.slice A0_0 l0_0.length c0_0, .slice A0_1 l0_1.length c0_1, .slice A0_2 l0_2.length c0_2], .agg #[.int .i64 a1_0, .int .i64 a1_1, .int .i64 a1_2]] w fun e w' => e = .returned (.bool r) ∧ Below w.heap.size w w' := by
 have hu25 := Tryz.underlying25
 have hu50 := Tryz.underlying50
 have HR0_0 := zaa.mk hr0_0;have HC0_0 := zaa.mk hc0_0;clear hr0_0 hc0_0;have HR0_1 := zaa.mk hr0_1;have HC0_1 := zaa.mk hc0_1;clear hr0_1 hc0_1;have HR0_2 := zaa.mk hr0_2;have HC0_2 := zaa.mk hc0_2;clear hr0_2 hc0_2
 have HB := zaa.mk (Below.refl w.heap.size w)
 have H : (if a1_0 ≥ (-1) then (if a1_0 < (l0_2.length : Int) then (if a1_1 ≥ 0 then ((zcp.f l0_0 l0_1 l0_2 a1_0).bind fun t108 => (if a1_1 ≤ (t108.length : Int) then (if a1_2 ≥ 0 then (some (decide (a1_2 ≤ (l0_0.length : Int)))) else (some false)) else (some false))) else (some false)) else (some false)) else (some false)) = some r := h
 clear h
 by_cases c3 : a1_0 ≥ (-1)
 ·rw [if_pos c3] at H
  have c3b0 := decide_eq_true c3
  clear c3
  by_cases c4 : a1_0 < (l0_2.length : Int)
  ·rw [if_pos c4] at H
   have c4b0 := decide_eq_true c4
   clear c4
   by_cases c5 : a1_1 ≥ 0
   ·rw [if_pos c5] at H
    have c5b0 := decide_eq_true c5
    clear c5;replace H := Option.bind_eq_some_iff.mp H
    obtain ⟨t108, A60, H⟩ := H
    replace H : (if a1_1 ≤ (t108.length : Int) then (if a1_2 ≥ 0 then (some (decide (a1_2 ≤ (l0_0.length : Int)))) else (some false)) else (some false)) = some r := H
    have A6 := zaa.mk A60;clear A60
    by_cases c7 : a1_1 ≤ (t108.length : Int)
    ·rw [if_pos c7] at H
     have c7b0 := decide_eq_true c7
     clear c7
     by_cases c8 : a1_2 ≥ 0
     ·rw [if_pos c8] at H
      have c8b0 := decide_eq_true c8
      clear c8;obtain rfl := Option.some.inj H
      go_enter Tryz.func17, Tryz.ntmps17
      try go_wp2_with (first | ((with_reducible refine zau (N := 2) rfl ?_); (try (refine zaz (by rfl) ?_; dsimp only)); refine Ybx 2 #[.slice A0_0 l0_0.length c0_0, .slice A0_1 l0_1.length c0_1, .slice A0_2 l0_2.length c0_2] 25 ?_; intro gb106 hg w9 hbox hb; obtain ⟨BK106, GW106, GE106, HB⟩ := Yb4 hbox hg hb Ybe; clear hb hbox hg) | ((with_reducible refine zau (N := 3) rfl ?_); (try (refine zaz (by rfl) ?_; dsimp only)); refine Ybx 3 #[.int .i64 a1_0, .int .i64 a1_1, .int .i64 a1_2] 50 ?_; intro gb107 hg w10 hbox hb; obtain ⟨BK107, GW107, GE107, HB⟩ := Yb4 hbox hg hb Yb_PNextx2_0; have NB106_107 := Ynl BK106 hg; have NB107_106 := Yng BK106 hg; replace BK106 := Ykb BK106 hb; clear hb hbox hg))
      replace BK106 := zaa.mk (zah BK106.out)
      replace BK107 := zaa.mk (zah BK107.out)
      replace HB := zaa.mk (zas HB.out)
      refine zbl (n := 40) (S := fun w' => w'.cell? ⟨gb107, 0, none⟩ = some (.int .i64 a1_0) ∧ w'.cell? ⟨gb107, 1, none⟩ = some (.int .i64 a1_1) ∧ w'.cell? ⟨gb107, 2, none⟩ = some (.int .i64 a1_2) ∧ w'.cell? ⟨gb106, 0, none⟩ = some (.slice A0_0 l0_0.length c0_0) ∧ w'.cell? ⟨gb106, 1, none⟩ = some (.slice A0_1 l0_1.length c0_1) ∧ w'.cell? ⟨gb106, 2, none⟩ = some (.slice A0_2 l0_2.length c0_2)) (ds := []) (Ymk 40 0) (by kernel_rfl) rfl rfl ⟨(zab BK107.out 0).trans rfl, (zab BK107.out 1).trans rfl, (zab BK107.out 2).trans rfl, (zab BK106.out 0).trans rfl, (zab BK106.out 1).trans rfl, (zab BK106.out 2).trans rfl⟩ (fun hHeld => ?_); refine zbw zbp.tab1 zbp.zeh (fun HT_ HW_ => ?_)
      generalize w10.drew = w11 at BK106 BK107 HB hHeld ⊢
      refine Ypt 0 5 40 1 HT_ ?_
      refine Ytt 1 6 40 3 HT_ HW_ hHeld ?_
      refine Ypt 2 7 40 7 HT_ ?_
      refine Ypt 3 8 40 15 HT_ ?_
      refine Ypt 4 9 40 31 HT_ ?_
      refine Ypt 6 11 40 95 HT_ ?_
      refine Ytt 5 10 40 127 HT_ HW_ hHeld ?_
      refine Ytt 7 12 40 255 HT_ HW_ hHeld ?_
      refine Ypt 8 13 40 511 HT_ ?_
      refine Ypt 9 14 40 1023 HT_ ?_
      refine Ypt 10 15 40 2047 HT_ ?_
      refine Ypt 11 16 40 4095 HT_ ?_
      refine Ypt 12 17 40 8191 HT_ ?_
      refine Ytt 13 18 40 16383 HT_ HW_ hHeld ?_
      refine Ypt 14 19 40 32767 HT_ ?_
      refine Ypt 15 20 40 65535 HT_ ?_
      refine Ypt 16 21 40 131071 HT_ ?_
      refine Ypt 17 22 40 262143 HT_ ?_
      refine Ypt 20 25 40 1310719 HT_ ?_
      refine Ytt 18 23 40 1572863 HT_ HW_ hHeld ?_
      refine Ytt 19 24 40 2097151 HT_ HW_ hHeld ?_
      refine Ytt 21 26 40 4194303 HT_ HW_ hHeld ?_
      refine Yot 22 27 40 8388607 HT_ (fun K hK => ?_)
      refine Ygs Tryz.func35 #[.agg #[.slice A0_0 l0_0.length c0_0, .slice A0_1 l0_1.length c0_1, .slice A0_2 l0_2.length c0_2], .int .i64 a1_0] ?_
      with_reducible refine (zcp.calls _ _ l0_0 _ _ l0_1 (fun k_ => k_ < w.heap.size) _ _ l0_2 a1_0 t108 _ (Kd.zak HR0_0.out Ybe) HC0_0.out (Kd.zak HR0_1.out Ybe) HC0_1.out ?side5 A6.out).mono ?_
      (case side5 => exact Kd.V_mk HC0_2.out (Kd.zd8 (Kd.C_F zdy HR0_2.out) Yb_PNextx2_1))
      rintro e w12 ⟨v109, rfl, ho0, hb⟩
      refine ⟨_, rfl, ?_⟩
      have HO110 := zaa.mk (Kd.zef (Kd.zc2 (ok' := fun k_ => k_ ≠ gb106 ∧ k_ ≠ gb107) ho0 (fun k_ hk_ => ⟨Or.elim hk_ (fun hs_ => fun e_ => Nat.not_le.2 hs_ (by rw [e_]; exact GW106.out)) (fun hn_ => (Kd.zcl (g := gb106) (o := .cells #[.slice A0_0 l0_0.length c0_0, .slice A0_1 l0_1.length c0_1, .slice A0_2 l0_2.length c0_2] 25 (0, 0)) (Yg BK106) k_ hn_)), Or.elim hk_ (fun hs_ => fun e_ => Nat.not_le.2 hs_ (by rw [e_]; exact GW107.out)) (fun hn_ => (Kd.zcl (g := gb107) (o := .cells #[.int .i64 a1_0, .int .i64 a1_1, .int .i64 a1_2] 50 (0, 0)) (Yg BK107) k_ hn_))⟩)) (za8 Yb_PNextx2_1))
      replace BK106 := Ykb BK106 hb
      replace BK107 := Ykb BK107 hb
      replace HB := zaa.mk (zay Yb_PNextx2_1 hb)
      (try clear hb)
      (try clear hb2)
      (try clear hk)
      (try clear hi)
      (try clear ho0)
      obtain ⟨Ao13, co13, eo13⟩ := Kd.zeg HO110.out
      (first | subst eo13 | (injection eo13 with f1_ f2_ f3_; have f4_ := f1_.symm; have f5_ := f3_.symm; clear f1_ f2_ f3_; subst f4_; subst f5_))
      refine hK.out _ _ ⟨(zab BK107.out 0).trans rfl, (zab BK107.out 1).trans rfl, (zab BK107.out 2).trans rfl, (zab BK106.out 0).trans rfl, (zab BK106.out 1).trans rfl, (zab BK106.out 2).trans rfl⟩ (fun hHeld => ?_)
      clear hK K
      refine Ynw 27 ?_
      refine Ypt 23 28 40 16777215 HT_ ?_
      refine Ypt 24 29 40 33554431 HT_ ?_
      refine Ypt 25 30 40 67108863 HT_ ?_
      refine Ypt 26 31 40 134217727 HT_ ?_
      refine Ypt 27 32 40 268435455 HT_ ?_
      refine Ytt 28 33 40 536870911 HT_ HW_ hHeld ?_
      refine Ypt 29 34 40 1073741823 HT_ ?_
      refine Ypt 30 35 40 2147483647 HT_ ?_
      refine Ypt 31 36 40 4294967295 HT_ ?_
      refine Ypt 32 37 40 8589934591 HT_ ?_
      refine Ypt 34 39 40 25769803775 HT_ ?_
      refine Ytt 33 38 40 34359738367 HT_ HW_ hHeld ?_
      refine Ytt 35 40 40 68719476735 HT_ HW_ hHeld ?_
      refine Ypt 36 41 40 137438953471 HT_ ?_
      refine Ypt 37 42 40 274877906943 HT_ ?_
      refine Ypt 38 43 40 549755813887 HT_ ?_
      refine Ypt 39 4 40 1099511627775 HT_ ?_
      refine zbq (zb4 HT_.out (by kernel_rfl)) ?_
      try go_wp2
      go_ret
      exact ⟨Yfi, Yb_PNextx2_1⟩
     ·rw [if_neg c8] at H
      have c8b0 := decide_eq_false c8
      clear c8;obtain rfl := Option.some.inj H
      go_enter Tryz.func17, Tryz.ntmps17
      try go_wp2_with (first | ((with_reducible refine zau (N := 2) rfl ?_); (try (refine zaz (by rfl) ?_; dsimp only)); refine Ybx 2 #[.slice A0_0 l0_0.length c0_0, .slice A0_1 l0_1.length c0_1, .slice A0_2 l0_2.length c0_2] 25 ?_; intro gb106 hg w14 hbox hb; obtain ⟨BK106, GW106, GE106, HB⟩ := Yb4 hbox hg hb Ybe; clear hb hbox hg) | ((with_reducible refine zau (N := 3) rfl ?_); (try (refine zaz (by rfl) ?_; dsimp only)); refine Ybx 3 #[.int .i64 a1_0, .int .i64 a1_1, .int .i64 a1_2] 50 ?_; intro gb107 hg w15 hbox hb; obtain ⟨BK107, GW107, GE107, HB⟩ := Yb4 hbox hg hb Yb_PNextx2_0; have NB106_107 := Ynl BK106 hg; have NB107_106 := Yng BK106 hg; replace BK106 := Ykb BK106 hb; clear hb hbox hg))
      replace BK106 := zaa.mk (zah BK106.out)
      replace BK107 := zaa.mk (zah BK107.out)
      replace HB := zaa.mk (zas HB.out)
      refine zbl (n := 40) (S := fun w' => w'.cell? ⟨gb107, 0, none⟩ = some (.int .i64 a1_0) ∧ w'.cell? ⟨gb107, 1, none⟩ = some (.int .i64 a1_1) ∧ w'.cell? ⟨gb107, 2, none⟩ = some (.int .i64 a1_2) ∧ w'.cell? ⟨gb106, 0, none⟩ = some (.slice A0_0 l0_0.length c0_0) ∧ w'.cell? ⟨gb106, 1, none⟩ = some (.slice A0_1 l0_1.length c0_1) ∧ w'.cell? ⟨gb106, 2, none⟩ = some (.slice A0_2 l0_2.length c0_2)) (ds := []) (Ymk 40 0) (by kernel_rfl) rfl rfl ⟨(zab BK107.out 0).trans rfl, (zab BK107.out 1).trans rfl, (zab BK107.out 2).trans rfl, (zab BK106.out 0).trans rfl, (zab BK106.out 1).trans rfl, (zab BK106.out 2).trans rfl⟩ (fun hHeld => ?_); refine zbw zbp.tab1 zbp.zeh (fun HT_ HW_ => ?_)
      generalize w15.drew = w16 at BK106 BK107 HB hHeld ⊢
      refine Ypt 0 5 40 1 HT_ ?_
      refine Ytt 1 6 40 3 HT_ HW_ hHeld ?_
      refine Ypt 2 7 40 7 HT_ ?_
      refine Ypt 3 8 40 15 HT_ ?_
      refine Ypt 4 9 40 31 HT_ ?_
      refine Ypt 6 11 40 95 HT_ ?_
      refine Ytt 5 10 40 127 HT_ HW_ hHeld ?_
      refine Ytt 7 12 40 255 HT_ HW_ hHeld ?_
      refine Ypt 8 13 40 511 HT_ ?_
      refine Ypt 9 14 40 1023 HT_ ?_
      refine Ypt 10 15 40 2047 HT_ ?_
      refine Ypt 11 16 40 4095 HT_ ?_
      refine Ypt 12 17 40 8191 HT_ ?_
      refine Ytt 13 18 40 16383 HT_ HW_ hHeld ?_
      refine Ypt 14 19 40 32767 HT_ ?_
      refine Ypt 15 20 40 65535 HT_ ?_
      refine Ypt 16 21 40 131071 HT_ ?_
      refine Ypt 17 22 40 262143 HT_ ?_
      refine Ypt 20 25 40 1310719 HT_ ?_
      refine Ytt 18 23 40 1572863 HT_ HW_ hHeld ?_
      refine Ytt 19 24 40 2097151 HT_ HW_ hHeld ?_
      refine Ytt 21 26 40 4194303 HT_ HW_ hHeld ?_
      refine Yot 22 27 40 8388607 HT_ (fun K hK => ?_)
      refine Ygs Tryz.func35 #[.agg #[.slice A0_0 l0_0.length c0_0, .slice A0_1 l0_1.length c0_1, .slice A0_2 l0_2.length c0_2], .int .i64 a1_0] ?_
      with_reducible refine (zcp.calls _ _ l0_0 _ _ l0_1 (fun k_ => k_ < w.heap.size) _ _ l0_2 a1_0 t108 _ (Kd.zak HR0_0.out Ybe) HC0_0.out (Kd.zak HR0_1.out Ybe) HC0_1.out ?side5 A6.out).mono ?_
      (case side5 => exact Kd.V_mk HC0_2.out (Kd.zd8 (Kd.C_F zdy HR0_2.out) Yb_PNextx2_1))
      rintro e w17 ⟨v109, rfl, ho0, hb⟩
      refine ⟨_, rfl, ?_⟩
      have HO110 := zaa.mk (Kd.zef (Kd.zc2 (ok' := fun k_ => k_ ≠ gb106 ∧ k_ ≠ gb107) ho0 (fun k_ hk_ => ⟨Or.elim hk_ (fun hs_ => fun e_ => Nat.not_le.2 hs_ (by rw [e_]; exact GW106.out)) (fun hn_ => (Kd.zcl (g := gb106) (o := .cells #[.slice A0_0 l0_0.length c0_0, .slice A0_1 l0_1.length c0_1, .slice A0_2 l0_2.length c0_2] 25 (0, 0)) (Yg BK106) k_ hn_)), Or.elim hk_ (fun hs_ => fun e_ => Nat.not_le.2 hs_ (by rw [e_]; exact GW107.out)) (fun hn_ => (Kd.zcl (g := gb107) (o := .cells #[.int .i64 a1_0, .int .i64 a1_1, .int .i64 a1_2] 50 (0, 0)) (Yg BK107) k_ hn_))⟩)) (za8 Yb_PNextx2_1))
      replace BK106 := Ykb BK106 hb
      replace BK107 := Ykb BK107 hb
      replace HB := zaa.mk (zay Yb_PNextx2_1 hb)
      (try clear hb)
      (try clear hb2)
      (try clear hk)
      (try clear hi)
      (try clear ho0)
      obtain ⟨Ao18, co18, eo18⟩ := Kd.zeg HO110.out
      (first | subst eo18 | (injection eo18 with f1_ f2_ f3_; have f4_ := f1_.symm; have f5_ := f3_.symm; clear f1_ f2_ f3_; subst f4_; subst f5_))
      refine hK.out _ _ ⟨(zab BK107.out 0).trans rfl, (zab BK107.out 1).trans rfl, (zab BK107.out 2).trans rfl, (zab BK106.out 0).trans rfl, (zab BK106.out 1).trans rfl, (zab BK106.out 2).trans rfl⟩ (fun hHeld => ?_)
      clear hK K
      refine Ynw 27 ?_
      refine Ypt 23 28 40 16777215 HT_ ?_
      refine Ypt 24 29 40 33554431 HT_ ?_
      refine Ypt 25 30 40 67108863 HT_ ?_
      refine Ypt 26 31 40 134217727 HT_ ?_
      refine Ypt 27 32 40 268435455 HT_ ?_
      refine Ytt 28 33 40 536870911 HT_ HW_ hHeld ?_
      refine Ypt 29 34 40 1073741823 HT_ ?_
      refine Ypt 30 35 40 2147483647 HT_ ?_
      refine Ypt 31 36 40 4294967295 HT_ ?_
      refine Ypu 32 37 40 8589934591 HT_ ?_
      refine Ypu 33 38 40 17179869183 HT_ ?_
      refine Ypu 34 39 40 34359738367 HT_ ?_
      refine Ypu 35 40 40 68719476735 HT_ ?_
      refine Ypu 36 41 40 137438953471 HT_ ?_
      refine Ypu 37 42 40 274877906943 HT_ ?_
      refine Ypt 38 43 40 549755813887 HT_ ?_
      refine Ypt 39 4 40 1099511627775 HT_ ?_
      refine zbq (zb4 HT_.out (by kernel_rfl)) ?_
      try go_wp2
      go_ret
      exact ⟨Yfi, Yb_PNextx2_1⟩
    ·rw [if_neg c7] at H
     have c7b0 := decide_eq_false c7
     clear c7;obtain rfl := Option.some.inj H
     go_enter Tryz.func17, Tryz.ntmps17
     try go_wp2_with (first | ((with_reducible refine zau (N := 2) rfl ?_); (try (refine zaz (by rfl) ?_; dsimp only)); refine Ybx 2 #[.slice A0_0 l0_0.length c0_0, .slice A0_1 l0_1.length c0_1, .slice A0_2 l0_2.length c0_2] 25 ?_; intro gb106 hg w19 hbox hb; obtain ⟨BK106, GW106, GE106, HB⟩ := Yb4 hbox hg hb Ybe; clear hb hbox hg) | ((with_reducible refine zau (N := 3) rfl ?_); (try (refine zaz (by rfl) ?_; dsimp only)); refine Ybx 3 #[.int .i64 a1_0, .int .i64 a1_1, .int .i64 a1_2] 50 ?_; intro gb107 hg w20 hbox hb; obtain ⟨BK107, GW107, GE107, HB⟩ := Yb4 hbox hg hb Yb_PNextx2_0; have NB106_107 := Ynl BK106 hg; have NB107_106 := Yng BK106 hg; replace BK106 := Ykb BK106 hb; clear hb hbox hg))
     replace BK106 := zaa.mk (zah BK106.out)
     replace BK107 := zaa.mk (zah BK107.out)
     replace HB := zaa.mk (zas HB.out)
     refine zbl (n := 40) (S := fun w' => w'.cell? ⟨gb107, 0, none⟩ = some (.int .i64 a1_0) ∧ w'.cell? ⟨gb107, 1, none⟩ = some (.int .i64 a1_1) ∧ w'.cell? ⟨gb107, 2, none⟩ = some (.int .i64 a1_2) ∧ w'.cell? ⟨gb106, 0, none⟩ = some (.slice A0_0 l0_0.length c0_0) ∧ w'.cell? ⟨gb106, 1, none⟩ = some (.slice A0_1 l0_1.length c0_1) ∧ w'.cell? ⟨gb106, 2, none⟩ = some (.slice A0_2 l0_2.length c0_2)) (ds := []) (Ymk 40 0) (by kernel_rfl) rfl rfl ⟨(zab BK107.out 0).trans rfl, (zab BK107.out 1).trans rfl, (zab BK107.out 2).trans rfl, (zab BK106.out 0).trans rfl, (zab BK106.out 1).trans rfl, (zab BK106.out 2).trans rfl⟩ (fun hHeld => ?_); refine zbw zbp.tab1 zbp.zeh (fun HT_ HW_ => ?_)
     generalize w20.drew = w21 at BK106 BK107 HB hHeld ⊢
     refine Ypt 0 5 40 1 HT_ ?_
     refine Ytt 1 6 40 3 HT_ HW_ hHeld ?_
     refine Ypt 2 7 40 7 HT_ ?_
     refine Ypt 3 8 40 15 HT_ ?_
     refine Ypt 4 9 40 31 HT_ ?_
     refine Ypt 6 11 40 95 HT_ ?_
     refine Ytt 5 10 40 127 HT_ HW_ hHeld ?_
     refine Ytt 7 12 40 255 HT_ HW_ hHeld ?_
     refine Ypt 8 13 40 511 HT_ ?_
     refine Ypt 9 14 40 1023 HT_ ?_
     refine Ypt 10 15 40 2047 HT_ ?_
     refine Ypt 11 16 40 4095 HT_ ?_
     refine Ypt 12 17 40 8191 HT_ ?_
     refine Ytt 13 18 40 16383 HT_ HW_ hHeld ?_
     refine Ypt 14 19 40 32767 HT_ ?_
     refine Ypt 15 20 40 65535 HT_ ?_
     refine Ypt 16 21 40 131071 HT_ ?_
     refine Ypt 17 22 40 262143 HT_ ?_
     refine Ypt 20 25 40 1310719 HT_ ?_
     refine Ytt 18 23 40 1572863 HT_ HW_ hHeld ?_
     refine Ytt 19 24 40 2097151 HT_ HW_ hHeld ?_
     refine Ytt 21 26 40 4194303 HT_ HW_ hHeld ?_
     refine Yot 22 27 40 8388607 HT_ (fun K hK => ?_)
     refine Ygs Tryz.func35 #[.agg #[.slice A0_0 l0_0.length c0_0, .slice A0_1 l0_1.length c0_1, .slice A0_2 l0_2.length c0_2], .int .i64 a1_0] ?_
     with_reducible refine (zcp.calls _ _ l0_0 _ _ l0_1 (fun k_ => k_ < w.heap.size) _ _ l0_2 a1_0 t108 _ (Kd.zak HR0_0.out Ybe) HC0_0.out (Kd.zak HR0_1.out Ybe) HC0_1.out ?side5 A6.out).mono ?_
     (case side5 => exact Kd.V_mk HC0_2.out (Kd.zd8 (Kd.C_F zdy HR0_2.out) Yb_PNextx2_1))
     rintro e w22 ⟨v109, rfl, ho0, hb⟩
     refine ⟨_, rfl, ?_⟩
     have HO110 := zaa.mk (Kd.zef (Kd.zc2 (ok' := fun k_ => k_ ≠ gb106 ∧ k_ ≠ gb107) ho0 (fun k_ hk_ => ⟨Or.elim hk_ (fun hs_ => fun e_ => Nat.not_le.2 hs_ (by rw [e_]; exact GW106.out)) (fun hn_ => (Kd.zcl (g := gb106) (o := .cells #[.slice A0_0 l0_0.length c0_0, .slice A0_1 l0_1.length c0_1, .slice A0_2 l0_2.length c0_2] 25 (0, 0)) (Yg BK106) k_ hn_)), Or.elim hk_ (fun hs_ => fun e_ => Nat.not_le.2 hs_ (by rw [e_]; exact GW107.out)) (fun hn_ => (Kd.zcl (g := gb107) (o := .cells #[.int .i64 a1_0, .int .i64 a1_1, .int .i64 a1_2] 50 (0, 0)) (Yg BK107) k_ hn_))⟩)) (za8 Yb_PNextx2_1))
     replace BK106 := Ykb BK106 hb
     replace BK107 := Ykb BK107 hb
     replace HB := zaa.mk (zay Yb_PNextx2_1 hb)
     (try clear hb)
     (try clear hb2)
     (try clear hk)
     (try clear hi)
     (try clear ho0)
     obtain ⟨Ao23, co23, eo23⟩ := Kd.zeg HO110.out
     (first | subst eo23 | (injection eo23 with f1_ f2_ f3_; have f4_ := f1_.symm; have f5_ := f3_.symm; clear f1_ f2_ f3_; subst f4_; subst f5_))
     refine hK.out _ _ ⟨(zab BK107.out 0).trans rfl, (zab BK107.out 1).trans rfl, (zab BK107.out 2).trans rfl, (zab BK106.out 0).trans rfl, (zab BK106.out 1).trans rfl, (zab BK106.out 2).trans rfl⟩ (fun hHeld => ?_)
     clear hK K
     refine Ynw 27 ?_
     refine Ypt 23 28 40 16777215 HT_ ?_
     refine Ypt 24 29 40 33554431 HT_ ?_
     refine Ypt 25 30 40 67108863 HT_ ?_
     refine Ypt 26 31 40 134217727 HT_ ?_
     refine Ypu 27 32 40 268435455 HT_ ?_
     refine Ypu 28 33 40 536870911 HT_ ?_
     refine Ypu 29 34 40 1073741823 HT_ ?_
     refine Ypt 30 35 40 2147483647 HT_ ?_
     refine Ypt 31 36 40 4294967295 HT_ ?_
     refine Ypu 32 37 40 8589934591 HT_ ?_
     refine Ypu 33 38 40 17179869183 HT_ ?_
     refine Ypu 34 39 40 34359738367 HT_ ?_
     refine Ypu 35 40 40 68719476735 HT_ ?_
     refine Ypu 36 41 40 137438953471 HT_ ?_
     refine Ypu 37 42 40 274877906943 HT_ ?_
     refine Ypt 38 43 40 549755813887 HT_ ?_
     refine Ypt 39 4 40 1099511627775 HT_ ?_
     refine zbq (zb4 HT_.out (by kernel_rfl)) ?_
     try go_wp2
     go_ret
     exact ⟨Yfi, Yb_PNextx2_1⟩
   ·rw [if_neg c5] at H
    have c5b0 := decide_eq_false c5
    clear c5;obtain rfl := Option.some.inj H
    go_enter Tryz.func17, Tryz.ntmps17
    try go_wp2_with (first | ((with_reducible refine zau (N := 2) rfl ?_); (try (refine zaz (by rfl) ?_; dsimp only)); refine Ybx 2 #[.slice A0_0 l0_0.length c0_0, .slice A0_1 l0_1.length c0_1, .slice A0_2 l0_2.length c0_2] 25 ?_; intro gb106 hg w24 hbox hb; obtain ⟨BK106, GW106, GE106, HB⟩ := Yb4 hbox hg hb Ybe; clear hb hbox hg) | ((with_reducible refine zau (N := 3) rfl ?_); (try (refine zaz (by rfl) ?_; dsimp only)); refine Ybx 3 #[.int .i64 a1_0, .int .i64 a1_1, .int .i64 a1_2] 50 ?_; intro gb107 hg w25 hbox hb; obtain ⟨BK107, GW107, GE107, HB⟩ := Yb4 hbox hg hb Yb_PNextx2_0; have NB106_107 := Ynl BK106 hg; have NB107_106 := Yng BK106 hg; replace BK106 := Ykb BK106 hb; clear hb hbox hg))
    replace BK106 := zaa.mk (zah BK106.out)
    replace BK107 := zaa.mk (zah BK107.out)
    replace HB := zaa.mk (zas HB.out)
    refine zbl (n := 40) (S := fun w' => w'.cell? ⟨gb107, 0, none⟩ = some (.int .i64 a1_0) ∧ w'.cell? ⟨gb107, 1, none⟩ = some (.int .i64 a1_1) ∧ w'.cell? ⟨gb107, 2, none⟩ = some (.int .i64 a1_2) ∧ w'.cell? ⟨gb106, 0, none⟩ = some (.slice A0_0 l0_0.length c0_0) ∧ w'.cell? ⟨gb106, 1, none⟩ = some (.slice A0_1 l0_1.length c0_1) ∧ w'.cell? ⟨gb106, 2, none⟩ = some (.slice A0_2 l0_2.length c0_2)) (ds := []) (Ymk 40 0) (by kernel_rfl) rfl rfl ⟨(zab BK107.out 0).trans rfl, (zab BK107.out 1).trans rfl, (zab BK107.out 2).trans rfl, (zab BK106.out 0).trans rfl, (zab BK106.out 1).trans rfl, (zab BK106.out 2).trans rfl⟩ (fun hHeld => ?_); refine zbw zbp.tab1 zbp.zeh (fun HT_ HW_ => ?_)
    generalize w25.drew = w26 at BK106 BK107 HB hHeld ⊢
    refine Ypt 0 5 40 1 HT_ ?_
    refine Ytt 1 6 40 3 HT_ HW_ hHeld ?_
    refine Ypt 2 7 40 7 HT_ ?_
    refine Ypt 3 8 40 15 HT_ ?_
    refine Ypt 4 9 40 31 HT_ ?_
    refine Ypt 6 11 40 95 HT_ ?_
    refine Ytt 5 10 40 127 HT_ HW_ hHeld ?_
    refine Ytt 7 12 40 255 HT_ HW_ hHeld ?_
    refine Ypt 8 13 40 511 HT_ ?_
    refine Ypt 9 14 40 1023 HT_ ?_
    refine Ypt 10 15 40 2047 HT_ ?_
    refine Ypt 11 16 40 4095 HT_ ?_
    refine Ypt 12 17 40 8191 HT_ ?_
    refine Ytt 13 18 40 16383 HT_ HW_ hHeld ?_
    refine Ypt 14 19 40 32767 HT_ ?_
    refine Ypt 15 20 40 65535 HT_ ?_
    refine Ypt 16 21 40 131071 HT_ ?_
    refine Ypu 17 22 40 262143 HT_ ?_
    refine Ypu 18 23 40 524287 HT_ ?_
    refine Ypu 19 24 40 1048575 HT_ ?_
    refine Ypu 20 25 40 2097151 HT_ ?_
    refine Ypu 21 26 40 4194303 HT_ ?_
    refine Ypu 22 27 40 8388607 HT_ ?_
    refine Ypu 23 28 40 16777215 HT_ ?_
    refine Ypu 24 29 40 33554431 HT_ ?_
    refine Ypt 25 30 40 67108863 HT_ ?_
    refine Ypt 26 31 40 134217727 HT_ ?_
    refine Ypu 27 32 40 268435455 HT_ ?_
    refine Ypu 28 33 40 536870911 HT_ ?_
    refine Ypu 29 34 40 1073741823 HT_ ?_
    refine Ypt 30 35 40 2147483647 HT_ ?_
    refine Ypt 31 36 40 4294967295 HT_ ?_
    refine Ypu 32 37 40 8589934591 HT_ ?_
    refine Ypu 33 38 40 17179869183 HT_ ?_
    refine Ypu 34 39 40 34359738367 HT_ ?_
    refine Ypu 35 40 40 68719476735 HT_ ?_
    refine Ypu 36 41 40 137438953471 HT_ ?_
    refine Ypu 37 42 40 274877906943 HT_ ?_
    refine Ypt 38 43 40 549755813887 HT_ ?_
    refine Ypt 39 4 40 1099511627775 HT_ ?_
    refine zbq (zb4 HT_.out (by kernel_rfl)) ?_
    try go_wp2
    go_ret
    exact ⟨Yfi, Yb_PNextx2_1⟩
  ·rw [if_neg c4] at H
   have c4b0 := decide_eq_false c4
   clear c4;obtain rfl := Option.some.inj H
   go_enter Tryz.func17, Tryz.ntmps17
   try go_wp2_with (first | ((with_reducible refine zau (N := 2) rfl ?_); (try (refine zaz (by rfl) ?_; dsimp only)); refine Ybx 2 #[.slice A0_0 l0_0.length c0_0, .slice A0_1 l0_1.length c0_1, .slice A0_2 l0_2.length c0_2] 25 ?_; intro gb106 hg w27 hbox hb; obtain ⟨BK106, GW106, GE106, HB⟩ := Yb4 hbox hg hb Ybe; clear hb hbox hg) | ((with_reducible refine zau (N := 3) rfl ?_); (try (refine zaz (by rfl) ?_; dsimp only)); refine Ybx 3 #[.int .i64 a1_0, .int .i64 a1_1, .int .i64 a1_2] 50 ?_; intro gb107 hg w28 hbox hb; obtain ⟨BK107, GW107, GE107, HB⟩ := Yb4 hbox hg hb Yb_PNextx2_0; have NB106_107 := Ynl BK106 hg; have NB107_106 := Yng BK106 hg; replace BK106 := Ykb BK106 hb; clear hb hbox hg))
   replace BK106 := zaa.mk (zah BK106.out)
   replace BK107 := zaa.mk (zah BK107.out)
   replace HB := zaa.mk (zas HB.out)
   refine zbl (n := 40) (S := fun w' => w'.cell? ⟨gb107, 0, none⟩ = some (.int .i64 a1_0) ∧ w'.cell? ⟨gb107, 1, none⟩ = some (.int .i64 a1_1) ∧ w'.cell? ⟨gb107, 2, none⟩ = some (.int .i64 a1_2) ∧ w'.cell? ⟨gb106, 0, none⟩ = some (.slice A0_0 l0_0.length c0_0) ∧ w'.cell? ⟨gb106, 1, none⟩ = some (.slice A0_1 l0_1.length c0_1) ∧ w'.cell? ⟨gb106, 2, none⟩ = some (.slice A0_2 l0_2.length c0_2)) (ds := []) (Ymk 40 0) (by kernel_rfl) rfl rfl ⟨(zab BK107.out 0).trans rfl, (zab BK107.out 1).trans rfl, (zab BK107.out 2).trans rfl, (zab BK106.out 0).trans rfl, (zab BK106.out 1).trans rfl, (zab BK106.out 2).trans rfl⟩ (fun hHeld => ?_); refine zbw zbp.tab1 zbp.zeh (fun HT_ HW_ => ?_)
   generalize w28.drew = w29 at BK106 BK107 HB hHeld ⊢
   refine Ypt 0 5 40 1 HT_ ?_
   refine Ytt 1 6 40 3 HT_ HW_ hHeld ?_
   refine Ypt 2 7 40 7 HT_ ?_
   refine Ypt 3 8 40 15 HT_ ?_
   refine Ypt 4 9 40 31 HT_ ?_
   refine Ypt 6 11 40 95 HT_ ?_
   refine Ytt 5 10 40 127 HT_ HW_ hHeld ?_
   refine Ytt 7 12 40 255 HT_ HW_ hHeld ?_
   refine Ypt 8 13 40 511 HT_ ?_
   refine Ypt 9 14 40 1023 HT_ ?_
   refine Ypt 10 15 40 2047 HT_ ?_
   refine Ypt 11 16 40 4095 HT_ ?_
   refine Ypu 12 17 40 8191 HT_ ?_
   refine Ypu 13 18 40 16383 HT_ ?_
   refine Ypu 14 19 40 32767 HT_ ?_
   refine Ypt 15 20 40 65535 HT_ ?_
   refine Ypt 16 21 40 131071 HT_ ?_
   refine Ypu 17 22 40 262143 HT_ ?_
   refine Ypu 18 23 40 524287 HT_ ?_
   refine Ypu 19 24 40 1048575 HT_ ?_
   refine Ypu 20 25 40 2097151 HT_ ?_
   refine Ypu 21 26 40 4194303 HT_ ?_
   refine Ypu 22 27 40 8388607 HT_ ?_
   refine Ypu 23 28 40 16777215 HT_ ?_
   refine Ypu 24 29 40 33554431 HT_ ?_
   refine Ypt 25 30 40 67108863 HT_ ?_
   refine Ypt 26 31 40 134217727 HT_ ?_
   refine Ypu 27 32 40 268435455 HT_ ?_
   refine Ypu 28 33 40 536870911 HT_ ?_
   refine Ypu 29 34 40 1073741823 HT_ ?_
   refine Ypt 30 35 40 2147483647 HT_ ?_
   refine Ypt 31 36 40 4294967295 HT_ ?_
   refine Ypu 32 37 40 8589934591 HT_ ?_
   refine Ypu 33 38 40 17179869183 HT_ ?_
   refine Ypu 34 39 40 34359738367 HT_ ?_
   refine Ypu 35 40 40 68719476735 HT_ ?_
   refine Ypu 36 41 40 137438953471 HT_ ?_
   refine Ypu 37 42 40 274877906943 HT_ ?_
   refine Ypt 38 43 40 549755813887 HT_ ?_
   refine Ypt 39 4 40 1099511627775 HT_ ?_
   refine zbq (zb4 HT_.out (by kernel_rfl)) ?_
   try go_wp2
   go_ret
   exact ⟨Yfi, Yb_PNextx2_1⟩
 ·rw [if_neg c3] at H
  have c3b0 := decide_eq_false c3
  clear c3;obtain rfl := Option.some.inj H
  go_enter Tryz.func17, Tryz.ntmps17
  try go_wp2_with (first | ((with_reducible refine zau (N := 2) rfl ?_); (try (refine zaz (by rfl) ?_; dsimp only)); refine Ybx 2 #[.slice A0_0 l0_0.length c0_0, .slice A0_1 l0_1.length c0_1, .slice A0_2 l0_2.length c0_2] 25 ?_; intro gb106 hg w30 hbox hb; obtain ⟨BK106, GW106, GE106, HB⟩ := Yb4 hbox hg hb Ybe; clear hb hbox hg) | ((with_reducible refine zau (N := 3) rfl ?_); (try (refine zaz (by rfl) ?_; dsimp only)); refine Ybx 3 #[.int .i64 a1_0, .int .i64 a1_1, .int .i64 a1_2] 50 ?_; intro gb107 hg w31 hbox hb; obtain ⟨BK107, GW107, GE107, HB⟩ := Yb4 hbox hg hb Yb_PNextx2_0; have NB106_107 := Ynl BK106 hg; have NB107_106 := Yng BK106 hg; replace BK106 := Ykb BK106 hb; clear hb hbox hg))
  replace BK106 := zaa.mk (zah BK106.out)
  replace BK107 := zaa.mk (zah BK107.out)
  replace HB := zaa.mk (zas HB.out)
  refine zbl (n := 40) (S := fun w' => w'.cell? ⟨gb107, 0, none⟩ = some (.int .i64 a1_0) ∧ w'.cell? ⟨gb107, 1, none⟩ = some (.int .i64 a1_1) ∧ w'.cell? ⟨gb107, 2, none⟩ = some (.int .i64 a1_2)) (ds := []) (Ymk 40 0) (by kernel_rfl) rfl rfl ⟨(zab BK107.out 0).trans rfl, (zab BK107.out 1).trans rfl, (zab BK107.out 2).trans rfl⟩ (fun hHeld => ?_); refine zbw zbp.tab1 zbp.zeh (fun HT_ HW_ => ?_)
  generalize w31.drew = w32 at BK106 BK107 HB hHeld ⊢
  refine Ypt 0 5 40 1 HT_ ?_
  refine Ytt 1 6 40 3 HT_ HW_ hHeld ?_
  refine Ypt 2 7 40 7 HT_ ?_
  refine Ypt 3 8 40 15 HT_ ?_
  refine Ypu 4 9 40 31 HT_ ?_
  refine Ypu 5 10 40 63 HT_ ?_
  refine Ypu 6 11 40 127 HT_ ?_
  refine Ypu 7 12 40 255 HT_ ?_
  refine Ypu 8 13 40 511 HT_ ?_
  refine Ypu 9 14 40 1023 HT_ ?_
  refine Ypt 10 15 40 2047 HT_ ?_
  refine Ypt 11 16 40 4095 HT_ ?_
  refine Ypu 12 17 40 8191 HT_ ?_
  refine Ypu 13 18 40 16383 HT_ ?_
  refine Ypu 14 19 40 32767 HT_ ?_
  refine Ypt 15 20 40 65535 HT_ ?_
  refine Ypt 16 21 40 131071 HT_ ?_
  refine Ypu 17 22 40 262143 HT_ ?_
  refine Ypu 18 23 40 524287 HT_ ?_
  refine Ypu 19 24 40 1048575 HT_ ?_
  refine Ypu 20 25 40 2097151 HT_ ?_
  refine Ypu 21 26 40 4194303 HT_ ?_
  refine Ypu 22 27 40 8388607 HT_ ?_
  refine Ypu 23 28 40 16777215 HT_ ?_
  refine Ypu 24 29 40 33554431 HT_ ?_
  refine Ypt 25 30 40 67108863 HT_ ?_
  refine Ypt 26 31 40 134217727 HT_ ?_
  refine Ypu 27 32 40 268435455 HT_ ?_
  refine Ypu 28 33 40 536870911 HT_ ?_
  refine Ypu 29 34 40 1073741823 HT_ ?_
  refine Ypt 30 35 40 2147483647 HT_ ?_
  refine Ypt 31 36 40 4294967295 HT_ ?_
  refine Ypu 32 37 40 8589934591 HT_ ?_
  refine Ypu 33 38 40 17179869183 HT_ ?_
  refine Ypu 34 39 40 34359738367 HT_ ?_
  refine Ypu 35 40 40 68719476735 HT_ ?_
  refine Ypu 36 41 40 137438953471 HT_ ?_
  refine Ypu 37 42 40 274877906943 HT_ ?_
  refine Ypt 38 43 40 549755813887 HT_ ?_
  refine Ypt 39 4 40 1099511627775 HT_ ?_
  refine zbq (zb4 HT_.out (by kernel_rfl)) ?_
  try go_wp2
  go_ret
  exact ⟨Yfi, Yb_PNextx2_1⟩
section
end
theorem Yb_PNextx3_0 {n : Nat} {w w' : World} (h : Below n w w' := by repeat (first | (with_reducible first | exact HB.out | apply za2 | apply zav | apply zas | refine za6 ?_ GE111.out) | exact HB.out)) : Below n w w' := h
theorem Yb_PNextx3_1 {n : Nat} {w w' : World} (h : Below n w w' := by repeat (first | (with_reducible first | exact HB.out | apply za2 | apply zav | apply zas | refine za6 ?_ GE111.out | refine za6 ?_ GE112.out) | exact HB.out)) : Below n w w' := h
def zb6.f (l0_0 : List ByteArray) (l0_1 : List ByteArray) (l0_2 : List (S42)) (a1_0 : Int) (a1_1 : Int) (a1_2 : Int) : Option (Int × Bool) := (zbp.f l0_0 l0_1 l0_2 a1_0 a1_1 a1_2).bind fun t113 => (if t113 = true then ((zcp.f l0_0 l0_1 l0_2 a1_0).bind fun t114 => (if 0 ≤ a1_1 then (if a1_1 ≤ (t114.length : Int) then ((some (t114.drop (a1_1 : Int).toNat : List (S44))).bind fun y117 => (if (y117.length : Int) = 0 then (some (0, false)) else (if 0 < (y117.length : Int) then (some ((za3 y117 0).f0, true)) else (none)))) else (none)) else (none))) else (some (0, false)))
def zb6.T3 : Bool × List (List Nat × List Nat) := (true, [([], []), ([], []), ([1], [1]), ([0, 2], [0, 2]), ([], []), ([4], [4]), ([3, 5], [3, 5]), ([6, 3, 0, 1, 2, 3, 4, 5, 6], [6])])
def zb6.B3 : List Nat := [0, 0, 2, 7, 0, 16, 63, 127]
theorem zb6.tab3 : rtab .any (opsOf Tryz.f15 3) = zb6.T3 := by kernel_rfl
theorem zb6.bits3 : zc6 zb6.T3.2 zb6.B3 = true := by kernel_rfl
theorem zb6.calls (A0_0 : Option Addr) (c0_0 : Nat) (l0_0 : List ByteArray) (A0_1 : Option Addr) (c0_1 : Nat) (l0_1 : List ByteArray) (A0_2 : Option Addr) (c0_2 : Nat) (l0_2 : List (S42)) (a1_0 : Int) (a1_1 : Int) (a1_2 : Int) (r1 : Int) (r2 : Bool) (w : World) (hr0_0 : Kd.C Kd.string w A0_0 l0_0.length l0_0) (hc0_0 : l0_0.length ≤ c0_0) (hr0_1 : Kd.C Kd.string w A0_1 l0_1.length l0_1) (hc0_1 : l0_1.length ≤ c0_1) (hr0_2 : Kd.C k42 w A0_2 l0_2.length l0_2) (hc0_2 : l0_2.length ≤ c0_2) (h : zb6.f l0_0 l0_1 l0_2 a1_0 a1_1 a1_2 = some (r1, r2)) :
  Calls Tryz.prog 15 #[.agg #[.slice A0_0 l0_0.length c0_0, .slice A0_1 l0_1.length c0_1, .slice A0_2 l0_2.length c0_2], .agg #[.int .i64 a1_0, .int .i64 a1_1, .int .i64 a1_2]] w fun e w' => e = .returned (.tuple #[.int .i64 r1, .bool r2]) ∧ Below w.heap.size w w' := by
 have hu25 := Tryz.underlying25
 have hu50 := Tryz.underlying50
 have HR0_0 := zaa.mk hr0_0;have HC0_0 := zaa.mk hc0_0;clear hr0_0 hc0_0;have HR0_1 := zaa.mk hr0_1;have HC0_1 := zaa.mk hc0_1;clear hr0_1 hc0_1;have HR0_2 := zaa.mk hr0_2;have HC0_2 := zaa.mk hc0_2;clear hr0_2 hc0_2
 have HB := zaa.mk (Below.refl w.heap.size w)
 have H : ((zbp.f l0_0 l0_1 l0_2 a1_0 a1_1 a1_2).bind fun t113 => (if t113 = true then ((zcp.f l0_0 l0_1 l0_2 a1_0).bind fun t114 => (if 0 ≤ a1_1 then (if a1_1 ≤ (t114.length : Int) then ((some (t114.drop (a1_1 : Int).toNat : List (S44))).bind fun y117 => (if (y117.length : Int) = 0 then (some (0, false)) else (if 0 < (y117.length : Int) then (some ((za3 y117 0).f0, true)) else (none)))) else (none)) else (none))) else (some (0, false)))) = some (r1, r2) := h
 clear h;replace H := Option.bind_eq_some_iff.mp H
 obtain ⟨t113, A30, H⟩ := H
 replace H : (if t113 = true then ((zcp.f l0_0 l0_1 l0_2 a1_0).bind fun t114 => (if 0 ≤ a1_1 then (if a1_1 ≤ (t114.length : Int) then ((some (t114.drop (a1_1 : Int).toNat : List (S44))).bind fun y117 => (if (y117.length : Int) = 0 then (some (0, false)) else (if 0 < (y117.length : Int) then (some ((za3 y117 0).f0, true)) else (none)))) else (none)) else (none))) else (some (0, false))) = some (r1, r2) := H
 have A3 := zaa.mk A30;clear A30
 by_cases c4 : t113 = true
 ·subst c4
  have H1 : ((zcp.f l0_0 l0_1 l0_2 a1_0).bind fun t114 => (if 0 ≤ a1_1 then (if a1_1 ≤ (t114.length : Int) then ((some (t114.drop (a1_1 : Int).toNat : List (S44))).bind fun y117 => (if (y117.length : Int) = 0 then (some (0, false)) else (if 0 < (y117.length : Int) then (some ((za3 y117 0).f0, true)) else (none)))) else (none)) else (none))) = some (r1, r2) := by rw [if_pos rfl] at H; exact H
  clear H;have H := H1;clear H1;replace H := Option.bind_eq_some_iff.mp H
  obtain ⟨t114, A50, H⟩ := H
  replace H : (if 0 ≤ a1_1 then (if a1_1 ≤ (t114.length : Int) then ((some (t114.drop (a1_1 : Int).toNat : List (S44))).bind fun y117 => (if (y117.length : Int) = 0 then (some (0, false)) else (if 0 < (y117.length : Int) then (some ((za3 y117 0).f0, true)) else (none)))) else (none)) else (none)) = some (r1, r2) := H
  have A5 := zaa.mk A50;clear A50
  by_cases c6 : 0 ≤ a1_1
  ·rw [if_pos c6] at H
   have c6b0 := eq_true c6
   have c6b1 := decide_eq_true c6
   clear c6
   by_cases c7 : a1_1 ≤ (t114.length : Int)
   ·rw [if_pos c7] at H
    have c7b0 := eq_true c7
    have c7b1 := decide_eq_true c7
    clear c7
    obtain ⟨y117, hy117⟩ : ∃ y_ : List (S44), y_ = (t114.drop (a1_1 : Int).toNat) := ⟨_, rfl⟩
    replace H : (if (y117.length : Int) = 0 then (some (0, false)) else (if 0 < (y117.length : Int) then (some ((za3 y117 0).f0, true)) else (none))) = some (r1, r2) := by first | (rw [hy117]; with_reducible exact H) | (have H2_ := (Option.bind_some _ _).symm.trans H; rw [hy117]; with_reducible exact H2_) | (have H2_ := (Option.bind_some _ _).symm.trans H; with_reducible exact H2_) | with_reducible exact H | (rw [hy117]; exact H) | exact H
    have Ny117 := zaa.mk hy117;clear hy117
    by_cases c8 : (y117.length : Int) = 0
    ·rw [if_pos c8] at H
     have c8b0 : ((y117.length : Int) == 0) = true := beq_iff_eq.mpr c8
     have c8b1 : ((y117.length : Int) != 0) = false := bne_eq_false_iff_eq.mpr c8
     clear c8
     simp only [Option.some.injEq, Prod.mk.injEq] at H
     obtain ⟨rfl, rfl⟩ := H
     go_enter Tryz.func15, Tryz.ntmps15
     try go_wp2_with (first | ((with_reducible refine zau (N := 2) rfl ?_); refine Ybx 2 #[.slice A0_0 l0_0.length c0_0, .slice A0_1 l0_1.length c0_1, .slice A0_2 l0_2.length c0_2] 25 ?_; intro gb111 hg w9 hbox hb; obtain ⟨BK111, GW111, GE111, HB⟩ := Yb4 hbox hg hb Ybe; clear hb hbox hg) | ((with_reducible refine zau (N := 3) rfl ?_); refine Ybx 3 #[.int .i64 a1_0, .int .i64 a1_1, .int .i64 a1_2] 50 ?_; intro gb112 hg w10 hbox hb; obtain ⟨BK112, GW112, GE112, HB⟩ := Yb4 hbox hg hb Yb_PNextx3_0; have NB111_112 := Ynl BK111 hg; have NB112_111 := Yng BK111 hg; replace BK111 := Ykb BK111 hb; clear hb hbox hg; have hnb11 := NB111_112.out; have hnc11 := NB112_111.out; obtain ⟨hcz12_0, hfz12_0, hcz12_1, hfz12_1, hcz12_2, hfz12_2⟩ := Yc3 BK111.out; obtain ⟨hcz13_0, hfz13_0, hcz13_1, hfz13_1, hcz13_2, hfz13_2⟩ := Yc3 BK112.out) | ((with_reducible refine zbm (f := 17) rfl ?_); refine Ygl (some 9) Tryz.func17 #[.agg #[.slice A0_0 l0_0.length c0_0, .slice A0_1 l0_1.length c0_1, .slice A0_2 l0_2.length c0_2], .agg #[.int .i64 a1_0, .int .i64 a1_1, .int .i64 a1_2]] ?_; (with_reducible refine (zbp.calls _ _ l0_0 _ _ l0_1 _ _ l0_2 a1_0 a1_1 a1_2 true _ (Kd.zak HR0_0.out Ybe) HC0_0.out (Kd.zak HR0_1.out Ybe) HC0_1.out (Kd.zak HR0_2.out Ybe) HC0_2.out A3.out).mono ?_); rintro e w14 ⟨rfl, hb⟩; refine ⟨_, rfl, ?_⟩; replace BK111 := Ykb BK111 hb; replace BK112 := Ykb BK112 hb; replace HB := zaa.mk (zay Yb_PNextx3_1 hb); (try clear hb); (try clear hb2); (try clear hk); (try clear hi)))
     replace BK111 := zaa.mk (zah BK111.out)
     replace BK112 := zaa.mk (zah BK112.out)
     replace HB := zaa.mk (zas HB.out)
     refine zbl (n := 8) (S := fun w' => w'.cell? ⟨gb111, 0, none⟩ = some (.slice A0_0 l0_0.length c0_0) ∧ w'.cell? ⟨gb111, 1, none⟩ = some (.slice A0_1 l0_1.length c0_1) ∧ w'.cell? ⟨gb111, 2, none⟩ = some (.slice A0_2 l0_2.length c0_2) ∧ w'.cell? ⟨gb112, 0, none⟩ = some (.int .i64 a1_0) ∧ w'.cell? ⟨gb112, 1, none⟩ = some (.int .i64 a1_1) ∧ w'.cell? ⟨gb112, 2, none⟩ = some (.int .i64 a1_2)) (ds := []) (Ymk 8 0) (by kernel_rfl) rfl rfl ⟨(zab BK111.out 0).trans rfl, (zab BK111.out 1).trans rfl, (zab BK111.out 2).trans rfl, (zab BK112.out 0).trans rfl, (zab BK112.out 1).trans rfl, (zab BK112.out 2).trans rfl⟩ (fun hHeld => ?_); refine zbw zb6.tab3 zb6.bits3 (fun HT_ HW_ => ?_)
     generalize w14.drew = w15 at BK111 BK112 HB hHeld ⊢
     refine Ypt 1 12 8 2 HT_ ?_
     refine Ypt 4 15 8 18 HT_ ?_
     refine Ytt 0 11 8 19 HT_ HW_ hHeld ?_
     refine Ytt 2 13 8 23 HT_ HW_ hHeld ?_
     refine Ytt 5 16 8 55 HT_ HW_ hHeld ?_
     refine Yot 3 14 8 63 HT_ (fun K hK => ?_)
     refine Ygs Tryz.func35 #[.agg #[.slice A0_0 l0_0.length c0_0, .slice A0_1 l0_1.length c0_1, .slice A0_2 l0_2.length c0_2], .int .i64 a1_0] ?_
     with_reducible refine (zcp.calls _ _ l0_0 _ _ l0_1 (fun k_ => k_ < w.heap.size) _ _ l0_2 a1_0 t114 _ (Kd.zak HR0_0.out Ybe) HC0_0.out (Kd.zak HR0_1.out Ybe) HC0_1.out ?side5 A5.out).mono ?_
     (case side5 => exact Kd.V_mk HC0_2.out (Kd.zd8 (Kd.C_F zdy HR0_2.out) Yb_PNextx3_1))
     rintro e w16 ⟨v115, rfl, ho0, hb⟩
     refine ⟨_, rfl, ?_⟩
     have HO116 := zaa.mk (Kd.zef (Kd.zc2 (ok' := fun k_ => k_ ≠ gb111 ∧ k_ ≠ gb112) ho0 (fun k_ hk_ => ⟨Or.elim hk_ (fun hs_ => fun e_ => Nat.not_le.2 hs_ (by rw [e_]; exact GW111.out)) (fun hn_ => (Kd.zcl (g := gb111) (o := .cells #[.slice A0_0 l0_0.length c0_0, .slice A0_1 l0_1.length c0_1, .slice A0_2 l0_2.length c0_2] 25 (0, 0)) (Yg BK111) k_ hn_)), Or.elim hk_ (fun hs_ => fun e_ => Nat.not_le.2 hs_ (by rw [e_]; exact GW112.out)) (fun hn_ => (Kd.zcl (g := gb112) (o := .cells #[.int .i64 a1_0, .int .i64 a1_1, .int .i64 a1_2] 50 (0, 0)) (Yg BK112) k_ hn_))⟩)) (za8 Yb_PNextx3_1))
     replace BK111 := Ykb BK111 hb
     replace BK112 := Ykb BK112 hb
     replace HB := zaa.mk (zay Yb_PNextx3_1 hb)
     (try clear hb)
     (try clear hb2)
     (try clear hk)
     (try clear hi)
     (try clear ho0)
     obtain ⟨Ao18, co18, eo18⟩ := Kd.zeg HO116.out
     (first | subst eo18 | (injection eo18 with f1_ f2_ f3_; have f4_ := f1_.symm; have f5_ := f3_.symm; clear f1_ f2_ f3_; subst f4_; subst f5_))
     have q17 : (a1_1 : Int) ≤ ((t114.length : Int) : Int) := Yod
     obtain ⟨i017, hi017, _, hsz17, _⟩ := info_parts info44
     have hroom17 : t114.length ≤ co18 := (Kd.V_reads' HO116.out).2.1
     have hC17 : Kd.F k44 _ _ Ao18 t114.length t114 := (Kd.V_at (base := w.heap.size) HO116.out).2.2
     have q017 : (0 : Int) ≤ (a1_1 : Int) := Yod
     have hcut17 := zeb (P := Tryz.prog) 40 44 .i64 Tryz.underlying40 hi017 3 hsz17 Ao18 t114.length co18 a1_1 q017 q17
     have hr17 := Kd.F_cut (m := (a1_1 : Int).toNat) (c := co18) hC17 (by omega) hroom17
     obtain ⟨A17, hA17⟩ : ∃ A1, A1 = (if co18 = (a1_1 : Int).toNat then Ao18 else (Ao18 : Option Addr).map (·.add ((a1_1 : Int).toNat * 3))) := ⟨_, rfl⟩
     obtain ⟨c17, hc17⟩ : ∃ c1, c1 = co18 - (a1_1 : Int).toNat := ⟨_, rfl⟩
     have hy17 : y117.length = t114.length - (a1_1 : Int).toNat := (by rw [Ny117.out, List.length_drop] <;> omega)
     rw [show (t114).drop (a1_1 : Int).toNat = y117 from Ny117.out.symm] at hr17
     replace hr17 : Kd.F k44 _ _ A17 y117.length y117 := (by rw [hA17]; exact hr17)
     rw [← hy17, ← hA17, ← hc17] at hcut17
     have HO121 := zaa.mk (show Kd.V k44 44 _ w.heap.size _ (.slice A17 y117.length c17) y117 from Kd.V_mk (by rw [hy17, hc17]; exact Nat.sub_le_sub_right hroom17 _) hr17)
     have HC121 := zaa.mk (show y117.length ≤ c17 from by rw [hy17, hc17]; exact Nat.sub_le_sub_right hroom17 _)
     clear hr17 hC17 hroom17 hi017 hsz17 hc17;have KY17 := zaa.mk hy17;have KA17 := zaa.mk hA17;clear hy17 hA17
     replace q17 := eq_true q17
     refine hK.out _ _ ⟨(zab BK111.out 0).trans rfl, (zab BK111.out 1).trans rfl, (zab BK111.out 2).trans rfl, (zab BK112.out 0).trans rfl, (zab BK112.out 1).trans rfl, (zab BK112.out 2).trans rfl⟩ (fun hHeld => ?_)
     clear hK K
     refine Ynw 14 ?_
     refine Ypt 6 17 8 127 HT_ ?_
     refine Ypt 7 6 8 255 HT_ ?_
     refine zbq (zb4 HT_.out (by kernel_rfl)) ?_
     try go_wp2
     go_ret2
     exact ⟨Yfi, Yb_PNextx3_1⟩
    ·rw [if_neg c8] at H
     have c8b0 : ((y117.length : Int) == 0) = false := beq_eq_false_iff_ne.mpr c8
     have c8b1 : ((y117.length : Int) != 0) = true := bne_iff_ne.mpr c8
     have c8b2 : ¬ (y117 = []) := fun h_ => c8 (by rw [h_]; rfl)
     by_cases c19 : 0 < (y117.length : Int)
     ·rw [if_pos c19] at H
      have c19b0 := decide_eq_true c19
      have c19b1 : decide (0 < y117.length) = true := decide_eq_true (by omega)
      clear c19
      simp only [Option.some.injEq, Prod.mk.injEq] at H
      obtain ⟨rfl, rfl⟩ := H
      go_enter Tryz.func15, Tryz.ntmps15
      try go_wp2_with (first | ((with_reducible refine zau (N := 2) rfl ?_); refine Ybx 2 #[.slice A0_0 l0_0.length c0_0, .slice A0_1 l0_1.length c0_1, .slice A0_2 l0_2.length c0_2] 25 ?_; intro gb111 hg w20 hbox hb; obtain ⟨BK111, GW111, GE111, HB⟩ := Yb4 hbox hg hb Ybe; clear hb hbox hg) | ((with_reducible refine zau (N := 3) rfl ?_); refine Ybx 3 #[.int .i64 a1_0, .int .i64 a1_1, .int .i64 a1_2] 50 ?_; intro gb112 hg w21 hbox hb; obtain ⟨BK112, GW112, GE112, HB⟩ := Yb4 hbox hg hb Yb_PNextx3_0; have NB111_112 := Ynl BK111 hg; have NB112_111 := Yng BK111 hg; replace BK111 := Ykb BK111 hb; clear hb hbox hg; have hnb22 := NB111_112.out; have hnc22 := NB112_111.out; obtain ⟨hcz23_0, hfz23_0, hcz23_1, hfz23_1, hcz23_2, hfz23_2⟩ := Yc3 BK111.out; obtain ⟨hcz24_0, hfz24_0, hcz24_1, hfz24_1, hcz24_2, hfz24_2⟩ := Yc3 BK112.out) | ((with_reducible refine zbm (f := 17) rfl ?_); refine Ygl (some 9) Tryz.func17 #[.agg #[.slice A0_0 l0_0.length c0_0, .slice A0_1 l0_1.length c0_1, .slice A0_2 l0_2.length c0_2], .agg #[.int .i64 a1_0, .int .i64 a1_1, .int .i64 a1_2]] ?_; (with_reducible refine (zbp.calls _ _ l0_0 _ _ l0_1 _ _ l0_2 a1_0 a1_1 a1_2 true _ (Kd.zak HR0_0.out Ybe) HC0_0.out (Kd.zak HR0_1.out Ybe) HC0_1.out (Kd.zak HR0_2.out Ybe) HC0_2.out A3.out).mono ?_); rintro e w25 ⟨rfl, hb⟩; refine ⟨_, rfl, ?_⟩; replace BK111 := Ykb BK111 hb; replace BK112 := Ykb BK112 hb; replace HB := zaa.mk (zay Yb_PNextx3_1 hb); (try clear hb); (try clear hb2); (try clear hk); (try clear hi)))
      replace BK111 := zaa.mk (zah BK111.out)
      replace BK112 := zaa.mk (zah BK112.out)
      replace HB := zaa.mk (zas HB.out)
      refine zbl (n := 8) (S := fun w' => w'.cell? ⟨gb111, 0, none⟩ = some (.slice A0_0 l0_0.length c0_0) ∧ w'.cell? ⟨gb111, 1, none⟩ = some (.slice A0_1 l0_1.length c0_1) ∧ w'.cell? ⟨gb111, 2, none⟩ = some (.slice A0_2 l0_2.length c0_2) ∧ w'.cell? ⟨gb112, 0, none⟩ = some (.int .i64 a1_0) ∧ w'.cell? ⟨gb112, 1, none⟩ = some (.int .i64 a1_1) ∧ w'.cell? ⟨gb112, 2, none⟩ = some (.int .i64 a1_2)) (ds := []) (Ymk 8 0) (by kernel_rfl) rfl rfl ⟨(zab BK111.out 0).trans rfl, (zab BK111.out 1).trans rfl, (zab BK111.out 2).trans rfl, (zab BK112.out 0).trans rfl, (zab BK112.out 1).trans rfl, (zab BK112.out 2).trans rfl⟩ (fun hHeld => ?_); refine zbw zb6.tab3 zb6.bits3 (fun HT_ HW_ => ?_)
      generalize w25.drew = w26 at BK111 BK112 HB hHeld ⊢
      refine Ypt 1 12 8 2 HT_ ?_
      refine Ypt 4 15 8 18 HT_ ?_
      refine Ytt 0 11 8 19 HT_ HW_ hHeld ?_
      refine Ytt 2 13 8 23 HT_ HW_ hHeld ?_
      refine Ytt 5 16 8 55 HT_ HW_ hHeld ?_
      refine Yot 3 14 8 63 HT_ (fun K hK => ?_)
      refine Ygs Tryz.func35 #[.agg #[.slice A0_0 l0_0.length c0_0, .slice A0_1 l0_1.length c0_1, .slice A0_2 l0_2.length c0_2], .int .i64 a1_0] ?_
      with_reducible refine (zcp.calls _ _ l0_0 _ _ l0_1 (fun k_ => k_ < w.heap.size) _ _ l0_2 a1_0 t114 _ (Kd.zak HR0_0.out Ybe) HC0_0.out (Kd.zak HR0_1.out Ybe) HC0_1.out ?side5 A5.out).mono ?_
      (case side5 => exact Kd.V_mk HC0_2.out (Kd.zd8 (Kd.C_F zdy HR0_2.out) Yb_PNextx3_1))
      rintro e w27 ⟨v115, rfl, ho0, hb⟩
      refine ⟨_, rfl, ?_⟩
      have HO116 := zaa.mk (Kd.zef (Kd.zc2 (ok' := fun k_ => k_ ≠ gb111 ∧ k_ ≠ gb112) ho0 (fun k_ hk_ => ⟨Or.elim hk_ (fun hs_ => fun e_ => Nat.not_le.2 hs_ (by rw [e_]; exact GW111.out)) (fun hn_ => (Kd.zcl (g := gb111) (o := .cells #[.slice A0_0 l0_0.length c0_0, .slice A0_1 l0_1.length c0_1, .slice A0_2 l0_2.length c0_2] 25 (0, 0)) (Yg BK111) k_ hn_)), Or.elim hk_ (fun hs_ => fun e_ => Nat.not_le.2 hs_ (by rw [e_]; exact GW112.out)) (fun hn_ => (Kd.zcl (g := gb112) (o := .cells #[.int .i64 a1_0, .int .i64 a1_1, .int .i64 a1_2] 50 (0, 0)) (Yg BK112) k_ hn_))⟩)) (za8 Yb_PNextx3_1))
      replace BK111 := Ykb BK111 hb
      replace BK112 := Ykb BK112 hb
      replace HB := zaa.mk (zay Yb_PNextx3_1 hb)
      (try clear hb)
      (try clear hb2)
      (try clear hk)
      (try clear hi)
      (try clear ho0)
      obtain ⟨Ao29, co29, eo29⟩ := Kd.zeg HO116.out
      (first | subst eo29 | (injection eo29 with f1_ f2_ f3_; have f4_ := f1_.symm; have f5_ := f3_.symm; clear f1_ f2_ f3_; subst f4_; subst f5_))
      have q28 : (a1_1 : Int) ≤ ((t114.length : Int) : Int) := Yod
      obtain ⟨i028, hi028, _, hsz28, _⟩ := info_parts info44
      have hroom28 : t114.length ≤ co29 := (Kd.V_reads' HO116.out).2.1
      have hC28 : Kd.F k44 _ _ Ao29 t114.length t114 := (Kd.V_at (base := w.heap.size) HO116.out).2.2
      have q028 : (0 : Int) ≤ (a1_1 : Int) := Yod
      have hcut28 := zeb (P := Tryz.prog) 40 44 .i64 Tryz.underlying40 hi028 3 hsz28 Ao29 t114.length co29 a1_1 q028 q28
      have hr28 := Kd.F_cut (m := (a1_1 : Int).toNat) (c := co29) hC28 (by omega) hroom28
      obtain ⟨A28, hA28⟩ : ∃ A1, A1 = (if co29 = (a1_1 : Int).toNat then Ao29 else (Ao29 : Option Addr).map (·.add ((a1_1 : Int).toNat * 3))) := ⟨_, rfl⟩
      obtain ⟨c28, hc28⟩ : ∃ c1, c1 = co29 - (a1_1 : Int).toNat := ⟨_, rfl⟩
      have hy28 : y117.length = t114.length - (a1_1 : Int).toNat := (by rw [Ny117.out, List.length_drop] <;> omega)
      rw [show (t114).drop (a1_1 : Int).toNat = y117 from Ny117.out.symm] at hr28
      replace hr28 : Kd.F k44 _ _ A28 y117.length y117 := (by rw [hA28]; exact hr28)
      rw [← hy28, ← hA28, ← hc28] at hcut28
      have HO121 := zaa.mk (show Kd.V k44 44 _ w.heap.size _ (.slice A28 y117.length c28) y117 from Kd.V_mk (by rw [hy28, hc28]; exact Nat.sub_le_sub_right hroom28 _) hr28)
      have HC121 := zaa.mk (show y117.length ≤ c28 from by rw [hy28, hc28]; exact Nat.sub_le_sub_right hroom28 _)
      clear hr28 hC28 hroom28 hi028 hsz28 hc28;have KY28 := zaa.mk hy28;have KA28 := zaa.mk hA28;clear hy28 hA28
      replace q28 := eq_true q28
      refine hK.out _ _ ⟨(zab BK111.out 0).trans rfl, (zab BK111.out 1).trans rfl, (zab BK111.out 2).trans rfl, (zab BK112.out 0).trans rfl, (zab BK112.out 1).trans rfl, (zab BK112.out 2).trans rfl⟩ (fun hHeld => ?_)
      clear hK K
      refine Ynw 14 ?_
      refine Ypt 6 17 8 127 HT_ ?_
      refine Ypt 7 6 8 255 HT_ ?_
      refine zbq (zb4 HT_.out (by kernel_rfl)) ?_
      have p122 : 0 ≤ (0 : Int) := (by omega)
      have q122 : 0 < (y117.length : Int) := Yod
      obtain ⟨ad122, e122, hx122_0, hx122_1, hx122_2⟩ := zej (Kd.V_reads' HO121.out).2.2 0 p122 q122
      cases e122
      have qi122 : (0 < y117.length) = True := eq_true (by omega)
      (try rw [show ((0 : Int)).toNat = 0 from rfl] at hx122_0)
      (try rw [show 0 * 3 = 0 from rfl] at hx122_0)
      (try rw [Addr.add_zero'] at hx122_0)
      (try rw [show ((0 : Int)).toNat = 0 from rfl] at hx122_1)
      (try rw [show 0 * 3 = 0 from rfl] at hx122_1)
      (try rw [Addr.add_zero'] at hx122_1)
      (try rw [show ((0 : Int)).toNat = 0 from rfl] at hx122_2)
      (try rw [show 0 * 3 = 0 from rfl] at hx122_2)
      (try rw [Addr.add_zero'] at hx122_2)
      replace p122 := eq_true p122
      replace q122 := eq_true q122
      try go_wp2
      go_ret2
      exact ⟨Yfi, Yb_PNextx3_1⟩
     ·rw [if_neg c19] at H
      exact absurd H (by simp)
   ·rw [if_neg c7] at H
    exact absurd H (by simp)
  ·rw [if_neg c6] at H
   exact absurd H (by simp)
 ·replace c4 := Bool.eq_false_iff.mpr c4
  subst c4
  have H1 : (some (0, false)) = some (r1, r2) := by rw [if_neg (show ¬ (false = true) by decide)] at H; exact H
  clear H;have H := H1;clear H1
  simp only [Option.some.injEq, Prod.mk.injEq] at H
  obtain ⟨rfl, rfl⟩ := H
  go_enter Tryz.func15, Tryz.ntmps15
  go_wp2_with (first | ((with_reducible refine zau (N := 2) rfl ?_); refine Ybx 2 #[.slice A0_0 l0_0.length c0_0, .slice A0_1 l0_1.length c0_1, .slice A0_2 l0_2.length c0_2] 25 ?_; intro gb111 hg w30 hbox hb; obtain ⟨BK111, GW111, GE111, HB⟩ := Yb4 hbox hg hb Ybe; clear hb hbox hg) | ((with_reducible refine zau (N := 3) rfl ?_); refine Ybx 3 #[.int .i64 a1_0, .int .i64 a1_1, .int .i64 a1_2] 50 ?_; intro gb112 hg w31 hbox hb; obtain ⟨BK112, GW112, GE112, HB⟩ := Yb4 hbox hg hb Yb_PNextx3_0; have NB111_112 := Ynl BK111 hg; have NB112_111 := Yng BK111 hg; replace BK111 := Ykb BK111 hb; clear hb hbox hg; have hnb32 := NB111_112.out; have hnc32 := NB112_111.out; obtain ⟨hcz33_0, hfz33_0, hcz33_1, hfz33_1, hcz33_2, hfz33_2⟩ := Yc3 BK111.out; obtain ⟨hcz34_0, hfz34_0, hcz34_1, hfz34_1, hcz34_2, hfz34_2⟩ := Yc3 BK112.out) | ((with_reducible refine zbm (f := 17) rfl ?_); refine Ygl (some 9) Tryz.func17 #[.agg #[.slice A0_0 l0_0.length c0_0, .slice A0_1 l0_1.length c0_1, .slice A0_2 l0_2.length c0_2], .agg #[.int .i64 a1_0, .int .i64 a1_1, .int .i64 a1_2]] ?_; (with_reducible refine (zbp.calls _ _ l0_0 _ _ l0_1 _ _ l0_2 a1_0 a1_1 a1_2 false _ (Kd.zak HR0_0.out Ybe) HC0_0.out (Kd.zak HR0_1.out Ybe) HC0_1.out (Kd.zak HR0_2.out Ybe) HC0_2.out A3.out).mono ?_); rintro e w35 ⟨rfl, hb⟩; refine ⟨_, rfl, ?_⟩; replace BK111 := Ykb BK111 hb; replace BK112 := Ykb BK112 hb; replace HB := zaa.mk (zay Yb_PNextx3_1 hb); (try clear hb); (try clear hb2); (try clear hk); (try clear hi)))
  go_ret2
  exact ⟨Yfi, Yb_PNextx3_1⟩
end Go.Proofs.ZZ.PNext
end
section
namespace Go.Proofs.ZZ.POf
open Go.RowKit Go.Proofs.ZW.PrintWords Go.Proofs.ZW.PrintLast Go.Proofs.ZW.PrintMore
section
end
theorem info3 : (Tryz.prog.info? 3).map (fun i => (i.zero, i.size, i.bytes)) = some (some (.int .i64 0), 1, 8) := by kernel_rfl
structure S44 where
 f0 : Int
 f1 : ByteArray
 f2 : ByteArray
def z44 : S44 := ⟨(0 : Int), (⟨#[]⟩ : ByteArray), (⟨#[]⟩ : ByteArray)⟩
def k44 : Kd S44 := Kd.iso (Kd.pair (Kd.int .i64) (Kd.pair Kd.string Kd.string)) (fun x : S44 => (x.f0, x.f1, x.f2))
def za3 (xs : List S44) (i : Int) : S44 := xs.getD i.toNat z44
structure S42 where
 f0 : Int
 f1 : (List S44)
 f2 : Int
def z42 : S42 := ⟨(0 : Int), ([] : List S44), (0 : Int)⟩
def k42 : Kd S42 := Kd.iso (Kd.pair (Kd.int .i64) (Kd.pair (Kd.slice 44 k44) (Kd.int .i64))) (fun x : S42 => (x.f0, x.f1, x.f2))
theorem zdz {w : World} {x : S42} {cs : List Value} (h : k42.K w x cs) : ∃ A1 c1, cs = [.int .i64 x.f0, .slice A1 x.f1.length c1, .int .i64 x.f2] ∧ x.f1.length ≤ c1 ∧ k44.C w A1 x.f1.length x.f1 := by
 obtain ⟨_, _, rfl, rfl, ⟨_, _, rfl, ⟨A1, c1, rfl, l1, g1⟩, rfl⟩⟩ := h
 exact ⟨A1, c1, rfl, l1, g1⟩
theorem k42_mk (w : World) (x : S42) {A1 : Option Addr} {c1 : Nat} (l1 : x.f1.length ≤ c1) (g1 : k44.C w A1 x.f1.length x.f1) : k42.K w x [.int .i64 x.f0, .slice A1 x.f1.length c1, .int .i64 x.f2] := ⟨[.int .i64 x.f0], [.slice A1 x.f1.length c1, .int .i64 x.f2], rfl, rfl, ⟨[.slice A1 x.f1.length c1], [.int .i64 x.f2], rfl, ⟨A1, c1, rfl, l1, g1⟩, rfl⟩⟩
def zaf (xs : List S42) (i : Int) : S42 := xs.getD i.toNat z42
theorem zdf {w : World} {A : Option Addr} {n : Nat} {xs : List S42} (h : Kd.C k42 w A n xs) (i : Int) (h0 : 0 ≤ i) (h1 : i < n) : ∃ ad A1 c1, A = some ad ∧ w.cell? (ad.add (i.toNat * 3)) = some (.int .i64 (zaf xs i).f0) ∧ w.cell? ⟨(ad.add (i.toNat * 3)).block, (ad.add (i.toNat * 3)).off + 1, none⟩ = some (.slice A1 (zaf xs i).f1.length c1) ∧ w.cell? ⟨(ad.add (i.toNat * 3)).block, (ad.add (i.toNat * 3)).off + 2, none⟩ = some (.int .i64 (zaf xs i).f2) ∧ (zaf xs i).f1.length ≤ c1 ∧ k44.C w A1 (zaf xs i).f1.length (zaf xs i).f1 := by
 obtain ⟨ad, c, e, _, hK, hc0⟩ := Kd.zeu h z42 i h0 h1
 have hc : ∀ j u, c[j]? = some u → w.cell? (ad.add (i.toNat * 3 + j)) = some u := hc0
 obtain ⟨A1, c1, rfl, l1, g1⟩ := zdz hK
 exact ⟨ad, A1, c1, e, hc 0 _ rfl, by rw [← zb5 _ _ 1 (by omega)]; exact hc 1 _ rfl, by rw [← zb5 _ _ 2 (by omega)]; exact hc 2 _ rfl, l1, g1⟩
structure S25 where
 f0 : (List ByteArray)
 f1 : (List ByteArray)
 f2 : (List S42)
def z25 : S25 := ⟨([] : List ByteArray), ([] : List ByteArray), ([] : List S42)⟩
section
end
theorem Yb_POfx1_0 {n : Nat} {w w' : World} (h : Below n w w' := by repeat (first | (with_reducible first | exact HB.out | apply za2 | apply zav | apply zas | refine za6 ?_ GE101.out) | exact HB.out)) : Below n w w' := h
theorem Yb_POfx1_1 {n : Nat} {w w' : World} (h : Below n w w' := by repeat (first | (with_reducible first | exact HB.out | apply za2 | apply zav | apply zas | refine za6 ?_ GE101.out | refine za6 ?_ GE103.out) | exact HB.out)) : Below n w w' := h
def zc0.l0 : Nat → Int → List Int → List (S42) → Int → Int → Option (List Int)
 | 0, _, _, _, _, _ => none
 | k + 1, x1, x5, x9, x10, x11 => if x11 < x10 then (if 0 ≤ x11 then (if x11 < (x9.length : Int) then (if ((zaf x9 x11).f0) = x1 then (if x5.length < 17592186044416 then (zc0.l0 k x1 (x5 ++ [x11]) x9 x10 (wrap64 (x11 + 1))) else (none)) else (zc0.l0 k x1 x5 x9 x10 (wrap64 (x11 + 1)))) else (none)) else (none)) else (some x5)
def zc0.f (k : Nat) (l0_0 : List ByteArray) (l0_1 : List ByteArray) (l0_2 : List (S42)) (a1 : Int) : Option (List Int) := zc0.l0 k a1 ([] : List Int) l0_2 (l0_2.length : Int) 0
theorem zc0.calls (k : Nat) (A0_0 : Option Addr) (c0_0 : Nat) (l0_0 : List ByteArray) (A0_1 : Option Addr) (c0_1 : Nat) (l0_1 : List ByteArray) (A0_2 : Option Addr) (c0_2 : Nat) (l0_2 : List (S42)) (a1 : Int) (r : List Int) (w : World) (hr0_0 : Kd.C Kd.string w A0_0 l0_0.length l0_0) (hc0_0 : l0_0.length ≤ c0_0) (hr0_1 : Kd.C Kd.string w A0_1 l0_1.length l0_1) (hc0_1 : l0_1.length ≤ c0_1) (hr0_2 : Kd.C k42 w A0_2 l0_2.length l0_2) (hc0_2 : l0_2.length ≤ c0_2) (h : zc0.f k l0_0 l0_1 l0_2 a1 = some r) :
  Calls Tryz.prog 46 #[.agg #[.slice A0_0 l0_0.length c0_0, .slice A0_1 l0_1.length c0_1, .slice A0_2 l0_2.length c0_2], .int .i64 a1] w fun e w' => ∃ v0_ : Value, e = .returned (v0_) ∧ Kd.R (Kd.int .i64) 3 w' w.heap.size (fun _ => True) v0_ r ∧ Below w.heap.size w w' := by
 have hu25 := Tryz.underlying25
 have hu42 := Tryz.underlying42
 have HR0_0 := zaa.mk hr0_0;have HC0_0 := zaa.mk hc0_0;clear hr0_0 hc0_0;have HR0_1 := zaa.mk hr0_1;have HC0_1 := zaa.mk hc0_1;clear hr0_1 hc0_1;have HR0_2 := zaa.mk hr0_2;have HC0_2 := zaa.mk hc0_2;clear hr0_2 hc0_2
 have HB := zaa.mk (Below.refl w.heap.size w)
 have H : (zc0.l0 k a1 ([] : List Int) l0_2 (l0_2.length : Int) 0) = some r := h
 clear h
 have H' := zaa.mk H
 clear H
 go_enter Tryz.func46, Tryz.ntmps46
 go_wp2_with (first | ((with_reducible refine zau (N := 2) rfl ?_); refine Ybx 2 #[.slice A0_0 l0_0.length c0_0, .slice A0_1 l0_1.length c0_1, .slice A0_2 l0_2.length c0_2] 25 ?_; intro gb101 hg w3 hbox hb; obtain ⟨BK101, GW101, GE101, HB⟩ := Yb4 hbox hg hb Ybe; clear hb hbox hg; obtain ⟨hcz4_0, hfz4_0, hcz4_1, hfz4_1, hcz4_2, hfz4_2⟩ := Yc3 BK101.out))
 go_loopg [5, 11] k (fun kq v5 v11 w' => ∃ (x5_1 : List Int) (x11_1 : Int), v11 = .int .i64 x11_1 ∧ zaa (zc0.l0 kq a1 x5_1 l0_2 (l0_2.length : Int) x11_1 = some r) ∧ zaa (kq ≤ k) ∧ zaa (Kd.R (Kd.int .i64) 3 w' w.heap.size (fun _ => True) v5 x5_1) ∧ zaa (w'.heap[gb101]? = some (.cells #[(.slice A0_0 l0_0.length c0_0), (.slice A0_1 l0_1.length c0_1), (.slice A0_2 l0_2.length c0_2)] 25 (0, 0))) ∧ zaa (Below w.heap.size w w'))
 case atStart => exact ⟨(([] : List Int)), (0), Yfs, H', ⟨Nat.le_refl _⟩, ⟨by first | exact Kd.zdr _ _ _ _ _ | exact Kd.N_nil _ _ _ _ _ | exact Kd.V_nil _ _ _ _ _ | exact Kd.Q_nil _ _ _ _ _ | exact Kd.S_nil _ _ _ _ _⟩, ⟨Yg BK101⟩, ⟨Yb_POfx1_0⟩⟩
 case round =>
  clear H'
  obtain ⟨x5_1, x11_1, rfl, HA, HK1, HO_5, BK101, HB⟩ := hrel
  cases gk with
  | zero => exact absurd HA.out (by simp [zc0.l0])
  | succ k1 =>
   have H := HA.out;clear HA
   simp only [zc0.l0] at H
   by_cases c5 : x11_1 < (l0_2.length : Int)
   ·rw [if_pos c5] at H
    have c5b0 := decide_eq_true c5
    clear c5
    by_cases c6 : 0 ≤ x11_1
    ·rw [if_pos c6] at H
     have c6b0 := decide_eq_true c6
     clear c6
     by_cases c7 : x11_1 < (l0_2.length : Int)
     ·rw [if_pos c7] at H
      have c7b0 := decide_eq_true c7
      clear c7
      by_cases c8 : ((zaf l0_2 x11_1).f0) = a1
      ·rw [if_pos c8] at H
       have c8b0 : (((zaf l0_2 x11_1).f0) == a1) = true := beq_iff_eq.mpr c8
       have c8b1 : (((zaf l0_2 x11_1).f0) != a1) = false := bne_eq_false_iff_eq.mpr c8
       clear c8
       by_cases c9 : x5_1.length < 17592186044416
       ·rw [if_pos c9] at H
        have LMc9 := zaa.mk c9;clear c9
        obtain ⟨y104, hy104⟩ : ∃ y_ : List Int, y_ = (x5_1 ++ [x11_1]) := ⟨_, rfl⟩
        replace H : (zc0.l0 k1 a1 y104 l0_2 (l0_2.length : Int) (wrap64 (x11_1 + 1))) = some r := by first | (rw [hy104]; with_reducible exact H) | (have H2_ := (Option.bind_some _ _).symm.trans H; rw [hy104]; with_reducible exact H2_) | (have H2_ := (Option.bind_some _ _).symm.trans H; with_reducible exact H2_) | with_reducible exact H | (rw [hy104]; exact H) | exact H
        have Ny104 := zaa.mk hy104;clear hy104
        have H' := zaa.mk H
        clear H
        have p102 : 0 ≤ (x11_1 : Int) := Yod
        have q102 : x11_1 < (l0_2.length : Int) := Yod
        obtain ⟨ad102, A102_1, c102_1, e102, hx102_0, hx102_1, hx102_2, hl102_1, hi102_1⟩ := zdf HR0_2.out x11_1 p102 q102
        cases e102
        replace hx102_0 := zad HB.out hx102_0
        replace hx102_1 := zad HB.out hx102_1
        replace hx102_2 := zad HB.out hx102_2
        have HR102_1 := zaa.mk hi102_1;have HC102_1 := zaa.mk hl102_1;clear hi102_1 hl102_1
        replace p102 := eq_true p102
        replace q102 := eq_true q102
        go_wp2_with (first | ((with_reducible refine zau (N := 7) rfl ?_); refine Ybx 7 #[.int .i64 0, .slice none 0 0, .int .i64 0] 42 ?_; intro gb103 hg w10 hbox hb; replace HO_5 := zaa.mk (Kd.zbc (Yr HO_5) hb); obtain ⟨BK103, GW103, GE103, HB⟩ := Yb4 hbox hg hb Yb_POfx1_0; have NB101_103 := Ynl BK101 hg; have NB103_101 := Yng BK101 hg; replace BK101 := Ykb BK101 hb; clear hb hbox hg; have hnb11 := NB103_101.out; have hnc11 := NB101_103.out; obtain ⟨hcz12_0, hfz12_0, hcz12_1, hfz12_1, hcz12_2, hfz12_2⟩ := Yc3 BK103.out) | ((with_reducible refine zca (b := .append) (xs := #[.tmp 20, .tmp 22]) rfl ?_); at_builtin; refine Kd.zdd (Kd.int .i64) (w0 := w) w.heap.size rfl (.tmp 20) (.tmp 22) 35 3 (.int .i64 0) 8 rfl Tryz.underlying35 info3 rfl (by decide) (by omega) u5 x5_1 x11_1 [.int .i64 x11_1] (fun _ => True) (fun _ => False) rfl (by first | (go_simp; done) | (go_simp; rfl)) ?aP (fun _ hk => hk.elim) ?aF ?aO ?aB ?aS ?aL ?_; (case aP => exact rfl); (case aB => exact Yb_POfx1_1); (case aF => exact (fun _ _ => trivial)); (case aO => exact (by (with_reducible repeat (first | apply Kd.R_alloc | apply Kd.zb0 | apply Kd.zbn)); exact Kd.zba (Kd.zdg (p := ⟨gb103, 2, none⟩) (Kd.zdg (p := ⟨gb103, 1, none⟩) (Kd.zdg (p := ⟨gb103, 0, none⟩) (Kd.zgy HO_5.out BK103.out (by decide)) (fun _ hk => hk.2) (.int .i64 ((zaf l0_2 x11_1).f0))) (fun _ hk => hk.2) (.slice A102_1 ((zaf l0_2 x11_1).f1).length c102_1)) (fun _ hk => hk.2) (.int .i64 ((zaf l0_2 x11_1).f2))) (fun _ hk => trivial))); (case aS => exact (za8 Yb_POfx1_1)); (case aL => have := LMc9.out; omega); intro v105 w13 ho hb hg hat; rw [← Ny104.out] at ho; replace BK101 := zaa.mk (zcc (g := gb101) (o := .cells #[.slice A0_0 l0_0.length c0_0, .slice A0_1 l0_1.length c0_1, .slice (some ad102) l0_2.length c0_2] 25 (0, 0)) (by (with_reducible repeat (first | refine zam ?_ _ | refine zah ?_ | refine zaj ?_ _)); refine zbg ?_ NB101_103.out _; (with_reducible repeat (first | refine zam ?_ _ | refine zah ?_ | refine zaj ?_ _)); refine zbg ?_ NB101_103.out _; (with_reducible repeat (first | refine zam ?_ _ | refine zah ?_ | refine zaj ?_ _)); refine zbg ?_ NB101_103.out _; (with_reducible repeat (first | refine zam ?_ _ | refine zah ?_ | refine zaj ?_ _)); exact BK101.out) hg (Kd.R_ne HO_5.out BK101.out (by decide))); replace BK103 := zaa.mk (zcc (g := gb103) (o := .cells #[.int .i64 ((zaf l0_2 x11_1).f0), .slice A102_1 ((zaf l0_2 x11_1).f1).length c102_1, .int .i64 ((zaf l0_2 x11_1).f2)] 42 (0, 0)) (by (with_reducible repeat (first | refine zam ?_ _ | refine zah ?_ | refine zaj ?_ _)); refine zbu (cs := #[.int .i64 ((zaf l0_2 x11_1).f0), .slice A102_1 ((zaf l0_2 x11_1).f1).length c102_1, .int .i64 0]) ?_ 2 _ rfl; (with_reducible repeat (first | refine zam ?_ _ | refine zah ?_ | refine zaj ?_ _)); refine zbu (cs := #[.int .i64 ((zaf l0_2 x11_1).f0), .slice none 0 0, .int .i64 0]) ?_ 1 _ rfl; (with_reducible repeat (first | refine zam ?_ _ | refine zah ?_ | refine zaj ?_ _)); refine zbu (cs := #[.int .i64 0, .slice none 0 0, .int .i64 0]) ?_ 0 _ rfl; (with_reducible repeat (first | refine zam ?_ _ | refine zah ?_ | refine zaj ?_ _)); exact BK103.out) hg (Kd.R_ne HO_5.out BK103.out (by decide))); replace HB := zaa.mk (hb); have HO106 := zaa.mk (ho); clear HO_5; clear ho hb hg hat))
        go_roundg k1
        case measure => have := HK1.out; omega
        case rel => exact ⟨(y104), (wrap64 (x11_1 + 1)), Yfs, H', ⟨by have := HK1.out; omega⟩, ⟨Yr HO106⟩, ⟨Yg BK101⟩, ⟨Yb_POfx1_1⟩⟩
       ·rw [if_neg c9] at H
        exact absurd H (by simp)
      ·rw [if_neg c8] at H
       have c8b0 : (((zaf l0_2 x11_1).f0) == a1) = false := beq_eq_false_iff_ne.mpr c8
       have c8b1 : (((zaf l0_2 x11_1).f0) != a1) = true := bne_iff_ne.mpr c8
       have H' := zaa.mk H
       clear H
       have p102 : 0 ≤ (x11_1 : Int) := Yod
       have q102 : x11_1 < (l0_2.length : Int) := Yod
       obtain ⟨ad102, A102_1, c102_1, e102, hx102_0, hx102_1, hx102_2, hl102_1, hi102_1⟩ := zdf HR0_2.out x11_1 p102 q102
       cases e102
       replace hx102_0 := zad HB.out hx102_0
       replace hx102_1 := zad HB.out hx102_1
       replace hx102_2 := zad HB.out hx102_2
       have HR102_1 := zaa.mk hi102_1;have HC102_1 := zaa.mk hl102_1;clear hi102_1 hl102_1
       replace p102 := eq_true p102
       replace q102 := eq_true q102
       go_wp2_with (first | ((with_reducible refine zau (N := 7) rfl ?_); refine Ybx 7 #[.int .i64 0, .slice none 0 0, .int .i64 0] 42 ?_; intro gb103 hg w14 hbox hb; replace HO_5 := zaa.mk (Kd.zbc (Yr HO_5) hb); obtain ⟨BK103, GW103, GE103, HB⟩ := Yb4 hbox hg hb Yb_POfx1_0; have NB101_103 := Ynl BK101 hg; have NB103_101 := Yng BK101 hg; replace BK101 := Ykb BK101 hb; clear hb hbox hg; have hnb15 := NB103_101.out; have hnc15 := NB101_103.out; obtain ⟨hcz16_0, hfz16_0, hcz16_1, hfz16_1, hcz16_2, hfz16_2⟩ := Yc3 BK103.out))
       go_roundg k1
       case measure => have := HK1.out; omega
       case rel => exact ⟨(x5_1), (wrap64 (x11_1 + 1)), Yfs, H', ⟨by have := HK1.out; omega⟩, ⟨by (with_reducible repeat (first | apply Kd.R_alloc | apply Kd.zb0 | apply Kd.zbn)); exact Kd.zba (Kd.zdg (p := ⟨gb103, 2, none⟩) (Kd.zdg (p := ⟨gb103, 1, none⟩) (Kd.zdg (p := ⟨gb103, 0, none⟩) (Kd.zgy HO_5.out BK103.out (by decide)) (fun _ hk => hk.2) (.int .i64 ((zaf l0_2 x11_1).f0))) (fun _ hk => hk.2) (.slice A102_1 ((zaf l0_2 x11_1).f1).length c102_1)) (fun _ hk => hk.2) (.int .i64 ((zaf l0_2 x11_1).f2))) (fun _ hk => trivial)⟩, ⟨by (with_reducible repeat (first | refine zam ?_ _ | refine zah ?_ | refine zaj ?_ _)); refine zbg ?_ NB101_103.out _; (with_reducible repeat (first | refine zam ?_ _ | refine zah ?_ | refine zaj ?_ _)); refine zbg ?_ NB101_103.out _; (with_reducible repeat (first | refine zam ?_ _ | refine zah ?_ | refine zaj ?_ _)); refine zbg ?_ NB101_103.out _; (with_reducible repeat (first | refine zam ?_ _ | refine zah ?_ | refine zaj ?_ _)); exact BK101.out⟩, ⟨Yb_POfx1_1⟩⟩
     ·rw [if_neg c7] at H
      exact absurd H (by simp)
    ·rw [if_neg c6] at H
     exact absurd H (by simp)
   ·rw [if_neg c5] at H
    have c5b0 := decide_eq_false c5
    clear c5;obtain rfl := Option.some.inj H;go_wp2;go_ret
    exact ⟨_, by first | rfl | (simp [errW_none, errW_some] <;> rfl) | (simp [*, errW_none, errW_some] <;> rfl), by (with_reducible repeat (first | apply Kd.R_alloc | apply Kd.zb0 | apply Kd.zbn)); exact HO_5.out, Yb_POfx1_0⟩
end Go.Proofs.ZZ.POf
end
section
namespace Go.Proofs.ZZ.LrK
open Go Go.Maps
abbrev TL : TypeId := 50
abbrev Lr := Int × Int × Int
def lrA (x : Lr) : Array Value := #[.int .i64 x.1, .int .i64 x.2.1, .int .i64 x.2.2]
def lrV (x : Lr) : Value := .agg (lrA x)
def lrOk (x : Lr) : Prop := (Lit.int .i64 x.1).wf = true ∧ (Lit.int .i64 x.2.1).wf = true ∧ (Lit.int .i64 x.2.2).wf = true
def lrL (x : Lr) : Lit := .string (keyBytes [.int .i64 x.1, .int .i64 x.2.1, .int .i64 x.2.2])
theorem laidOut : laidOutB Tryz.prog = true := by kernel_rfl
theorem rowL : (TL : TypeId) < Tryz.prog.types.size := of_decide_eq_true (by kernel_rfl)
theorem wideL : (match Tryz.prog.underlying TL with | some (.array _ _) | some (.struct _) => true | _ => false) = true := by rw [Tryz.underlying50]
theorem law : Keyed Tryz.prog TL := Keyed.of_law (deep_law_laid laidOut (m := 2) (by omega) rowL (by kernel_rfl) wideL)
theorem keyTypeL : Tryz.prog.keyType TL = true := by kernel_rfl
theorem cellsL : Tryz.prog.cellsOf TL = 3 := by kernel_rfl
theorem cellsI : Tryz.prog.cellsOf 3 = 1 := by kernel_rfl
theorem sizeL : ∃ m, Tryz.prog.types.size = m + 1 := ⟨Tryz.prog.types.size - 1, by have : 0 < Tryz.prog.types.size := of_decide_eq_true (by kernel_rfl); omega⟩
theorem keyLits_lr (x : Lr) (h : lrOk x) : Tryz.prog.keyLits (Tryz.prog.types.size + 1) TL (lrA x).toList = some [.int .i64 x.1, .int .i64 x.2.1, .int .i64 x.2.2] := by
 obtain ⟨m, hm⟩ := sizeL
 obtain ⟨h1, h2, h3⟩ := h
 rw [hm]
 simp only [Program.keyLits, Tryz.underlying50, lrA]
 rw [if_pos ⟨by rw [cellsL]; rfl, by simp⟩]
 simp [Program.keyLits, Tryz.underlying3, cellsI, h1, h2, h3]
theorem zia {x : Lr} (h : lrOk x) : keyOf Tryz.prog TL (lrV x) = some (lrL x) := by
 unfold keyOf
 simp only [Tryz.underlying50]
 rw [if_pos (by simp [keyTypeL, lrV, lrA, Value.formed, Tryz.underlying50, cellsL])]
 show (Tryz.prog.keyLits (Tryz.prog.types.size + 1) TL (lrA x).toList).map _ = _
 rw [keyLits_lr x h]
 rfl
theorem keyI (m : Nat) {v : Value} {L : List Lit} (h : Tryz.prog.keyLits (m + 1) 3 [v] = some L) : ∃ n, (Lit.int .i64 n).wf = true ∧ v = .int .i64 n ∧ L = [.int .i64 n] := by
 simp only [Program.keyLits, Tryz.underlying3] at h
 split at h
 all_goals simp_all
 all_goals (obtain ⟨⟨h0, h1⟩, h2⟩ := h; subst h0; subst h2; exact ⟨_, h1, by simp, rfl⟩)
theorem lr_inv {v : Value} {l : Lit} (h : keyOf Tryz.prog TL v = some l) : ∃ x, lrOk x ∧ v = lrV x ∧ l = lrL x := by
 obtain ⟨xs, L, rfl, hL, rfl⟩ := keyOf_top wideL h
 obtain ⟨m, hm⟩ := sizeL
 rw [hm] at hL
 unfold Program.keyLits at hL
 simp only [Tryz.underlying50] at hL
 split at hL
 case isFalse => cases hL
 rename_i hc
 rw [cellsL] at hc
 obtain ⟨a, b, c, e⟩ : ∃ a b c, xs.toList = [a, b, c] := by
  match hx : xs.toList, hc.1 with
  | [a, b, c], _ => exact ⟨a, b, c, rfl⟩
 have hx : xs = #[a, b, c] := Array.toList_inj.1 e
 subst hx
 simp only [List.mapM_cons, List.mapM_nil, cellsI, List.drop, List.take, Option.map_eq_some_iff, Option.bind_eq_bind, Option.bind_eq_some_iff, Option.pure_def, Option.some.injEq] at hL
 obtain ⟨LL, ⟨L1, g1, L2, ⟨L3, g3, L4, ⟨L5, g5, L6, g6, rfl⟩, rfl⟩, rfl⟩, rfl⟩ := hL
 obtain ⟨n1, w1, rfl, rfl⟩ := keyI m g1
 obtain ⟨n2, w2, rfl, rfl⟩ := keyI m g3
 obtain ⟨n3, w3, rfl, rfl⟩ := keyI m g5
 subst g6
 exact ⟨(n1, n2, n3), ⟨w1, w2, w3⟩, rfl, rfl⟩
theorem lrL_inj {x y : Lr} (hx : lrOk x) (hy : lrOk y) (h : lrL x = lrL y) : x = y := by
 have := law.inj (zia hx) (by rw [h]; exact zia hy)
 simp only [lrV, lrA, Value.agg.injEq, Array.mk.injEq, List.cons.injEq, Value.int.injEq, true_and, and_true] at this
 obtain ⟨h1, h2, h3⟩ := this
 exact Prod.ext h1 (Prod.ext h2 h3)
end Go.Proofs.ZZ.LrK
end
section
namespace Go.Proofs.ZZ.GMap
open Go Go.Maps
section
variable {α : Type} [DecidableEq α]
def look : List (α × Value) → α → Option Value
 | [], _ => none
 | p :: t, x => if p.1 = x then some p.2 else look t x
def putM : List (α × Value) → α → Value → List (α × Value)
 | [], x, v => [(x, v)]
 | p :: t, x, v => if p.1 = x then (x, v) :: t else p :: putM t x v
theorem ze6 (x y : α) (v : Value) : ∀ M : List (α × Value), look (putM M x v) y = if y = x then some v else look M y
 | [] => by
  simp only [putM, look]
  by_cases h : y = x
  ·rw [if_pos h.symm, if_pos h]
  ·rw [if_neg (fun e => h e.symm), if_neg h]
 | p :: t => by
  have ih := ze6 x y v t
  simp only [putM]
  split
  ·rename_i h
   simp only [look]
   by_cases hy : y = x
   ·rw [if_pos hy.symm, if_pos hy]
   ·rw [if_neg (fun e => hy e.symm), if_neg hy, if_neg (fun e => hy (by rw [← e, h]))]
  ·rename_i h
   simp only [look]
   by_cases hp : p.1 = y
   ·rw [if_pos hp, if_neg (fun e => h (by rw [hp, e])), if_pos hp]
   ·rw [if_neg hp, ih, if_neg hp]
theorem zhk {M : List (α × Value)} {x : α} : (look M x).isSome = true ↔ x ∈ M.map (·.1) := by
 induction M with
 | nil => simp [look]
 | cons p t ih =>
  simp only [look, List.map_cons, List.mem_cons]
  by_cases h : p.1 = x
  ·rw [if_pos h]
   simp [h]
  ·rw [if_neg h, ih]
   exact ⟨.inr, fun g => g.resolve_left (fun e => h e.symm)⟩
theorem putM_keys (x : α) (v : Value) : ∀ M : List (α × Value), ∀ y, y ∈ (putM M x v).map (·.1) ↔ y = x ∨ y ∈ M.map (·.1) := fun M y => by
 rw [← zhk, ze6, ← zhk]
 by_cases h : y = x
 ·simp [h]
 ·simp [h]
theorem zjk (x : α) (v : Value) : ∀ {M : List (α × Value)}, (M.map (·.1)).Nodup → ((putM M x v).map (·.1)).Nodup
 | [], _ => by simp [putM]
 | p :: t, h => by
  obtain ⟨h1, h2⟩ := List.nodup_cons.1 (by simpa using h : (p.1 :: t.map (·.1)).Nodup)
  simp only [putM]
  split
  ·rename_i e
   rw [List.map_cons]
   refine List.nodup_cons.2 ⟨?_, h2⟩
   rw [← e]
   exact h1
  ·rename_i e
   rw [List.map_cons]
   refine List.nodup_cons.2 ⟨fun hm => ?_, zjk x v h2⟩
   rcases (putM_keys x v t p.1).1 hm with g | g
   ·exact e g
   ·exact h1 g
theorem zi8 (x : α) (v : Value) : ∀ M : List (α × Value), (putM M x v).length = if (look M x).isSome = true then M.length else M.length + 1
 | [] => by simp [putM, look]
 | p :: t => by
  have ih := zi8 x v t
  simp only [putM, look]
  split
  ·simp
  ·rw [List.length_cons, ih, List.length_cons]
   split <;> rfl
theorem putM_le (x : α) (v : Value) (M : List (α × Value)) : (putM M x v).length ≤ M.length + 1 := by
 rw [zi8]
 split <;> omega
end
structure KeyAs (P : Program) (k : TypeId) (α : Type) where
 enc : α → Value
 lit : α → Lit
 ok : α → Prop
 keyed : Keyed P k
 key : ∀ {x}, ok x → keyOf P k (enc x) = some (lit x)
 inv : ∀ {v l}, keyOf P k v = some l → ∃ x, ok x ∧ v = enc x ∧ l = lit x
 inj : ∀ {x y}, ok x → ok y → lit x = lit y → x = y
def rawR (v : Value) : Option (DataW Value × List MemPlace) := some (.held v, [])
section
variable {P : Program} {k : TypeId} {α : Type} [DecidableEq α] (K : KeyAs P k α)
def MapAt (b : Nat) (M : List (α × Value)) (W : World) : Prop :=
 (M.map (·.1)).Nodup ∧ (∀ p ∈ M, K.ok p.1) ∧ ∃ D : DataW Value, W.ownsMap P k rawR b M.length D ∧ size D = M.length ∧ ∀ x, K.ok x → has D (K.lit x) = (look M x).isSome ∧ ∀ z, D.atKey (K.lit x) z = (look M x).elim z DataW.held
variable {K} {b : Nat} {M : List (α × Value)} {W : World}
theorem MapAt.lt (h : MapAt K b M W) : b < W.heap.size := by
 obtain ⟨_, _, D, h1, _⟩ := h
 exact h1.lt
theorem MapAt.block (h : MapAt K b M W) : ∃ es c, W.heap[b]? = some (.map es c) := by
 obtain ⟨_, _, D, ⟨es, clock, hb, _⟩, _⟩ := h
 exact ⟨es, clock, hb⟩
theorem MapAt.keep {W' : World} (h : MapAt K b M W) (hb : W'.heap[b]? = W.heap[b]?) : MapAt K b M W' := by
 obtain ⟨h1, h2, D, ⟨es, clock, h3, h4⟩, h5⟩ := h
 exact ⟨h1, h2, D, ⟨es, clock, hb.trans h3, h4⟩, h5⟩
theorem MapAt.new (W : World) : MapAt K W.heap.size [] (W.alloc (.map #[] 0)) :=
 ⟨List.nodup_nil, (fun _ h => nomatch h), _, World.ownsMap_made W _ _ _, rfl, fun x _ => ⟨rfl, fun z => rfl⟩⟩
theorem MapAt.look {t e : TypeId} (h : MapAt K b M W) (ht : P.underlying t = some (.map k e)) {z : Value} (hz : (zeroValue e).run P W = .ok z W) {x : α} (hx : K.ok x) :
  (Instr.lookup t (.map (some b)) (K.enc x) false).run P W = .ok ((look M x).getD z) W := by
 obtain ⟨h1, h2, D, hown, hs, hh⟩ := h
 obtain ⟨v, ps, hr, hv⟩ := hown.lookup K.keyed ht hz (zd := .held z) (zp := []) rfl (K.key hx)
 rw [(hh x hx).2] at hv
 rw [hr]
 congr 1
 simp only [rawR, Option.some.injEq, Prod.mk.injEq] at hv
 cases e : GMap.look M x with
 | none => rw [e] at hv; exact DataW.held.inj hv.1
 | some u => rw [e] at hv; exact DataW.held.inj hv.1
theorem tight {R : Value → Option (DataW Value × List MemPlace)} {w : World} {n : Nat} {D : DataW Value} (h : w.ownsMap P k R b n D) : w.ownsMap P k R b (size D) D := by
 obtain ⟨es, clock, hb, F, hs, hD⟩ := h
 refine ⟨es, clock, hb, F, ?_, hD⟩
 rw [hD]
 simp [Maps.size, length_sorted]
theorem MapAt.put {t e : TypeId} (h : MapAt K b M W) (ht : P.underlying t = some (.map k e)) (hn : M.length < maxLen) {x : α} (hx : K.ok x) (v : Value) :
  ∃ W', (Instr.mapUpdate t (.map (some b)) (K.enc x) v).run P W = .ok () W' ∧ MapAt K b (putM M x v) W' ∧ W.grownBy W' (some b) := by
 obtain ⟨h1, h2, D, hown, hs, hh⟩ := h
 obtain ⟨W', hr, ho, hg⟩ := hown.update K.keyed ht hn (K.key hx) (d := .held v) (ps := []) rfl
 have hk := K.keyed.key (K.key hx)
 have hsz : size (D.put (K.lit x) (.held v)) = (putM M x v).length := by
  rw [size_put (hown.tidy K.keyed) _, (hh x hx).1, hs, zi8]
 refine ⟨W', hr, ⟨zjk x v h1, fun p hp => ?_, D.put (K.lit x) (.held v), by rw [← hsz]; exact tight ho, hsz, fun y hy => ?_⟩, hg⟩
 ·rcases (putM_keys x v M p.1).1 (List.mem_map_of_mem hp) with e | e
  ·rw [e]; exact hx
  ·obtain ⟨q, hq, e⟩ := List.mem_map.1 e
   rw [← e]
   exact h2 q hq
 ·by_cases e : y = x
  ·subst e
   rw [has_put_same hown.isMap hk, ze6, if_pos rfl]
   exact ⟨rfl, fun z => atKey_put_same hown.isMap hk _ _⟩
  ·have hne : K.lit y ≠ K.lit x := fun g => e (K.inj hy hx g)
   rw [has_put_other hne, ze6, if_neg e, (hh y hy).1]
   exact ⟨rfl, fun z => by rw [atKey_put_other hne]; exact (hh y hy).2 z⟩
end
end Go.Proofs.ZZ.GMap
end
section
namespace Go.Proofs.ZZ.LSeq
open Go Go.RowKit Go.Shelf Go.Maps Go.Proofs.ZW.PrintWords Go.Proofs.ZZ.Round Go.Proofs.ZZ.RangeG Go.Proofs.ZZ.Fl Go.Proofs.ZZ.RangeH Go.Proofs.ZZ.LrK Go.Proofs.ZZ.GMap
attribute [local go_sem] Oper.semAt_some
abbrev LrX := { x : Lr // lrOk x }
def encL (x : LrX) : Array Value := #[lrV x.1]
def zdj (xs : List LrX) : List Lr := xs.map (·.1)
def zci (xs : List Lr) : List Value := xs.flatMap fun x => (lrA x).toList
theorem zfi (xs : List Lr) : (zci xs).length = xs.length * 3 := by
 induction xs with
 | nil => rfl
 | cons a t ih => simp only [zci, List.flatMap_cons, List.length_append, List.length_cons] at *; rw [ih]; simp [lrA]; omega
theorem flatL_app (xs : List Lr) (x : Lr) : zci (xs ++ [x]) = zci xs ++ [.int .i64 x.1, .int .i64 x.2.1, .int .i64 x.2.2] := by simp [zci, lrA]
def keyL : KeyAs Tryz.prog TL Lr := ⟨lrV, lrL, lrOk, law, zia, lr_inv, lrL_inj⟩
def KeepV (n₀ : Nat) (L : List Nat) (W W' : World) : Prop := zc7 n₀ L W W' ∧ KeepsWalks W W'
theorem keepV_t {n₀ : Nat} {L : List Nat} {A B C : World} (h : KeepV n₀ L A B) (k : KeepV n₀ L B C) : KeepV n₀ L A C := ⟨zes h.1 k.1, walksK_t h.2 k.2⟩
def KeepU (n₀ : Nat) (l : Nat) (W W' : World) : Prop := KeepV n₀ [] W W' ∧ Behind l W W'
theorem keepU_t {n₀ l : Nat} {A B C : World} (h : KeepU n₀ l A B) (k : KeepU n₀ l B C) : KeepU n₀ l A C := ⟨keepV_t h.1 k.1, zdo h.2 k.2⟩
theorem keepU_b {n₀ : Nat} {w : World} (hn : n₀ ≤ w.heap.size) (W : World) (o o' : Obj) (h : W.heap[w.heap.size + 1]? = some o) (h1 : o.isCells = false) (h2 : o.isWalk = false) : KeepU n₀ (w.heap.size + 1) W (W.putObj (w.heap.size + 1) o') :=
 ⟨⟨zg5 (L := []) hn (fun b hb => by cases hb) W _ o o' (by omega) h h1 h2, walksK_b (w := w) W _ o o' (by omega) h h1 h2⟩, zhd _ W o o' h⟩
theorem infoLr : (Tryz.prog.info? TL).map (fun i => (i.zero, i.size, i.bytes)) = some (some (.agg #[.int .i64 0, .int .i64 0, .int .i64 0]), 3, 24) := by kernel_rfl
theorem zhe (X : World) (a b c : Value) (j : Nat) (u : Value) (hj : [a, b, c][j]? = some u) : (X.alloc (.cells #[a, b, c] TL)).cell? ((⟨X.heap.size, 0, none⟩ : Addr).add j) = some u := by
 have h := zab (za9 X (.cells #[a, b, c] TL)) j
 rw [add_plain]
 rw [h, ← hj]
 simp
theorem zj2 (gf : Nat) (lb : Array Value) (heg : ∀ args w, (callFunc gf args).run Tryz.prog w = .ok (.enter gf args) w) (w : World)
  (S Sp : List LrX → Prop) (N : Nat) (hN : N ≤ 1000000000000) (hseq : SeqH 2 Tryz.prog gf lb encL (KeepU w.heap.size) S Sp N w) :
  Calls Tryz.prog 80 #[.slice none 0 0, .func (.func gf) #[] lb] w fun e w' => ∃ v xs, e = .returned v ∧ S xs ∧ xs.length ≤ N ∧ w'.ownsRow w.heap.size TL 3 v xs.length (zci (zdj xs)) ∧ Below w.heap.size w w' := by
 refine (callsIn_wide (n := 3)).1 ?_
 refine callsIn_of_wp_marks Tryz.func80 rfl trivial ?_ rfl
 simp only [Tryz.ntmps80, List.size_toArray, List.length_cons, List.length_nil, Nat.reduceAdd, Nat.reduceSub, Array.replicate_succ, Array.replicate_zero, List.push_toArray, List.append_toArray, List.nil_append, List.cons_append]
 gi_wp2
 obtain ⟨W0, hW0⟩ : ∃ W0, w.alloc (Obj.cells #[.slice none 0 0] 45) = W0 := ⟨_, rfl⟩
 have bv : Boxed W0 w.heap.size 45 (.slice none 0 0) := by rw [← hW0]; exact Boxed.new w _ _
 have tW : ∀ L T', Turn L T' w W0 := fun L T' => by rw [← hW0]; exact Turn.alloc _
 have hB0 : Below w.heap.size w W0 := by rw [← hW0]; exact (Below.refl _ _).alloc (Nat.le_refl _) _
 have sz0 : W0.heap.size = w.heap.size + 1 := by rw [← hW0]; simp
 rw [hW0]
 clear hW0
 obtain ⟨i0, hi, hz0, hz1, hz2⟩ := info_parts infoLr
 refine rangeH (gf := gf) (lb := lb) rfl heg hseq keepU_t (keepU_b (by omega)) (tW _ _) (fun _ => rfl)
  (fun pre X => (∃ v, Boxed X w.heap.size 45 v ∧ X.ownsRow W0.heap.size TL 3 v pre.length (zci (zdj pre))) ∧ pre.length ≤ N ∧ W0.heap.size ≤ X.heap.size ∧ Below w.heap.size w X)
  (fun c pre X => False)
  ?hI ?hIx ?h0
  (fun x a' X => ∃ Bx, W0.heap.size ≤ Bx ∧ X.heap[Bx]? = some (.cells (lrA x.1) TL (0, 0)) ∧ a' = Act.mk #[.slice none 0 0, .func (.func gf) #[] lb, .pointer (some ⟨w.heap.size, 0, none⟩), undef, .slice none 0 0, .pointer (some ⟨Bx, 0, none⟩), .func (.func gf) #[] lb, lrV x.1, undef, undef, undef, undef, undef] []) ?hAx ?assign ?body ?done ?stop
 case hI =>
  rintro pre X X' ⟨⟨v, h1, h2⟩, h3, h4, h5⟩ ht
  exact ⟨⟨v, Boxed.turn h1 ht (fun h => h), zgg h2 ht (fun _ _ h => h)⟩, h3, Nat.le_trans h4 ht.size, zcn h5 ht (Nat.le_refl _) (by omega) (fun k hk => hk.elim)⟩
 case hIx => exact fun c s X X' h _ => h
 case h0 => exact ⟨⟨_, bv, World.ownsRow_nil _ _ _ _⟩, Nat.zero_le _, Nat.le_refl _, hB0⟩
 case hAx =>
  rintro x a' s X Y ⟨Bx, h1, h2, h3⟩ ht
  exact ⟨Bx, h1, zc3 h2 ht (fun h => h), h3⟩
 case assign =>
  rintro l pre x X K ⟨⟨v, h1, h2⟩, h3, h4, h5⟩ hK2
  simp only [encL, lrV, lrA]
  gi_wp2
  refine hK2 _ _ ((KeepsOthers.alloc _ _).from _) ⟨⟨zgu (zd3 _ _ _) (by omega) _, KeepsWalks.alloc X _⟩, zdx ((KeepsOthers.alloc _ _).from _) (Nat.le_refl _)⟩ ⟨⟨v, h1.alloc _, h2.alloc _⟩, h3, by simp; omega, h5.alloc (by omega) _⟩ ⟨X.heap.size, h4, za9 _ _, rfl⟩
 case body =>
  rintro l pre x a' X hl hr ⟨⟨v, h1, h2⟩, h3, h4, h5⟩ ⟨Bx, hBx, hX, rfl⟩ hpre
  have cv := h1.cell
  have x0 : X.cell? ⟨Bx, 0, none⟩ = some (.int .i64 x.1.1) := zab hX 0
  have x1 : X.cell? ⟨Bx, 1, none⟩ = some (.int .i64 x.1.2.1) := zab hX 1
  have x2 : X.cell? ⟨Bx, 2, none⟩ = some (.int .i64 x.1.2.2) := zab hX 2
  have one : ∀ u ∈ [Value.int .i64 x.1.1, .int .i64 x.1.2.1, .int .i64 x.1.2.2], u.oneCell' = true := by
   intro u hu
   simp at hu
   rcases hu with rfl | rfl | rfl <;> rfl
  have H1 := Lib.hid one
  clear one hX
  have maxl : maxLen = 9223372036854775807 := rfl
  have HM := Lib.hid maxl
  clear maxl
  have il := zfi (zdj pre)
  have vl : (zdj pre).length = pre.length := by simp [zdj]
  gi_wp2_with (gi_at_builtin; refine wpListIn_append_own _ rfl _ _ 45 rfl W0.heap.size TL i0 (.agg #[.int .i64 0, .int .i64 0, .int .i64 0]) 3 24 Tryz.underlying45 hi hz0 hz1 hz2 rfl (by decide) _ _ _ rfl (h2.alloc _) ⟨X.heap.size, 0, none⟩ 1 1 [.int .i64 x.1.1, .int .i64 x.1.2.1, .int .i64 x.1.2.2] rfl rfl (zhe _ _ _ _) H1.out (by have := HM.out; omega) (by omega) (by simp; omega) ?_; intro v' w1 hown' hgrow _; obtain ⟨g', cap', rfl⟩ := ownsRow_succ hown'; obtain ⟨hv1, hv2, hr2, hk2, hb2⟩ := zie (n₀ := w.heap.size) (Ls := []) h1 (by omega) h2 h4 hown' hgrow (by omega) (fun b hb => nomatch hb); have hc1 := hv1.cell; have hf1 := hv1.frozen)
  have e2 : zci (zdj (pre ++ [x])) = zci (zdj pre) ++ [.int .i64 x.1.1, .int .i64 x.1.2.1, .int .i64 x.1.2.2] := by
   rw [← flatL_app]
   simp [zdj]
  have e3 : (pre ++ [x]).length = pre.length + 1 := by simp
  refine ⟨hk2, ⟨⟨hb2, ((KeepsWalks.alloc X _).trans (KeepsWalks.of_grownBy hgrow (fun j o hj ho => ?_))).trans (KeepsWalks.setCell _ _ _)⟩, zdx hk2 (by omega)⟩, ⟨_, hv2, ?_⟩, by omega, Nat.le_trans h4 hb2.1.size, h5.trans hb2.1⟩
  ·replace hj : v.ownBlock = some j := hj
   rcases h2.2 with ⟨hv, _⟩ | ⟨g, cap, cur, hv, hg, hh, _⟩
   ·rw [hv] at hj; simp [Value.ownBlock] at hj
   ·rw [hv] at hj
    obtain rfl : g = j := by simpa [Value.ownBlock] using hj
    rw [zaj hh _] at ho
    cases ho
    rfl
  ·rw [e2, e3]
   exact hr2
 case done =>
  rintro D ys X hD hS ⟨⟨v, h1, h2⟩, h3, h4, h5⟩ hK'
  have cv := h1.cell
  have HS := Lib.hid hS
  clear hS
  gi_wp2
  refine ⟨by simp, .inl ⟨_, _, rfl, run_takeDeferred hK', ?_⟩⟩
  refine ⟨_, results_tmp rfl _ _ _, v, ys, rfl, HS.out, h3, ?_, h5.trans (belowK_b (w := w) (Nat.le_refl _) X D _ _ (by omega) hK' rfl rfl)⟩
  exact zew (ownsRow_putObj h2 _ hK' rfl) (by omega)
 case stop => exact fun D c pre W hD hp h => h.elim
theorem zju (gf : Nat) (lb : Array Value) (heg : ∀ args w, (callFunc gf args).run Tryz.prog w = .ok (.enter gf args) w) (w : World)
  (S Sp : List LrX → Prop) (N : Nat) (hN : N ≤ 1000000000000) (hseq : SeqH 2 Tryz.prog gf lb encL (KeepU w.heap.size) S Sp N w) :
  Calls Tryz.prog 61 #[.func (.func gf) #[] lb] w fun e w' => ∃ v xs, e = .returned v ∧ S xs ∧ xs.length ≤ N ∧ w'.ownsRow w.heap.size TL 3 v xs.length (zci (zdj xs)) ∧ Below w.heap.size w w' := by
 have hc := zj2 gf lb heg w S Sp N hN hseq
 go_enter Tryz.func61, Tryz.ntmps61
 go_wp2_with (go_at_call 80; refine hc.mono ?_; rintro e w' ⟨v, xs, rfl, h1, h2, h3, h4⟩)
 go_ret
 exact ⟨v, xs, rfl, h1, h2, h3, h4⟩
end Go.Proofs.ZZ.LSeq
end
section
namespace Go.Proofs.ZZ.LOrd
open Go Go.RowKit Go.Shelf Go.Maps Go.Sort Go.Proofs.ZW.PrintWords Go.Proofs.ZW.PrintLast Go.Proofs.ZZ.Round Go.Proofs.ZZ.RangeG Go.Proofs.ZZ.Fl Go.Proofs.ZZ.RangeH Go.Proofs.ZZ.Ahd Go.Proofs.ZZ.LrK Go.Proofs.ZZ.GMap Go.Proofs.ZZ.LSeq
attribute [local go_sem] Oper.semAt_some
def cmpL (x y : Lr) : Int := if Lib.compareInt x.1 y.1 ≠ 0 then Lib.compareInt x.1 y.1 else if Lib.compareInt x.2.1 y.2.1 ≠ 0 then Lib.compareInt x.2.1 y.2.1 else Lib.compareInt x.2.2 y.2.2
theorem nan_calls (a : Int) (W : World) : Calls Tryz.prog 83 #[.int .i64 a] W fun e w' => e = .returned (.bool false) ∧ w' = W := by
 go_enter Tryz.func83, Tryz.ntmps83
 go_wp2;go_ret
 exact ⟨by simp, rfl⟩
theorem zfp (a b : Int) (W : World) : Calls Tryz.prog 65 #[.int .i64 a, .int .i64 b] W fun e w' => e = .returned (.int .i64 (Lib.compareInt a b)) ∧ w' = W := by
 have n1 := nan_calls a W
 have n2 := nan_calls b W
 by_cases h1 : a < b
 ·have e : Lib.compareInt a b = -1 := by unfold Lib.compareInt; rw [if_pos h1]
  rw [e]
  go_enter Tryz.func65, Tryz.ntmps65
  go_wp2_with (go_at_call 83; first | (refine n1.mono ?_; rintro e w1 ⟨rfl, rfl⟩) | (refine n2.mono ?_; rintro e w1 ⟨rfl, rfl⟩))
  go_ret
  exact ⟨rfl, rfl⟩
 ·by_cases h2 : b < a
  ·have e : Lib.compareInt a b = 1 := by unfold Lib.compareInt; rw [if_neg h1, if_pos h2]
   rw [e]
   go_enter Tryz.func65, Tryz.ntmps65
   go_wp2_with (go_at_call 83; first | (refine n1.mono ?_; rintro e w1 ⟨rfl, rfl⟩) | (refine n2.mono ?_; rintro e w1 ⟨rfl, rfl⟩))
   go_ret
   exact ⟨rfl, rfl⟩
  ·obtain rfl : a = b := by omega
   have e : Lib.compareInt a a = 0 := by unfold Lib.compareInt; rw [if_neg h1, if_neg h2]
   rw [e]
   go_enter Tryz.func65, Tryz.ntmps65
   go_wp2_with (go_at_call 83; first | (refine n1.mono ?_; rintro e w1 ⟨rfl, rfl⟩) | (refine n2.mono ?_; rintro e w1 ⟨rfl, rfl⟩))
   go_ret
   exact ⟨rfl, rfl⟩
theorem or_calls (g : Nat) (a b c : Int) (W : World) (hg : W.heap[g]? = some (.cells #[.int .i64 a, .int .i64 b, .int .i64 c] 3 (0, 0))) : Calls Tryz.prog 64 #[.slice (some ⟨g, 0, none⟩) 3 3] W fun e w' => e = .returned (.int .i64 (if a ≠ 0 then a else if b ≠ 0 then b else c)) ∧ w' = W := by
 have c0 : W.cell? ⟨g, 0, none⟩ = some (.int .i64 a) := zab hg 0
 have c1 : W.cell? ⟨g, 1, none⟩ = some (.int .i64 b) := zab hg 1
 have c2 : W.cell? ⟨g, 2, none⟩ = some (.int .i64 c) := zab hg 2
 clear hg
 generalize hr : (if a ≠ 0 then a else if b ≠ 0 then b else c) = r
 have HR := Lib.hid hr
 clear hr
 go_enter Tryz.func64, Tryz.ntmps64
 go_wp2
 go_loopw [5, 8] (fun v5 v8 wr => wr = W ∧ ∃ j : Nat, j ≤ 3 ∧ v8 = .int .i64 (j : Int) ∧ (0 < j → a = 0) ∧ (1 < j → b = 0) ∧ (2 < j → c = 0)) (fun _ v8 _ => 3 - (Go.RowKit.intOf v8).toNat)
 case atStart => exact ⟨rfl, 0, by omega, rfl, by omega, by omega, by omega⟩
 case round =>
  obtain ⟨rfl, j, hj, rfl, h0, h1, h2⟩ := hrel
  have hcs : j = 0 ∨ j = 1 ∨ j = 2 ∨ j = 3 := by omega
  rcases hcs with rfl | rfl | rfl | rfl
  ·by_cases hz : a = 0
   ·have hzb : ((a : Int) == 0) = true := by simpa using hz
    have hzb2 : (!((a : Int) == 0)) = false := by simp [hz]
    go_wp2
    go_roundw
    case rel => exact ⟨trivial, 1, by omega, by go_num, (fun _ => hz), by omega, by omega⟩
    case measure => simp [Go.RowKit.intOf]
   ·have hzb : ((a : Int) == 0) = false := by simpa using hz
    have hzb2 : (!((a : Int) == 0)) = true := by simp [hz]
    go_wp2
    refine bodyPost_ret (results_tmp rfl _ _ _) rfl ?_
    have hr := HR.out
    rw [if_pos hz] at hr; subst hr
    exact ⟨rfl, rfl⟩
  ·by_cases hz : b = 0
   ·have hzb : ((b : Int) == 0) = true := by simpa using hz
    have hzb2 : (!((b : Int) == 0)) = false := by simp [hz]
    go_wp2
    go_roundw
    case rel => exact ⟨trivial, 2, by omega, by go_num, (fun _ => (h0 (by omega))), (fun _ => hz), by omega⟩
    case measure => simp [Go.RowKit.intOf]
   ·have hzb : ((b : Int) == 0) = false := by simpa using hz
    have hzb2 : (!((b : Int) == 0)) = true := by simp [hz]
    go_wp2
    refine bodyPost_ret (results_tmp rfl _ _ _) rfl ?_
    have hr := HR.out
    rw [if_neg (fun h => h (h0 (by omega))), if_pos hz] at hr; subst hr
    exact ⟨rfl, rfl⟩
  ·by_cases hz : c = 0
   ·have hzb : ((c : Int) == 0) = true := by simpa using hz
    have hzb2 : (!((c : Int) == 0)) = false := by simp [hz]
    go_wp2
    go_roundw
    case rel => exact ⟨trivial, 3, by omega, by go_num, (fun _ => (h0 (by omega))), (fun _ => (h1 (by omega))), (fun _ => hz)⟩
    case measure => simp [Go.RowKit.intOf]
   ·have hzb : ((c : Int) == 0) = false := by simpa using hz
    have hzb2 : (!((c : Int) == 0)) = true := by simp [hz]
    go_wp2
    refine bodyPost_ret (results_tmp rfl _ _ _) rfl ?_
    have hr := HR.out
    rw [if_neg (fun h => h (h0 (by omega))), if_neg (fun h => h (h1 (by omega)))] at hr; subst hr
    exact ⟨rfl, rfl⟩
  ·go_wp2
   refine bodyPost_ret (results_tmp rfl _ _ _) rfl ?_
   have hr := HR.out
   rw [if_neg (fun h => h (h0 (by omega))), if_neg (fun h => h (h1 (by omega))), h2 (by omega)] at hr
   subst hr
   exact ⟨rfl, rfl⟩
theorem order_calls (x y : Lr) (w : World) : Calls Tryz.prog 52 #[lrV x, lrV y] w fun e w' => e = .returned (.int .i64 (cmpL x y)) ∧ ∃ q os, w' = grow (w.drewN q) os := by
 simp only [lrV, lrA]
 go_enter Tryz.func52, Tryz.ntmps52
 go_wp2
 obtain ⟨W2, hW2⟩ : ∃ W2, (w.alloc (.cells #[.int .i64 x.1, .int .i64 x.2.1, .int .i64 x.2.2] 50)).alloc (.cells #[.int .i64 y.1, .int .i64 y.2.1, .int .i64 y.2.2] 50) = W2 := ⟨_, rfl⟩
 have b0 : W2.heap[w.heap.size]? = some (.cells #[.int .i64 x.1, .int .i64 x.2.1, .int .i64 x.2.2] 50 (0, 0)) := by rw [← hW2]; exact zaj (za9 w _) _
 have b1 : W2.heap[w.heap.size + 1]? = some (.cells #[.int .i64 y.1, .int .i64 y.2.1, .int .i64 y.2.2] 50 (0, 0)) := by rw [← hW2]; have := za9 (w.alloc (.cells #[.int .i64 x.1, .int .i64 x.2.1, .int .i64 x.2.2] 50)) (.cells #[.int .i64 y.1, .int .i64 y.2.1, .int .i64 y.2.2] 50); simpa using this
 rename_i K6 hK6
 rw [hW2]
 have hHeld : (fun X => X.cell? ⟨w.heap.size, 0, none⟩ = some (.int .i64 x.1) ∧ X.cell? ⟨w.heap.size, 1, none⟩ = some (.int .i64 x.2.1) ∧ X.cell? ⟨w.heap.size, 2, none⟩ = some (.int .i64 x.2.2) ∧ X.cell? ⟨w.heap.size + 1, 0, none⟩ = some (.int .i64 y.1) ∧ X.cell? ⟨w.heap.size + 1, 1, none⟩ = some (.int .i64 y.2.1) ∧ X.cell? ⟨w.heap.size + 1, 2, none⟩ = some (.int .i64 y.2.2)) W2.drew := ⟨zab (zah b0) 0, zab (zah b0) 1, zab (zah b0) 2, zab (zah b1) 0, zab (zah b1) 1, zab (zah b1) 2⟩
 have hBa : Below W2.drew.heap.size W2.drew (W2.drew.alloc (.cells #[.int .i64 (Lib.compareInt x.1 y.1), .int .i64 (Lib.compareInt x.2.1 y.2.1), .int .i64 (Lib.compareInt x.2.2 y.2.2)] 3)) := (Below.refl _ _).alloc (Nat.le_refl _) _
 refine Ahd.zcy (zbl (S := (fun X => X.cell? ⟨w.heap.size, 0, none⟩ = some (.int .i64 x.1) ∧ X.cell? ⟨w.heap.size, 1, none⟩ = some (.int .i64 x.2.1) ∧ X.cell? ⟨w.heap.size, 2, none⟩ = some (.int .i64 x.2.2) ∧ X.cell? ⟨w.heap.size + 1, 0, none⟩ = some (.int .i64 y.1) ∧ X.cell? ⟨w.heap.size + 1, 1, none⟩ = some (.int .i64 y.2.1) ∧ X.cell? ⟨w.heap.size + 1, 2, none⟩ = some (.int .i64 y.2.2))) (ds := []) (Ymk 18 0) (by kernel_rfl) rfl rfl hHeld (fun h0_ => ?_))
 clear h0_
 refine Ypk 0 5 18 1 ?_
 refine Ytk 1 6 18 3 hHeld ?_
 refine Ypk 2 7 18 7 ?_
 refine Ytk 3 8 18 15 hHeld ?_
 refine Ypk 5 10 18 47 ?_
 refine Ytk 6 11 18 111 hHeld ?_
 refine Ypk 7 12 18 239 ?_
 refine Ytk 8 13 18 495 hHeld ?_
 refine Ypk 10 15 18 1519 ?_
 refine Ytk 11 16 18 3567 hHeld ?_
 refine Ypk 12 17 18 7663 ?_
 refine Ytk 13 18 18 15855 hHeld ?_
 refine Yok 4 9 18 15871 (fun K hK => ?_)
 refine Ygh Tryz.func65 #[.int .i64 x.1, .int .i64 y.1] ?_
 refine (zfp _ _ _).mono ?_
 rintro e W' ⟨rfl, rfl⟩
 refine ⟨_, rfl, ?_⟩
 refine hK.out _ _ hHeld (fun h0_ => ?_)
 clear hK K h0_
 refine Yok 9 14 18 16383 (fun K hK => ?_)
 refine Ygh Tryz.func65 #[.int .i64 x.2.1, .int .i64 y.2.1] ?_
 refine (zfp _ _ _).mono ?_
 rintro e W' ⟨rfl, rfl⟩
 refine ⟨_, rfl, ?_⟩
 refine hK.out _ _ hHeld (fun h0_ => ?_)
 clear hK K h0_
 refine Yok 14 19 18 32767 (fun K hK => ?_)
 refine Ygh Tryz.func65 #[.int .i64 x.2.2, .int .i64 y.2.2] ?_
 refine (zfp _ _ _).mono ?_
 rintro e W' ⟨rfl, rfl⟩
 refine ⟨_, rfl, ?_⟩
 refine hK.out _ _ hHeld (fun h0_ => ?_)
 clear hK K h0_
 refine Yok 15 20 18 65535 (fun K hK => ?_)
 refine zcm (w1 := (W2.drew.alloc (.cells #[.int .i64 (Lib.compareInt x.1 y.1), .int .i64 (Lib.compareInt x.2.1 y.2.1), .int .i64 (Lib.compareInt x.2.2 y.2.2)] 3))) (v := .slice (some ⟨W2.drew.heap.size, 0, none⟩) 3 3) (by rfl) rfl ?_ ?_
 ·go_simp
 have hhA : (fun X => X.cell? ⟨w.heap.size, 0, none⟩ = some (.int .i64 x.1) ∧ X.cell? ⟨w.heap.size, 1, none⟩ = some (.int .i64 x.2.1) ∧ X.cell? ⟨w.heap.size, 2, none⟩ = some (.int .i64 x.2.2) ∧ X.cell? ⟨w.heap.size + 1, 0, none⟩ = some (.int .i64 y.1) ∧ X.cell? ⟨w.heap.size + 1, 1, none⟩ = some (.int .i64 y.2.1) ∧ X.cell? ⟨w.heap.size + 1, 2, none⟩ = some (.int .i64 y.2.2)) (W2.drew.alloc (.cells #[.int .i64 (Lib.compareInt x.1 y.1), .int .i64 (Lib.compareInt x.2.1 y.2.1), .int .i64 (Lib.compareInt x.2.2 y.2.2)] 3)) := ⟨zad hBa hHeld.1, zad hBa hHeld.2.1, zad hBa hHeld.2.2.1, zad hBa hHeld.2.2.2.1, zad hBa hHeld.2.2.2.2.1, zad hBa hHeld.2.2.2.2.2⟩
 refine hK.out _ _ hhA (fun h0_ => ?_)
 clear hK K h0_
 refine Ynm 20 ?_
 refine Yok 16 21 18 131071 (fun K hK => ?_)
 refine Ygh Tryz.func64 #[.slice (some ⟨W2.drew.heap.size, 0, none⟩) 3 3] ?_
 refine (or_calls _ _ _ _ _ (za9 W2.drew (.cells #[.int .i64 (Lib.compareInt x.1 y.1), .int .i64 (Lib.compareInt x.2.1 y.2.1), .int .i64 (Lib.compareInt x.2.2 y.2.2)] 3))).mono ?_
 rintro e W' ⟨he, rfl⟩
 obtain rfl : e = .returned (.int .i64 (cmpL x y)) := he
 refine ⟨_, rfl, ?_⟩
 refine hK.out _ _ hhA (fun h0_ => ?_)
 clear hK K h0_
 refine Ypk 17 4 18 262143 ?_
 refine zbq (by kernel_rfl) ?_
 refine hK6 _ _ ?_
 go_wp2
 have e : ∃ os, (W2.drew.alloc (.cells #[.int .i64 (Lib.compareInt x.1 y.1), .int .i64 (Lib.compareInt x.2.1 y.2.1), .int .i64 (Lib.compareInt x.2.2 y.2.2)] 3)) = grow (w.drewN 1) os := by
  rw [← hW2, alloc_eq_grow, alloc_eq_grow, alloc_eq_grow, drew_grow, drew_grow, grow_grow, grow_grow]
  exact ⟨_, rfl⟩
 refine bodyPost_ret (results_tmp rfl _ _ _) rfl ?_
 exact ⟨rfl, 1, e⟩
end Go.Proofs.ZZ.LOrd
end
section
namespace Go.Proofs.ZZ.LLex
open Go Go.RowKit Go.Shelf Go.Maps Go.Proofs.ZW.PrintWords Go.Proofs.ZZ.Fl Go.Proofs.ZZ.LrK Go.Proofs.ZZ.LSeq Go.Proofs.ZZ.LOrd
def bef (x y : Lr) : Prop := x.1 < y.1 ∨ x.1 = y.1 ∧ (x.2.1 < y.2.1 ∨ x.2.1 = y.2.1 ∧ x.2.2 < y.2.2)
instance (x y : Lr) : Decidable (bef x y) := by unfold bef; infer_instance
theorem cmpI_lt (a b : Int) : Lib.compareInt a b < 0 ↔ a < b := by unfold Lib.compareInt; split <;> (try split) <;> omega
theorem cmpI_eq (a b : Int) : Lib.compareInt a b = 0 ↔ a = b := by unfold Lib.compareInt; split <;> (try split) <;> omega
theorem cmpL_lt (x y : Lr) : cmpL x y < 0 ↔ bef x y := by
 have a1 := cmpI_lt x.1 y.1
 have a2 := cmpI_lt x.2.1 y.2.1
 have a3 := cmpI_lt x.2.2 y.2.2
 have b1 := cmpI_eq x.1 y.1
 have b2 := cmpI_eq x.2.1 y.2.1
 unfold cmpL bef
 split
 ·rename_i h; rw [a1]; have h : ¬ x.1 = y.1 := fun e => h (b1.2 e); omega
 ·rename_i h
  have h : x.1 = y.1 := b1.1 (Decidable.not_not.1 h)
  split
  ·rename_i g; rw [a2]; have g : ¬ x.2.1 = y.2.1 := fun e => g (b2.2 e); omega
  ·rename_i g
   have g : x.2.1 = y.2.1 := b2.1 (Decidable.not_not.1 g)
   rw [a3]
   omega
theorem zdh (x : Lr) : ¬ bef x x := by unfold bef; omega
theorem zfg {x y z : Lr} (h : bef x y) (g : bef y z) : bef x z := by unfold bef at *; omega
theorem bef_ntrans {x y z : Lr} (h : ¬ bef x y) (g : ¬ bef y z) : ¬ bef x z := by unfold bef at *; omega
theorem bef_tri {x y : Lr} (h : ¬ bef x y) (g : ¬ bef y x) : x = y := by
 unfold bef at *
 exact Prod.ext (by omega) (Prod.ext (by omega) (by omega))
def zdb (l : List Lr) : Prop := l.Pairwise bef
theorem zhm : ∀ {l m : List Lr}, zdb l → zdb m → (∀ x, x ∈ l ↔ x ∈ m) → l = m
 | [], [], _, _, _ => rfl
 | [], b :: m, _, _, h => by have := (h b).2 (by simp); cases this
 | a :: l, [], _, _, h => by have := (h a).1 (by simp); cases this
 | a :: l, b :: m, hl, hm, h => by
  obtain ⟨l1, l2⟩ := List.pairwise_cons.1 hl
  obtain ⟨m1, m2⟩ := List.pairwise_cons.1 hm
  have e : a = b := by
   have h1 := (h a).1 (by simp)
   have h2 := (h b).2 (by simp)
   rcases List.mem_cons.1 h1 with h1 | h1
   ·exact h1
   ·rcases List.mem_cons.1 h2 with h2 | h2
    ·exact h2.symm
    ·exact absurd (zfg (m1 a h1) (l1 b h2)) (zdh _)
  subst e
  congr 1
  refine zhm l2 m2 fun x => ?_
  constructor
  ·intro hx
   rcases List.mem_cons.1 ((h x).1 (by simp [hx])) with rfl | h'
   ·exact absurd (l1 _ hx) (zdh _)
   ·exact h'
  ·intro hx
   rcases List.mem_cons.1 ((h x).2 (by simp [hx])) with rfl | h'
   ·exact absurd (m1 _ hx) (zdh _)
   ·exact h'
def kLr : Kd Lr := Kd.pair (Kd.int .i64) (Kd.pair (Kd.int .i64) (Kd.int .i64))
theorem kLr_M (w : World) (base : Nat) (ok : Nat → Prop) (x : Lr) (cs : List Value) : kLr.M w base ok x cs ↔ cs = (lrA x).toList := by
 constructor
 ·rintro ⟨_, _, rfl, rfl, ⟨_, _, rfl, rfl, rfl⟩⟩
  rfl
 ·rintro rfl
  exact ⟨[.int .i64 x.1], [.int .i64 x.2.1, .int .i64 x.2.2], rfl, rfl, ⟨[.int .i64 x.2.1], [.int .i64 x.2.2], rfl, rfl, rfl⟩⟩
theorem flat_at (l : List Lr) : ∀ (j : Nat) (p : Lr), l[j]? = some p → ((zci l).drop (j * 3)).take 3 = (lrA p).toList := by
 induction l with
 | nil => intro j p h; simp at h
 | cons a t ih =>
  intro j p h
  cases j with
  | zero =>
   simp only [List.getElem?_cons_zero, Option.some.injEq] at h
   subst h
   simp [zci, lrA]
  | succ j =>
   simp only [List.getElem?_cons_succ] at h
   have := ih j p h
   rw [show (j + 1) * 3 = 3 + j * 3 by omega, ← List.drop_drop]
   simpa [zci, lrA] using this
theorem own_R3 {w : World} {base : Nat} {ok : Nat → Prop} {v : Value} {l : List Lr} (h : w.ownsRow base TL 3 v l.length (zci l)) (hok : ∀ k, v.ownBlock = some k → ok k) : Kd.R kLr TL w base ok v l :=
 ⟨hok, zci l, h, zfi l, fun j p hj => (kLr_M _ _ _ _ _).2 (flat_at l j p hj)⟩
theorem R3_own {w : World} {base : Nat} {ok : Nat → Prop} {v : Value} {l : List Lr} (h : Kd.R kLr TL w base ok v l) : w.ownsRow base TL 3 v l.length (zci l) := by
 obtain ⟨_, inner, ho, hr⟩ := h
 have : inner = zci l := by
  refine List.ext_getElem? fun t => ?_
  have k1 := hr.1
  have k2 := zfi l
  by_cases ht : t < l.length * 3
  ·have hq : t / 3 < l.length := by omega
   have e1 := (kLr_M _ _ _ _ _).1 (hr.2 (t / 3) l[t / 3] (List.getElem?_eq_getElem hq))
   have e2 := flat_at l (t / 3) l[t / 3] (List.getElem?_eq_getElem hq)
   have e3 := congrArg (fun m : List Value => m[t % 3]?) (e1.trans e2.symm)
   simp only [show kLr.sz = 3 from rfl] at e3
   rw [List.getElem?_take_of_lt (by omega), List.getElem?_take_of_lt (by omega), List.getElem?_drop, List.getElem?_drop, show t / 3 * 3 + t % 3 = t by omega] at e3
   exact e3
  ·rw [List.getElem?_eq_none (by simp only [show kLr.sz = 3 from rfl] at k1; omega), List.getElem?_eq_none (by omega)]
 subst this
 exact ho
end Go.Proofs.ZZ.LLex
end
section
namespace Go.Proofs.ZZ.LFlat
open Go Go.RowKit Go.Shelf Go.Maps Go.Proofs.ZW.PrintWords Go.Proofs.ZW.PrintLast Go.Proofs.ZZ.Round Go.Proofs.ZZ.RangeG Go.Proofs.ZZ.Fl Go.Proofs.ZZ.LrK Go.Proofs.ZZ.LSeq Go.Proofs.ZZ.LLex
structure FG where
 A0 : Option Addr
 A1 : Option Addr
 A2 : Option Addr
 c0 : Nat
 c1 : Nat
 c2 : Nat
 ts : List ByteArray
 ns : List ByteArray
 ps : List Fl.P
def FG.row (F : FG) : Array Value := #[.slice F.A0 F.ts.length F.c0, .slice F.A1 F.ns.length F.c1, .slice F.A2 F.ps.length F.c2]
def FG.val (F : FG) : Value := .agg F.row
structure FG.K (F : FG) (w : World) : Prop where
 h0 : Kd.C Kd.string w F.A0 F.ts.length F.ts
 l0 : F.ts.length ≤ F.c0
 h1 : Kd.C Kd.string w F.A1 F.ns.length F.ns
 l1 : F.ns.length ≤ F.c1
 h2 : Kd.C kP w F.A2 F.ps.length F.ps
 l2 : F.ps.length ≤ F.c2
theorem FG.K.below {F : FG} {w w' : World} (h : F.K w) (hb : Below w.heap.size w w') : F.K w' := ⟨Kd.zak h.h0 hb, h.l0, Kd.zak h.h1 hb, h.l1, Kd.zak h.h2 hb, h.l2⟩
theorem C_of {α β : Type} {d : Kd α} {e : Kd β} {f : α → β} (hz : e.sz = d.sz) (hK : ∀ w x cs, d.K w x cs → e.K w (f x) cs) {w : World} {A : Option Addr} {n : Nat} {xs : List α} (h : Kd.C d w A n xs) : Kd.C e w A n (xs.map f) := by
 obtain ⟨h1, h2, h3⟩ := h
 refine ⟨by simpa using h1, h2, fun h0 => ?_⟩
 obtain ⟨ad, e', hc⟩ := h3 h0
 refine ⟨ad, e', fun j p hj => ?_⟩
 rw [List.getElem?_map] at hj
 cases hx : xs[j]? with
 | none => rw [hx] at hj; cases hj
 | some x =>
  rw [hx] at hj
  obtain rfl : f x = p := by simpa using hj
  obtain ⟨c, hl, hk, hcell⟩ := hc j x hx
  exact ⟨c, by rw [hl, hz], hK w x c hk, fun i v hv => by rw [hz]; exact hcell i v hv⟩
def nI (x : I) : PNext.S44 := ⟨x.1, x.2.1, x.2.2⟩
def nP (p : P) : PNext.S42 := ⟨p.1, p.2.1.map nI, p.2.2⟩
def oI (x : I) : POf.S44 := ⟨x.1, x.2.1, x.2.2⟩
def oP (p : P) : POf.S42 := ⟨p.1, p.2.1.map oI, p.2.2⟩
theorem nI_K (w : World) (x : I) (cs : List Value) (h : kI.K w x cs) : PNext.k44.K w (nI x) cs := h
theorem oI_K (w : World) (x : I) (cs : List Value) (h : kI.K w x cs) : POf.k44.K w (oI x) cs := h
theorem nP_K (w : World) (x : P) (cs : List Value) (h : kP.K w x cs) : PNext.k42.K w (nP x) cs := by
 obtain ⟨A, c, rfl, hl, hC⟩ := kP_open h
 have := PNext.k42_mk w (nP x) (A1 := A) (c1 := c) (by show (x.2.1.map nI).length ≤ c; rw [List.length_map]; exact hl) (by show Kd.C _ _ _ (x.2.1.map nI).length (x.2.1.map nI); rw [List.length_map]; exact C_of (e := PNext.k44) (f := nI) rfl nI_K hC)
 rwa [show (nP x).f1.length = x.2.1.length from List.length_map _] at this
theorem oP_K (w : World) (x : P) (cs : List Value) (h : kP.K w x cs) : POf.k42.K w (oP x) cs := by
 obtain ⟨A, c, rfl, hl, hC⟩ := kP_open h
 have := POf.k42_mk w (oP x) (A1 := A) (c1 := c) (by show (x.2.1.map oI).length ≤ c; rw [List.length_map]; exact hl) (by show Kd.C _ _ _ (x.2.1.map oI).length (x.2.1.map oI); rw [List.length_map]; exact C_of (e := POf.k44) (f := oI) rfl oI_K hC)
 rwa [show (oP x).f1.length = x.2.1.length from List.length_map _] at this
def dP : P := (0, [], 0)
def za1 (n0 : Nat) (ps : List P) (prod : Int) : List I := if prod < 0 then [((n0 : Int), ⟨#[]⟩, ⟨#[]⟩)] else (ps.getD prod.toNat dP).2.1
def fitV (n0 : Nat) (ps : List P) (x : Lr) : Bool := decide (-1 ≤ x.1) && decide (x.1 < ps.length) && decide (0 ≤ x.2.1) && decide (x.2.1 ≤ (za1 n0 ps x.1).length) && decide (0 ≤ x.2.2) && decide (x.2.2 ≤ n0)
def zbx (n0 : Nat) (ps : List P) (x : Lr) : Option Int := if fitV n0 ps x = true then ((za1 n0 ps x.1)[x.2.1.toNat]?).map (·.1) else none
def ofF (s : Int) : Nat → List P → List Int
 | _, [] => []
 | i, p :: t => if p.1 = s then (i : Int) :: ofF s (i + 1) t else ofF s (i + 1) t
def ofV (ps : List P) (s : Int) : List Int := ofF s 0 ps
theorem zc4 {n0 : Nat} {ps : List P} {x : Lr} : fitV n0 ps x = true ↔ -1 ≤ x.1 ∧ x.1 < ps.length ∧ 0 ≤ x.2.1 ∧ x.2.1 ≤ (za1 n0 ps x.1).length ∧ 0 ≤ x.2.2 ∧ x.2.2 ≤ n0 := by
 simp only [fitV, Bool.and_eq_true, decide_eq_true_eq]
 constructor
 ·rintro ⟨⟨⟨⟨⟨a, b⟩, c⟩, d⟩, e⟩, f⟩; exact ⟨a, b, c, d, e, f⟩
 ·rintro ⟨a, b, c, d, e, f⟩; exact ⟨⟨⟨⟨⟨a, b⟩, c⟩, d⟩, e⟩, f⟩
theorem rd_nP (ps : List P) (i : Int) : PNext.zaf (ps.map nP) i = nP (ps.getD i.toNat dP) := by
 show (ps.map nP).getD i.toNat _ = _
 rw [List.getD_eq_getElem?_getD, List.getElem?_map, List.getD_eq_getElem?_getD]
 cases ps[i.toNat]? <;> rfl
theorem right_eq (ts ns : List ByteArray) (ps : List P) (prod : Int) (h : prod < ps.length) : PNext.zcp.f ts ns (ps.map nP) prod = some ((za1 ts.length ps prod).map nI) := by
 unfold PNext.zcp.f za1
 by_cases h0 : prod < 0
 ·rw [if_pos h0, if_pos h0]; rfl
 ·rw [if_neg h0, if_neg h0, if_pos (by omega), if_pos (by rw [List.length_map]; exact h), rd_nP]
  rfl
theorem fit_eq (ts ns : List ByteArray) (ps : List P) (x : Lr) : PNext.zbp.f ts ns (ps.map nP) x.1 x.2.1 x.2.2 = some (fitV ts.length ps x) := by
 unfold PNext.zbp.f
 by_cases h0 : x.1 ≥ -1
 ·rw [if_pos h0]
  by_cases h1 : x.1 < (ps.length : Int)
  ·rw [if_pos (by rw [List.length_map]; exact h1)]
   by_cases h2 : x.2.1 ≥ 0
   ·rw [if_pos h2, right_eq _ _ _ _ h1, Option.bind_some, List.length_map]
    by_cases h3 : x.2.1 ≤ ((za1 ts.length ps x.1).length : Int)
    ·rw [if_pos h3]
     by_cases h4 : x.2.2 ≥ 0
     ·rw [if_pos h4]
      congr 1
      simp [fitV, h0, h1, h2, h3, h4, show (-1 : Int) ≤ x.1 from h0, show (0 : Int) ≤ x.2.1 from h2, show (0 : Int) ≤ x.2.2 from h4]
     ·rw [if_neg h4]; simp [fitV, show ¬ (0 : Int) ≤ x.2.2 from h4]
    ·rw [if_neg h3]; simp [fitV, h3]
   ·rw [if_neg h2]; simp [fitV, show ¬ (0 : Int) ≤ x.2.1 from h2]
  ·rw [if_neg (by rw [List.length_map]; exact h1)]; simp [fitV, h1]
 ·rw [if_neg h0]; simp [fitV, show ¬ (-1 : Int) ≤ x.1 from h0]
theorem next_eq (ts ns : List ByteArray) (ps : List P) (x : Lr) : PNext.zb6.f ts ns (ps.map nP) x.1 x.2.1 x.2.2 = some ((zbx ts.length ps x).getD 0, (zbx ts.length ps x).isSome) := by
 unfold PNext.zb6.f zbx
 rw [fit_eq, Option.bind_some]
 by_cases h : fitV ts.length ps x = true
 ·obtain ⟨h0, h1, h2, h3, h4, h5⟩ := zc4.1 h
  rw [if_pos h, if_pos h, right_eq _ _ _ _ h1, Option.bind_some, if_pos h2, if_pos (by rw [List.length_map]; exact h3), Option.bind_some, List.length_drop, List.length_map]
  by_cases hl : x.2.1.toNat < (za1 ts.length ps x.1).length
  ·rw [if_neg (by omega), if_pos (by omega), List.getElem?_eq_getElem hl]
   show some ((((za1 ts.length ps x.1).map nI).drop x.2.1.toNat).getD 0 _ |>.f0, true) = _
   rw [List.getD_eq_getElem?_getD, List.getElem?_drop, Nat.add_zero, List.getElem?_map, List.getElem?_eq_getElem hl]
   rfl
  ·rw [if_pos (by omega), List.getElem?_eq_none (by omega)]
   rfl
 ·rw [if_neg h, if_neg h]; rfl
theorem rd_oP (ps : List P) (i : Nat) (h : i < ps.length) : POf.zaf (ps.map oP) (i : Int) = oP ps[i] := by
 show (ps.map oP).getD ((i : Int)).toNat _ = _
 rw [Int.toNat_natCast, List.getD_eq_getElem?_getD, List.getElem?_map, List.getElem?_eq_getElem h]
 rfl
theorem of_loop (ps : List P) (s : Int) (hp : ps.length ≤ 1000000000000) : ∀ (d k : Nat) (i : Nat) (acc : List Int), d = ps.length - i → i ≤ ps.length → d < k → acc.length ≤ i → POf.zc0.l0 k s acc (ps.map oP) (ps.length : Int) (i : Int) = some (acc ++ ofF s i (ps.drop i)) := by
 intro d
 induction d with
 | zero =>
  intro k i acc hd hi hk ha
  obtain ⟨m, rfl⟩ : ∃ m, k = m + 1 := ⟨k - 1, by omega⟩
  have : i = ps.length := by omega
  subst this
  simp only [POf.zc0.l0]
  rw [if_neg (by omega), List.drop_length, ofF, List.append_nil]
 | succ d ih =>
  intro k i acc hd hi hk ha
  obtain ⟨m, rfl⟩ : ∃ m, k = m + 1 := ⟨k - 1, by omega⟩
  have hlt : i < ps.length := by omega
  have hw : wrap64 ((i : Int) + 1) = ((i + 1 : Nat) : Int) := by unfold wrap64; omega
  have hdr : ps.drop i = ps[i] :: ps.drop (i + 1) := List.drop_eq_getElem_cons hlt
  simp only [POf.zc0.l0]
  rw [if_pos (by omega), if_pos (by omega), if_pos (by rw [List.length_map]; omega), rd_oP _ _ hlt, hw, hdr, ofF]
  by_cases he : ps[i].1 = s
  ·rw [if_pos (show (oP ps[i]).f0 = s from he), if_pos (by omega), if_pos he, ih m (i + 1) _ (by omega) (by omega) (by omega) (by simp; omega), List.append_assoc]
   rfl
  ·rw [if_neg (show ¬ (oP ps[i]).f0 = s from he), if_neg he, ih m (i + 1) _ (by omega) (by omega) (by omega) (by omega)]
theorem of_eq (ts ns : List ByteArray) (ps : List P) (s : Int) (hp : ps.length ≤ 1000000000000) : POf.zc0.f (ps.length + 1) ts ns (ps.map oP) s = some (ofV ps s) := by
 unfold POf.zc0.f ofV
 rw [List.length_map]
 have := of_loop ps s hp ps.length (ps.length + 1) 0 [] (by omega) (by omega) (by omega) (by simp)
 simpa using this
theorem right_calls (F : FG) (prod : Int) (u W : World) (hK : F.K u) (hu : Below u.heap.size u W) (hp : prod < F.ps.length) :
  Calls Tryz.prog 35 #[F.val, .int .i64 prod] W fun e W' => ∃ A c, e = .returned (.slice A (za1 F.ts.length F.ps prod).length c) ∧ (za1 F.ts.length F.ps prod).length ≤ c ∧ ((za1 F.ts.length F.ps prod).length ≠ 0 → ∃ ad, A = some ad) ∧ (0 ≤ prod → Kd.C kI u A (za1 F.ts.length F.ps prod).length (za1 F.ts.length F.ps prod)) ∧ Below W.heap.size W W' := by
 simp only [FG.val, FG.row]
 have hl0 : F.ts.length ≤ 9223372036854775807 := hK.h0.2.1
 by_cases h0 : prod < 0
 ·unfold za1
  rw [if_pos h0]
  go_enter Tryz.func35, Tryz.ntmps35
  go_wp2;go_ret
  exact ⟨_, _, rfl, Nat.le_refl _, (fun _ => ⟨_, rfl⟩), (fun h => by omega), ((Below.refl _ _).alloc (Nat.le_refl _) _).alloc (by simp) _⟩
 ·obtain ⟨ad, x, A1, c1, hA, hx, hl1, hC1, f0, f1, f2⟩ := atP hK.h2 prod.toNat (by omega)
  have e : za1 F.ts.length F.ps prod = x.2.1 := by
   unfold za1
   rw [if_neg h0, List.getD_eq_getElem?_getD, hx]
   rfl
  rw [e]
  have hlp : F.ps.length ≤ 9223372036854775807 := hK.h2.2.1
  have g1 := zad (hu.alloc hu.size (.cells #[.slice F.A0 F.ts.length F.c0, .slice F.A1 F.ns.length F.c1, .slice (some ad) F.ps.length F.c2] 25)) f1
  rw [hA]
  have hA1 : x.2.1.length ≠ 0 → ∃ ad, A1 = some ad := fun h => by obtain ⟨ad, _, e, _⟩ := atI hC1 0 (by omega); exact ⟨ad, e⟩
  have HA := Lib.hid hA1
  have HC := Lib.hid hC1
  clear hC1 hA1 f0 f1 f2 hx e
  go_enter Tryz.func35, Tryz.ntmps35
  go_wp2;go_ret
  exact ⟨_, _, rfl, hl1, by simpa using HA.out, HC.out, (Below.refl _ _).alloc (Nat.le_refl _) _⟩
theorem fit_calls (F : FG) (x : Lr) (W : World) (hK : F.K W) :
  Calls Tryz.prog 17 #[F.val, lrV x] W fun e W' => e = .returned (.bool (fitV F.ts.length F.ps x)) ∧ Below W.heap.size W W' := by
 have hl : (F.ps.map nP).length = F.ps.length := List.length_map _
 have h := PNext.zbp.calls F.A0 F.c0 F.ts F.A1 F.c1 F.ns F.A2 F.c2 (F.ps.map nP) x.1 x.2.1 x.2.2 _ W hK.h0 hK.l0 hK.h1 hK.l1 (by rw [hl]; exact C_of (e := PNext.k42) (f := nP) rfl nP_K hK.h2) (by rw [hl]; exact hK.l2) (fit_eq F.ts F.ns F.ps x)
 rw [hl] at h
 exact h
theorem zfx (F : FG) (x : Lr) (W : World) (hK : F.K W) :
  Calls Tryz.prog 15 #[F.val, lrV x] W fun e W' => e = .returned (.tuple #[.int .i64 ((zbx F.ts.length F.ps x).getD 0), .bool (zbx F.ts.length F.ps x).isSome]) ∧ Below W.heap.size W W' := by
 have hl : (F.ps.map nP).length = F.ps.length := List.length_map _
 have h := PNext.zb6.calls F.A0 F.c0 F.ts F.A1 F.c1 F.ns F.A2 F.c2 (F.ps.map nP) x.1 x.2.1 x.2.2 _ _ W hK.h0 hK.l0 hK.h1 hK.l1 (by rw [hl]; exact C_of (e := PNext.k42) (f := nP) rfl nP_K hK.h2) (by rw [hl]; exact hK.l2) (next_eq F.ts F.ns F.ps x)
 rw [hl] at h
 exact h
theorem of_calls (F : FG) (s : Int) (W : World) (hK : F.K W) (hp : F.ps.length ≤ 1000000000000) :
  Calls Tryz.prog 46 #[F.val, .int .i64 s] W fun e W' => ∃ v, e = .returned v ∧ Kd.R (Kd.int .i64) 3 W' W.heap.size (fun _ => True) v (ofV F.ps s) ∧ Below W.heap.size W W' := by
 have hl : (F.ps.map oP).length = F.ps.length := List.length_map _
 have h := POf.zc0.calls (F.ps.length + 1) F.A0 F.c0 F.ts F.A1 F.c1 F.ns F.A2 F.c2 (F.ps.map oP) s _ W hK.h0 hK.l0 hK.h1 hK.l1 (by rw [hl]; exact C_of (e := POf.k42) (f := oP) rfl oP_K hK.h2) (by rw [hl]; exact hK.l2) (of_eq F.ts F.ns F.ps s hp)
 rw [hl] at h
 exact h
end Go.Proofs.ZZ.LFlat
end
section
namespace Go.Proofs.ZZ.LNext
open Go Go.RowKit Go.Shelf Go.Proofs.ZW.PrintWords Go.Proofs.ZW.PrintLast Go.Proofs.ZZ.Fl Go.Proofs.ZZ.Deri Go.Proofs.ZZ.LrK Go.Proofs.ZZ.LFlat
theorem rright_neg (F : FG) (prod : Int) (W : World) (hK : F.K W) (h0 : prod < 0) :
  Calls Tryz.prog 36 #[F.val, .int .i64 prod] W fun e W' => e = .returned (.slice (some ⟨W.heap.size + 1, 0, none⟩) 1 1) ∧ W'.heap[W.heap.size + 1]? = some (.cells #[.int .i64 F.ts.length, .string ⟨#[]⟩, .string ⟨#[]⟩] 44 (0, 0)) ∧ Below W.heap.size W W' := by
 simp only [FG.val, FG.row]
 have hl0 : F.ts.length ≤ 9223372036854775807 := hK.h0.2.1
 go_enter Tryz.func36, Tryz.ntmps36
 go_wp2;go_ret
 have e : ∀ o, (W.alloc o).heap.size = W.heap.size + 1 := fun o => by simp
 exact ⟨rfl, by rw [← e (.cells #[.slice F.A0 F.ts.length F.c0, .slice F.A1 F.ns.length F.c1, .slice F.A2 F.ps.length F.c2] 25)]; exact za9 _ _, ((Below.refl _ _).alloc (Nat.le_refl _) _).alloc (by simp) _⟩
theorem zjn (F : FG) (prod : Int) (u W : World) (hK : F.K u) (hu : Below u.heap.size u W) (h0 : 0 ≤ prod) (hp : prod < F.ps.length) :
  ∃ A c, (za1 F.ts.length F.ps prod).length ≤ c ∧ Kd.C kI u A (za1 F.ts.length F.ps prod).length (za1 F.ts.length F.ps prod) ∧ Calls Tryz.prog 36 #[F.val, .int .i64 prod] W fun e W' => e = .returned (.slice A (za1 F.ts.length F.ps prod).length c) ∧ Below W.heap.size W W' := by
 simp only [FG.val, FG.row]
 have hl0 : F.ts.length ≤ 9223372036854775807 := hK.h0.2.1
 obtain ⟨ad, x, A1, c1, hA, hx, hl1, hC1, f0, f1, f2⟩ := atP hK.h2 prod.toNat (by omega)
 have e : za1 F.ts.length F.ps prod = x.2.1 := by
  unfold za1
  rw [if_neg (by omega), List.getD_eq_getElem?_getD, hx]
  rfl
 rw [e]
 refine ⟨A1, c1, hl1, hC1, ?_⟩
 have hlp : F.ps.length ≤ 9223372036854775807 := hK.h2.2.1
 have h0' : ¬ prod < 0 := by omega
 have g1 := zad (hu.alloc hu.size (.cells #[.slice F.A0 F.ts.length F.c0, .slice F.A1 F.ns.length F.c1, .slice (some ad) F.ps.length F.c2] 25)) f1
 rw [hA]
 clear hC1 f0 f1 f2 hx e
 go_enter Tryz.func36, Tryz.ntmps36
 go_wp2;go_ret
 exact ⟨rfl, (Below.refl _ _).alloc (Nat.le_refl _) _⟩
theorem rright_any (F : FG) (prod : Int) (u W : World) (hK : F.K u) (hu : Below u.heap.size u W) (hp : prod < F.ps.length) :
  Calls Tryz.prog 36 #[F.val, .int .i64 prod] W fun e W' => ∃ A c, e = .returned (.slice A (za1 F.ts.length F.ps prod).length c) ∧ Below W.heap.size W W' ∧ ∀ (i : Nat) (y : I), (za1 F.ts.length F.ps prod)[i]? = some y → ∃ ad, A = some ad ∧ W'.cell? (ad.add (i * 3)) = some (.int .i64 y.1) := by
 by_cases h0 : prod < 0
 ·refine (rright_neg F prod W (hK.below hu) h0).mono ?_
  rintro e W' ⟨rfl, hb, hB⟩
  have hr : za1 F.ts.length F.ps prod = [((F.ts.length : Int), ⟨#[]⟩, ⟨#[]⟩)] := by unfold za1; rw [if_pos h0]
  rw [hr]
  refine ⟨_, _, rfl, hB, fun i y hy => ?_⟩
  obtain rfl : i = 0 := by
   have := (List.getElem?_eq_some_iff.1 hy).1
   simpa using this
  obtain rfl : ((F.ts.length : Int), (⟨#[]⟩ : ByteArray), (⟨#[]⟩ : ByteArray)) = y := by simpa using hy
  exact ⟨_, rfl, zab hb 0⟩
 ·obtain ⟨A, c, hl, hC, h⟩ := zjn F prod u W hK hu (by omega) hp
  refine h.mono ?_
  rintro e W' ⟨rfl, hB⟩
  refine ⟨A, c, rfl, hB, fun i y hy => ?_⟩
  have hi := (List.getElem?_eq_some_iff.1 hy).1
  obtain ⟨ad, z, e, hz, f0, _⟩ := atI hC i hi
  obtain rfl : z = y := by rw [hz] at hy; exact Option.some.inj hy
  exact ⟨ad, e, zad (hu.trans (hB.mono hu.size)) f0⟩
theorem rnext_no (F : FG) (x : Lr) (W : World) (hK : F.K W) (hfit : ∀ w, Below W.heap.size W w → Calls Tryz.prog 18 #[F.val, lrV x] w fun e w' => e = .returned (.bool false) ∧ Below w.heap.size w w') :
  Calls Tryz.prog 16 #[F.val, lrV x] W fun e W' => e = .returned (.tuple #[.int .i64 0, .bool false]) ∧ Below W.heap.size W W' := by
 simp only [FG.val, FG.row, lrV, lrA] at hfit ⊢
 obtain ⟨g0, hg0⟩ : ∃ b, W.heap.size = b := ⟨_, rfl⟩
 obtain ⟨W2, hW2⟩ : ∃ X, W.alloc (.cells F.row 25) = X := ⟨_, rfl⟩
 obtain ⟨g1, hg1⟩ : ∃ b, W2.heap.size = b := ⟨_, rfl⟩
 obtain ⟨W3, hW3⟩ : ∃ X, W2.alloc (.cells #[.int .i64 x.1, .int .i64 x.2.1, .int .i64 x.2.2] 50) = X := ⟨_, rfl⟩
 have hb0 : W3.heap[g0]? = some (.cells F.row 25 (0, 0)) := by rw [← hW3]; exact zaj (by rw [← hW2, ← hg0]; exact za9 _ _) _
 have hb1 : W3.heap[g1]? = some (.cells #[.int .i64 x.1, .int .i64 x.2.1, .int .i64 x.2.2] 50 (0, 0)) := by rw [← hW3, ← hg1]; exact za9 _ _
 have hu2 : Below W.heap.size W W3 := by rw [← hW3, ← hW2]; exact ((Below.refl _ _).alloc (Nat.le_refl _) _).alloc (by simp) _
 have hu3 := za4 hu2
 have hK3 := hK.below hu3
 have hHeld : (fun X => X.cell? ⟨g0, 0, none⟩ = some (.slice F.A0 F.ts.length F.c0) ∧ X.cell? ⟨g0, 1, none⟩ = some (.slice F.A1 F.ns.length F.c1) ∧ X.cell? ⟨g0, 2, none⟩ = some (.slice F.A2 F.ps.length F.c2) ∧ X.cell? ⟨g1, 0, none⟩ = some (.int .i64 x.1) ∧ X.cell? ⟨g1, 1, none⟩ = some (.int .i64 x.2.1) ∧ X.cell? ⟨g1, 2, none⟩ = some (.int .i64 x.2.2)) W3.drew := ⟨zab (zah hb0) 0, zab (zah hb0) 1, zab (zah hb0) 2, zab (zah hb1) 0, zab (zah hb1) 1, zab (zah hb1) 2⟩
 have keepS : ∀ X Y : World, Below X.heap.size X Y → (fun X => X.cell? ⟨g0, 0, none⟩ = some (.slice F.A0 F.ts.length F.c0) ∧ X.cell? ⟨g0, 1, none⟩ = some (.slice F.A1 F.ns.length F.c1) ∧ X.cell? ⟨g0, 2, none⟩ = some (.slice F.A2 F.ps.length F.c2) ∧ X.cell? ⟨g1, 0, none⟩ = some (.int .i64 x.1) ∧ X.cell? ⟨g1, 1, none⟩ = some (.int .i64 x.2.1) ∧ X.cell? ⟨g1, 2, none⟩ = some (.int .i64 x.2.2)) X → (fun X => X.cell? ⟨g0, 0, none⟩ = some (.slice F.A0 F.ts.length F.c0) ∧ X.cell? ⟨g0, 1, none⟩ = some (.slice F.A1 F.ns.length F.c1) ∧ X.cell? ⟨g0, 2, none⟩ = some (.slice F.A2 F.ps.length F.c2) ∧ X.cell? ⟨g1, 0, none⟩ = some (.int .i64 x.1) ∧ X.cell? ⟨g1, 1, none⟩ = some (.int .i64 x.2.1) ∧ X.cell? ⟨g1, 2, none⟩ = some (.int .i64 x.2.2)) Y := fun X Y h hh => ⟨zad h hh.1, zad h hh.2.1, zad h hh.2.2.1, zad h hh.2.2.2.1, zad h hh.2.2.2.2.1, zad h hh.2.2.2.2.2⟩
 simp only [FG.row] at hW2 hb0
 have HU := Lib.hid hu3
 clear hb0 hb1 hu2
 go_enter Tryz.func16, Tryz.ntmps16
 go_wp2
 rename_i K1 hK1
 refine Ahd.zcy (zbl (S := (fun X => X.cell? ⟨g0, 0, none⟩ = some (.slice F.A0 F.ts.length F.c0) ∧ X.cell? ⟨g0, 1, none⟩ = some (.slice F.A1 F.ns.length F.c1) ∧ X.cell? ⟨g0, 2, none⟩ = some (.slice F.A2 F.ps.length F.c2) ∧ X.cell? ⟨g1, 0, none⟩ = some (.int .i64 x.1) ∧ X.cell? ⟨g1, 1, none⟩ = some (.int .i64 x.2.1) ∧ X.cell? ⟨g1, 2, none⟩ = some (.int .i64 x.2.2))) (ds := []) (Ymk 14 0) (by kernel_rfl) rfl rfl hHeld (fun h0_ => ?_))
 clear h0_
 refine Ytk 0 6 14 1 hHeld ?_
 refine Ytk 1 7 14 3 hHeld ?_
 refine Yok 2 8 14 7 (fun K hK => ?_)
 refine Ygh Tryz.func18 #[.agg #[.slice F.A0 F.ts.length F.c0, .slice F.A1 F.ns.length F.c1, .slice F.A2 F.ps.length F.c2], .agg #[.int .i64 x.1, .int .i64 x.2.1, .int .i64 x.2.2]] ?_
 refine (hfit W3.drew hu3).mono ?_
 rintro e W4 ⟨rfl, hB4⟩
 refine ⟨_, rfl, ?_⟩
 have hh4 := keepS _ _ hB4 hHeld
 have hK4 := hK3.below hB4
 refine hK.out _ _ hh4 (fun h0_ => ?_)
 clear hK K h0_
 refine Ypk 3 9 14 15 ?_
 refine Ypk 4 10 14 31 ?_
 refine Ypj 5 11 14 63 ?_
 refine Ypj 6 12 14 127 ?_
 refine Ypj 7 13 14 255 ?_
 refine Ypj 8 14 14 511 ?_
 refine Ypj 9 15 14 1023 ?_
 refine Ypj 10 16 14 2047 ?_
 refine Ypj 11 17 14 4095 ?_
 refine Ypj 12 18 14 8191 ?_
 refine Ypk 13 19 14 16383 ?_
 refine zbq (by kernel_rfl) ?_
 refine hK1 _ _ ?_
 go_wp2
 go_ret2
 exact ⟨rfl, HU.out.trans (hB4.mono HU.out.size)⟩
theorem rnext_yes (F : FG) (p l : Int) (d n : Nat) (hl : F.ts.length ≤ 9223372036854775807) (W : World) (hK : F.K W) (hn : n ≤ 9223372036854775807) (hdn : d ≤ n)
  (hfit : ∀ w, Below W.heap.size W w → Calls Tryz.prog 18 #[F.val, lrV (p, (d : Int), l)] w fun e w' => e = .returned (.bool true) ∧ Below w.heap.size w w')
  (sy : Int) (hr : ∀ w, Below W.heap.size W w → Calls Tryz.prog 36 #[F.val, .int .i64 p] w fun e w' => ∃ A c, e = .returned (.slice A n c) ∧ Below w.heap.size w w' ∧ (d < n → ∃ ad, A = some ad ∧ w'.cell? (ad.add (d * 3)) = some (.int .i64 sy))) :
  Calls Tryz.prog 16 #[F.val, lrV (p, (d : Int), l)] W fun e W' => e = .returned (.tuple #[.int .i64 (if d = n then 0 else sy), .bool (!(d == n))]) ∧ Below W.heap.size W W' := by
 simp only [FG.val, FG.row] at hr
 simp only [FG.val, FG.row, lrV, lrA] at hfit ⊢
 obtain ⟨g0, hg0⟩ : ∃ b, W.heap.size = b := ⟨_, rfl⟩
 obtain ⟨W2, hW2⟩ : ∃ X, W.alloc (.cells F.row 25) = X := ⟨_, rfl⟩
 obtain ⟨g1, hg1⟩ : ∃ b, W2.heap.size = b := ⟨_, rfl⟩
 obtain ⟨W3, hW3⟩ : ∃ X, W2.alloc (.cells #[.int .i64 p, .int .i64 (d : Int), .int .i64 l] 50) = X := ⟨_, rfl⟩
 have hb0 : W3.heap[g0]? = some (.cells F.row 25 (0, 0)) := by rw [← hW3]; exact zaj (by rw [← hW2, ← hg0]; exact za9 _ _) _
 have hb1 : W3.heap[g1]? = some (.cells #[.int .i64 p, .int .i64 (d : Int), .int .i64 l] 50 (0, 0)) := by rw [← hW3, ← hg1]; exact za9 _ _
 have hu2 : Below W.heap.size W W3 := by rw [← hW3, ← hW2]; exact ((Below.refl _ _).alloc (Nat.le_refl _) _).alloc (by simp) _
 have hu3 := za4 hu2
 have hK3 := hK.below hu3
 have hHeld : (fun X => X.cell? ⟨g0, 0, none⟩ = some (.slice F.A0 F.ts.length F.c0) ∧ X.cell? ⟨g0, 1, none⟩ = some (.slice F.A1 F.ns.length F.c1) ∧ X.cell? ⟨g0, 2, none⟩ = some (.slice F.A2 F.ps.length F.c2) ∧ X.cell? ⟨g1, 0, none⟩ = some (.int .i64 p) ∧ X.cell? ⟨g1, 1, none⟩ = some (.int .i64 (d : Int)) ∧ X.cell? ⟨g1, 2, none⟩ = some (.int .i64 l)) W3.drew := ⟨zab (zah hb0) 0, zab (zah hb0) 1, zab (zah hb0) 2, zab (zah hb1) 0, zab (zah hb1) 1, zab (zah hb1) 2⟩
 have keepS : ∀ X Y : World, Below X.heap.size X Y → (fun X => X.cell? ⟨g0, 0, none⟩ = some (.slice F.A0 F.ts.length F.c0) ∧ X.cell? ⟨g0, 1, none⟩ = some (.slice F.A1 F.ns.length F.c1) ∧ X.cell? ⟨g0, 2, none⟩ = some (.slice F.A2 F.ps.length F.c2) ∧ X.cell? ⟨g1, 0, none⟩ = some (.int .i64 p) ∧ X.cell? ⟨g1, 1, none⟩ = some (.int .i64 (d : Int)) ∧ X.cell? ⟨g1, 2, none⟩ = some (.int .i64 l)) X → (fun X => X.cell? ⟨g0, 0, none⟩ = some (.slice F.A0 F.ts.length F.c0) ∧ X.cell? ⟨g0, 1, none⟩ = some (.slice F.A1 F.ns.length F.c1) ∧ X.cell? ⟨g0, 2, none⟩ = some (.slice F.A2 F.ps.length F.c2) ∧ X.cell? ⟨g1, 0, none⟩ = some (.int .i64 p) ∧ X.cell? ⟨g1, 1, none⟩ = some (.int .i64 (d : Int)) ∧ X.cell? ⟨g1, 2, none⟩ = some (.int .i64 l)) Y := fun X Y h hh => ⟨zad h hh.1, zad h hh.2.1, zad h hh.2.2.1, zad h hh.2.2.2.1, zad h hh.2.2.2.2.1, zad h hh.2.2.2.2.2⟩
 simp only [FG.row] at hW2 hb0
 have HU := Lib.hid hu3
 have HR := Lib.hid hr
 clear hb0 hb1 hu2 hr
 by_cases hde : d = n
 ·have hc : ((d : Int) == (n : Int)) = true := by simp [hde]
  have e1 : (if d = n then (0 : Int) else sy) = 0 := if_pos hde
  have e2 : (!(d == n)) = false := by simp [hde]
  rw [e1, e2]
  clear hde e1 e2
  go_enter Tryz.func16, Tryz.ntmps16
  go_wp2
  rename_i K1 hK1
  refine Ahd.zcy (zbl (S := (fun X => X.cell? ⟨g0, 0, none⟩ = some (.slice F.A0 F.ts.length F.c0) ∧ X.cell? ⟨g0, 1, none⟩ = some (.slice F.A1 F.ns.length F.c1) ∧ X.cell? ⟨g0, 2, none⟩ = some (.slice F.A2 F.ps.length F.c2) ∧ X.cell? ⟨g1, 0, none⟩ = some (.int .i64 p) ∧ X.cell? ⟨g1, 1, none⟩ = some (.int .i64 (d : Int)) ∧ X.cell? ⟨g1, 2, none⟩ = some (.int .i64 l))) (ds := []) (Ymk 14 0) (by kernel_rfl) rfl rfl hHeld (fun h0_ => ?_))
  clear h0_
  refine Ytk 0 6 14 1 hHeld ?_
  refine Ytk 1 7 14 3 hHeld ?_
  refine Yok 2 8 14 7 (fun K hK => ?_)
  refine Ygh Tryz.func18 #[.agg #[.slice F.A0 F.ts.length F.c0, .slice F.A1 F.ns.length F.c1, .slice F.A2 F.ps.length F.c2], .agg #[.int .i64 p, .int .i64 (d : Int), .int .i64 l]] ?_
  refine (hfit W3.drew hu3).mono ?_
  rintro e W4 ⟨rfl, hB4⟩
  refine ⟨_, rfl, ?_⟩
  have hh4 := keepS _ _ hB4 hHeld
  have hB4' := hu3.trans (hB4.mono hu3.size)
  refine hK.out _ _ hh4 (fun h0_ => ?_)
  clear hK K h0_
  refine Ypk 3 9 14 15 ?_
  refine Ypk 4 10 14 31 ?_
  refine Ypk 5 11 14 63 ?_
  refine Ytk 6 12 14 127 hh4 ?_
  refine Ytk 7 13 14 255 hh4 ?_
  refine Ypk 8 14 14 511 ?_
  refine Ytk 9 15 14 1023 hh4 ?_
  refine Yok 10 16 14 2047 (fun K hK => ?_)
  refine Ygh Tryz.func36 #[.agg #[.slice F.A0 F.ts.length F.c0, .slice F.A1 F.ns.length F.c1, .slice F.A2 F.ps.length F.c2], .int .i64 p] ?_
  refine (HR.out W4 hB4').mono ?_
  rintro e W5 ⟨A5, c5, rfl, hB5, _⟩
  refine ⟨_, rfl, ?_⟩
  have hh5 := keepS _ _ hB5 hh4
  have hu5' := hB4'.trans (hB5.mono hB4'.size)
  refine hK.out _ _ hh5 (fun h0_ => ?_)
  clear hK K h0_
  refine Ypk 11 17 14 4095 ?_
  refine Ypk 12 18 14 8191 ?_
  refine Ypk 13 19 14 16383 ?_
  refine zbq (by kernel_rfl) ?_
  refine hK1 _ _ ?_
  go_wp2
  go_ret2
  exact ⟨rfl, hu5'⟩
 ·have hc : ((d : Int) == (n : Int)) = false := by simp; omega
  have e1 : (if d = n then (0 : Int) else sy) = sy := if_neg hde
  have e2 : (!(d == n)) = true := by simp [hde]
  have hlt : d < n := by omega
  have hlt' : (d : Int) < (n : Int) := by omega
  rw [e1, e2]
  clear hde e1 e2
  go_enter Tryz.func16, Tryz.ntmps16
  go_wp2
  rename_i K1 hK1
  refine Ahd.zcy (zbl (S := (fun X => X.cell? ⟨g0, 0, none⟩ = some (.slice F.A0 F.ts.length F.c0) ∧ X.cell? ⟨g0, 1, none⟩ = some (.slice F.A1 F.ns.length F.c1) ∧ X.cell? ⟨g0, 2, none⟩ = some (.slice F.A2 F.ps.length F.c2) ∧ X.cell? ⟨g1, 0, none⟩ = some (.int .i64 p) ∧ X.cell? ⟨g1, 1, none⟩ = some (.int .i64 (d : Int)) ∧ X.cell? ⟨g1, 2, none⟩ = some (.int .i64 l))) (ds := []) (Ymk 14 0) (by kernel_rfl) rfl rfl hHeld (fun h0_ => ?_))
  clear h0_
  refine Ytk 0 6 14 1 hHeld ?_
  refine Ytk 1 7 14 3 hHeld ?_
  refine Yok 2 8 14 7 (fun K hK => ?_)
  refine Ygh Tryz.func18 #[.agg #[.slice F.A0 F.ts.length F.c0, .slice F.A1 F.ns.length F.c1, .slice F.A2 F.ps.length F.c2], .agg #[.int .i64 p, .int .i64 (d : Int), .int .i64 l]] ?_
  refine (hfit W3.drew hu3).mono ?_
  rintro e W4 ⟨rfl, hB4⟩
  refine ⟨_, rfl, ?_⟩
  have hh4 := keepS _ _ hB4 hHeld
  have hB4' := hu3.trans (hB4.mono hu3.size)
  refine hK.out _ _ hh4 (fun h0_ => ?_)
  clear hK K h0_
  refine Ypk 3 9 14 15 ?_
  refine Ypk 4 10 14 31 ?_
  refine Ypk 5 11 14 63 ?_
  refine Ytk 6 12 14 127 hh4 ?_
  refine Ytk 7 13 14 255 hh4 ?_
  refine Ypk 8 14 14 511 ?_
  refine Ytk 9 15 14 1023 hh4 ?_
  refine Yok 10 16 14 2047 (fun K hK => ?_)
  refine Ygh Tryz.func36 #[.agg #[.slice F.A0 F.ts.length F.c0, .slice F.A1 F.ns.length F.c1, .slice F.A2 F.ps.length F.c2], .int .i64 p] ?_
  refine (HR.out W4 hB4').mono ?_
  rintro e W5 ⟨A5, c5, rfl, hB5, _⟩
  refine ⟨_, rfl, ?_⟩
  have hh5 := keepS _ _ hB5 hh4
  have hu5' := hB4'.trans (hB5.mono hB4'.size)
  refine hK.out _ _ hh5 (fun h0_ => ?_)
  clear hK K h0_
  refine Ypk 11 17 14 4095 ?_
  refine Ypk 12 18 14 8191 ?_
  refine Ypk 13 19 14 16383 ?_
  refine zbq (by kernel_rfl) ?_
  refine hK1 _ _ ?_
  clear hK1;go_wp2
  rename_i K3 hK3_
  have hu5 := za4 hu5'
  have hh7 := keepS _ _ (za4 (Below.refl W5.heap.size W5)) hh5
  refine Ahd.zcy (zbl (S := (fun X => X.cell? ⟨g0, 0, none⟩ = some (.slice F.A0 F.ts.length F.c0) ∧ X.cell? ⟨g0, 1, none⟩ = some (.slice F.A1 F.ns.length F.c1) ∧ X.cell? ⟨g0, 2, none⟩ = some (.slice F.A2 F.ps.length F.c2) ∧ X.cell? ⟨g1, 0, none⟩ = some (.int .i64 p) ∧ X.cell? ⟨g1, 1, none⟩ = some (.int .i64 (d : Int)) ∧ X.cell? ⟨g1, 2, none⟩ = some (.int .i64 l))) (ds := []) (Ymk 11 0) (by kernel_rfl) rfl rfl hh7 (fun h0_ => ?_))
  clear h0_
  refine Ytk 0 20 11 1 hh7 ?_
  refine Ypk 1 21 11 3 ?_
  refine Ytk 2 22 11 7 hh7 ?_
  refine Ypk 4 24 11 23 ?_
  refine Ytk 5 25 11 55 hh7 ?_
  refine Yok 3 23 11 63 (fun K hK => ?_)
  refine Ygh Tryz.func36 #[.agg #[.slice F.A0 F.ts.length F.c0, .slice F.A1 F.ns.length F.c1, .slice F.A2 F.ps.length F.c2], .int .i64 p] ?_
  refine (HR.out W5.drew hu5).mono ?_
  rintro e W6 ⟨A6, c6, rfl, hB6, hx6⟩
  obtain ⟨ad, rfl, hx⟩ := hx6 hlt
  refine ⟨_, rfl, ?_⟩
  have hh6 := keepS _ _ hB6 hh7
  refine hK.out _ _ hh6 (fun h0_ => ?_)
  clear hK K h0_
  refine Ypk 6 26 11 127 ?_
  refine Ypk 7 27 11 255 ?_
  refine Yok 8 28 11 511 (fun K hK => ?_)
  go_simp
  refine hK.out _ _ hh6 (fun h0_ => ?_)
  clear hK K h0_
  refine Ypk 9 4 11 1023 ?_
  refine Ypk 10 5 11 2047 ?_
  refine zbq (by kernel_rfl) ?_
  refine hK3_ _ _ ?_
  go_wp2
  go_ret2
  exact ⟨rfl, hu5.trans (hB6.mono hu5.size)⟩
theorem rnext_calls (F : FG) (x : Lr) (W : World) (hK : F.K W) (hfit : ∀ w, Below W.heap.size W w → Calls Tryz.prog 18 #[F.val, lrV x] w fun e w' => e = .returned (.bool (fitV F.ts.length F.ps x)) ∧ Below w.heap.size w w') :
  Calls Tryz.prog 16 #[F.val, lrV x] W fun e W' => e = .returned (.tuple #[.int .i64 ((zbx F.ts.length F.ps x).getD 0), .bool (zbx F.ts.length F.ps x).isSome]) ∧ Below W.heap.size W W' := by
 by_cases h : fitV F.ts.length F.ps x = true
 ·obtain ⟨h0, h1, h2, h3, h4, h5⟩ := zc4.1 h
  obtain ⟨p, dd, l⟩ := x
  obtain ⟨d, rfl⟩ := Int.eq_ofNat_of_zero_le h2
  have hnv : zbx F.ts.length F.ps (p, (d : Int), l) = ((za1 F.ts.length F.ps p)[d]?).map (·.1) := by
   unfold zbx
   rw [if_pos h]
   rfl
  have hrl : (za1 F.ts.length F.ps p).length ≤ 9223372036854775807 := by
   by_cases hp : p < 0
   ·unfold za1; rw [if_pos hp]; simp
   ·obtain ⟨A, c, _, hC, _⟩ := zjn F p W W hK (Below.refl _ _) (by omega) h1
    exact hC.2.1
  have hdl : d ≤ (za1 F.ts.length F.ps p).length := by
   have : ((d : Int)) ≤ ((za1 F.ts.length F.ps p).length : Int) := h3
   omega
  have := rnext_yes F p l d (za1 F.ts.length F.ps p).length hK.h0.2.1 W hK hrl hdl (fun w hw => by have := hfit w hw; rw [h] at this; exact this) ((zbx F.ts.length F.ps (p, (d : Int), l)).getD 0) (fun w hw => by
   refine (rright_any F p W w hK hw h1).mono ?_
   rintro e w' ⟨A, c, rfl, hB, hx⟩
   refine ⟨A, c, rfl, hB, fun hd => ?_⟩
   obtain ⟨ad, e, hc⟩ := hx d _ (List.getElem?_eq_getElem hd)
   refine ⟨ad, e, ?_⟩
   rw [hc, hnv, List.getElem?_eq_getElem hd]
   rfl)
  refine this.mono ?_
  rintro e W' ⟨rfl, hB⟩
  refine ⟨?_, hB⟩
  by_cases hde : d = (za1 F.ts.length F.ps p).length
  ·rw [if_pos hde, hnv, List.getElem?_eq_none (by omega)]
   simp [← hde]
  ·rw [if_neg hde, hnv, List.getElem?_eq_getElem (by omega)]
   simp [hde]
 ·have hn : zbx F.ts.length F.ps x = none := by unfold zbx; rw [if_neg h]
  have hf : fitV F.ts.length F.ps x = false := by simpa using h
  rw [hn]
  exact rnext_no F x W hK (fun w hw => by have := hfit w hw; rw [hf] at this; exact this)
end Go.Proofs.ZZ.LNext
end
