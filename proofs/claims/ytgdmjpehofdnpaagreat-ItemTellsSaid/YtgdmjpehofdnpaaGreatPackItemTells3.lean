import Derived.Shelf.SlGeneric
import Derived.Shelf.SlSortCmp.WholeK
import Derived.Ground.SlsfProg
import Derived.Test.YtgdmjpehofdnpaaGreatProg
import Derived.Shelf.GgSortFunc.InsertionK
import Derived.Lib.SlKeysI
import Derived.Shelf.SlSortCmp.NoneTotal
import Derived.Sort.AssemblyPlain
import Derived.WideKeyEntry
import Derived.Below
import Derived.Deep.Draws
import Derived.Deep.AppendLies
import Derived.Maps.AppendAt
import Derived.OwnWalk
import Derived.Laws.BytesArg
import Derived.Laws.MakeOwn
import Derived.Laws.OwnMore
import Derived.Deep.OwnRows
import Derived.Tactics
import Derived.Lib.ConvBytes
import Derived.Laws.Slices
import Derived.WalkKit
import Derived.KernelRfl
import Derived.RowKit3
import Derived.Deep.LoopGhost
import Derived.Deep.QuietTactic
import Derived.BigQuiet
import Derived.WideLaws
import Derived.Deep.DeepCutAuto
import Derived.Deep.CutBlock
import Derived.Deep.RegionHeld3
import Derived.Laws.Rows
import Derived.Lib.AppendStr
import Derived.ArgAppend
import Derived.Laws.IdiomCopy
import Derived.OrdersHeld
import Derived.Laws.BitsLemmas
import Derived.RowKit
import Derived.Lib.Strings
import Derived.Lib.Bytealg
import Derived.Lib.Slices
import Derived.Lib.Walk
import Derived.Test.YtgdmjpehofdnpaaGreatPackItemTells2
set_option linter.unusedVariables false
set_option linter.unusedSimpArgs false
set_option maxRecDepth 100000
set_option maxHeartbeats 8000000
section
namespace Go.Proofs.ZZ.LLooks
open Go Go.RowKit Go.Shelf Go.Maps Go.Proofs.ZW.PrintWords Go.Proofs.ZW.PrintLast Go.Proofs.ZZ.Round Go.Proofs.ZZ.RangeG Go.Proofs.ZZ.Fl Go.Proofs.ZZ.Deri Go.Proofs.ZZ.Seqs Go.Proofs.ZZ.LrK Go.Proofs.ZZ.GMap Go.Proofs.ZZ.LLex Go.Proofs.ZZ.LFlat
attribute [local go_sem] Oper.semAt_some
def keyI : KeyAs Tryz.prog TI Int where
 enc := .int .i64
 lit := .int .i64
 ok x := (Lit.int .i64 x).wf = true
 keyed := MSet.law
 key h := Maps.keyOf_int_mk Tryz.underlying3 h
 inv h := by
  obtain ⟨x, ex, rfl, hwf⟩ := Maps.keyOf_i64 Tryz.underlying3 h
  exact ⟨x, hwf, ex, rfl⟩
 inj _ _ h := by injection h
structure SG where
 sb : Nat
 ob : Nat
 F : FG
 Af : Option Addr
 Ae : Option Addr
 cf : Nat
 ce : Nat
 N : Nat
structure SG.At (G : SG) (em : List Bool) (Ss : List (List Int)) (W : World) : Prop where
 blk : W.heap[G.sb]? = some (.cells #[.slice G.F.A0 G.F.ts.length G.F.c0, .slice G.F.A1 G.F.ns.length G.F.c1, .slice G.F.A2 G.F.ps.length G.F.c2, .slice G.Af G.N G.cf, .slice G.Ae G.N G.ce, .map (some G.ob)] 76 (0, 0))
 nn : G.F.ts.length + G.F.ns.length = G.N
 few : G.N ≤ 1000000
 n1 : 1 ≤ G.F.ns.length
 K : G.F.K W
 first : Kd.C (Kd.slice TI (Kd.int .i64)) W G.Af G.N Ss
 fok : ∀ S ∈ Ss, S.length ≤ 1000000 ∧ ∀ z ∈ S, (Lit.int .i64 z).wf = true
 empty : Kd.C Kd.bool W G.Ae G.N em
 map : ∃ M, MapAt keyI G.ob M W ∧ ∀ s : Int, (G.F.ts.length : Int) ≤ s → s < G.N → ∃ A c, GMap.look M s = some (.slice A (ofV G.F.ps s).length c) ∧ Kd.C (Kd.int .i64) W A (ofV G.F.ps s).length (ofV G.F.ps s)
 psl : G.F.ps.length ≤ 1000000
 prs : ∀ p ∈ G.F.ps, PrOk G.N p ∧ p.2.1.length ≤ 1000
theorem SG.At.below {G : SG} {em : List Bool} {Ss : List (List Int)} {W W' : World} (h : G.At em Ss W) (hb : Below W.heap.size W W') : G.At em Ss W' := by
 obtain ⟨M, h1, h2⟩ := h.map
 refine ⟨(hb.block _ (zbk h.blk)).trans h.blk, h.nn, h.few, h.n1, h.K.below hb, Kd.zak h.first hb, h.fok, Kd.zak h.empty hb, ⟨M, h1.keep (hb.block _ h1.lt), fun s k1 k2 => ?_⟩, h.psl, h.prs⟩
 obtain ⟨A, c, e, hC⟩ := h2 s k1 k2
 exact ⟨A, c, e, Kd.zak hC hb⟩
def zda (em : List Bool) (Ss : List (List Int)) (lk : Int) : List I → List Int
 | [] => [lk]
 | i :: t => Ss.getD i.1.toNat [] ++ (if at_ em i.1 = true then zda em Ss lk t else [])
def KeepY (W W' : World) : Prop := ∀ (k : Nat) cs t fr, W.heap[k]? = some (.cells cs t fr) → t ≠ TL → t ≠ 45 → W'.heap[k]? = some (.cells cs t fr)
def zfs (n₀ b2 : Nat) (W W' : World) : Prop := zc7 n₀ [b2] W W' ∧ KeepY W W'
theorem keepY_refl (W : World) : KeepY W W := fun _ _ _ _ h _ _ => h
theorem keepY_t {A B C : World} (h : KeepY A B) (k : KeepY B C) : KeepY A C := fun i cs t fr hi h1 h2 => k i cs t fr (h i cs t fr hi h1 h2) h1 h2
theorem keepY_b (W : World) (l : Nat) (o o' : Obj) (h : W.heap[l]? = some o) (h1 : o.isCells = false) : KeepY W (W.putObj l o') := fun k cs t fr hk _ _ => (World.putObj_heap_other (fun e => by subst e; rw [hk] at h; cases h; cases h1)).trans hk
theorem keepQ_refl (n₀ b2 : Nat) (W : World) : zfs n₀ b2 W W := ⟨zd3 _ _ _, keepY_refl _⟩
theorem keepQ_t {n₀ b2 : Nat} {A B C : World} (h : zfs n₀ b2 A B) (k : zfs n₀ b2 B C) : zfs n₀ b2 A C := ⟨zes h.1 k.1, keepY_t h.2 k.2⟩
theorem keepQ_b {n₀ b2 : Nat} {w : World} (hn : n₀ ≤ w.heap.size) (hL : b2 < w.heap.size) (W : World) (l : Nat) (o o' : Obj) (hl : w.heap.size ≤ l) (h : W.heap[l]? = some o) (h1 : o.isCells = false) (h2 : o.isWalk = false) : zfs n₀ b2 W (W.putObj l o') :=
 ⟨zg5 hn (fun b hb => by rw [List.mem_singleton.1 hb]; exact hL) W l o o' hl h h1 h2, keepY_b W l o o' h h1⟩
theorem exVals : ∀ l : List Int, (∀ x ∈ l, (Lit.int .i64 x).wf = true) → ∃ xs : List I64, vals xs = l
 | [], _ => ⟨[], rfl⟩
 | x :: t, h => by
  obtain ⟨xs, e⟩ := exVals t (fun y hy => h y (by simp [hy]))
  exact ⟨⟨x, h x (by simp)⟩ :: xs, by simp only [vals, List.map_cons]; rw [← e]; rfl⟩
theorem vals_app1 (a : List I64) (x : I64) : vals (a ++ [x]) = vals a ++ [x.1] := by simp [vals]
theorem atSs {w : World} {A : Option Addr} {n : Nat} {Ss : List (List Int)} (h : Kd.C (Kd.slice TI (Kd.int .i64)) w A n Ss) (k : Nat) (hk : k < n) :
  ∃ ad A1 c1, A = some ad ∧ w.cell? (ad.add k) = some (.slice A1 (Ss.getD k []).length c1) ∧ Kd.C (Kd.int .i64) w A1 (Ss.getD k []).length (Ss.getD k []) := by
 obtain ⟨h1, h2, h3⟩ := h
 obtain ⟨ad, e, hc⟩ := h3 (by omega)
 have hk' : k < Ss.length := by omega
 obtain ⟨c, hl, ⟨A1, c1, rfl, hl1, hC1⟩, hcell⟩ := hc k _ (List.getElem?_eq_getElem hk')
 have hc0 : ∀ j u, [Value.slice A1 (Ss[k]).length c1][j]? = some u → w.cell? (ad.add (k * 1 + j)) = some u := hcell
 rw [List.getD_eq_getElem?_getD, List.getElem?_eq_getElem hk', Option.getD_some]
 exact ⟨ad, A1, c1, e, by have := hc0 0 _ rfl; simpa using this, hC1⟩
theorem looks_stops (G : SG) (em : List Bool) (Ss : List (List Int)) (x : Lr) (u w : World) (B1 B2 : Nat) (hG : G.At em Ss u) (hu : Below u.heap.size u w)
  (b1 : w.heap[B1]? = some (.cells #[.pointer (some ⟨G.sb, 0, none⟩)] 58 (0, 0))) (b2 : w.heap[B2]? = some (.cells #[.int .i64 x.1, .int .i64 x.2.1, .int .i64 x.2.2] TL (0, 0)))
  (h1 : x.1 < G.F.ps.length) (h2 : 0 ≤ x.2.1) (h3 : x.2.1 < (za1 G.F.ts.length G.F.ps x.1).length) (h4 : (Lit.int .i64 x.2.2).wf = true) :
  SeqG 2 Tryz.prog 60 #[.pointer (some ⟨B1, 0, none⟩), .pointer (some ⟨B2, 0, none⟩)] encX (zfs u.heap.size B2) (fun _ => False) (fun ys => vals ys = zda em Ss x.2.2 ((za1 G.F.ts.length G.F.ps x.1).drop (x.2.1.toNat + 1))) (fun _ => True) (zda em Ss x.2.2 ((za1 G.F.ts.length G.F.ps x.1).drop (x.2.1.toNat + 1))).length w := by
 intro L J Jx W hW hJ hJx hY h0
 have b1W := hW.same B1 _ b1 (fun h => h) (.inr rfl)
 have b2W := hW.same B2 _ b2 (fun h => h) (.inr rfl)
 have hu0 : Below u.heap.size u W.drew := za4 (zcn hu hW (Nat.le_refl _) hu.size (fun k h => h.elim))
 obtain ⟨d, hd⟩ : ∃ d : Nat, x.2.1 = (d : Int) := ⟨x.2.1.toNat, by omega⟩
 rw [hd] at h3 b2 b2W
 rw [hd, Int.toNat_natCast] at hY ⊢
 have hright : 0 ≤ x.1 → (za1 G.F.ts.length G.F.ps x.1).length ≤ 1000 ∧ ∀ i ∈ za1 G.F.ts.length G.F.ps x.1, 0 ≤ i.1 ∧ i.1 < (G.N : Int) := by
  intro hx
  have hm : G.F.ps.getD x.1.toNat dP ∈ G.F.ps := by
   rw [List.getD_eq_getElem?_getD, List.getElem?_eq_getElem (by omega)]
   exact List.getElem_mem _
  have he : za1 G.F.ts.length G.F.ps x.1 = (G.F.ps.getD x.1.toNat dP).2.1 := by unfold za1; rw [if_neg (by omega)]
  rw [he]
  exact ⟨(hG.prs _ hm).2, fun i hi => (hG.prs _ hm).1.2.2 i hi⟩
 have hneg : x.1 < 0 → (za1 G.F.ts.length G.F.ps x.1).length = 1 := by
  intro hx
  unfold za1
  rw [if_pos hx]
  rfl
 have hl9 : (za1 G.F.ts.length G.F.ps x.1).length ≤ 1000 := by
  by_cases hx : 0 ≤ x.1
  ·exact (hright hx).1
  ·rw [hneg (by omega)]; omega
 clear h2 hd
 obtain ⟨rest, hrest⟩ : ∃ rest, (za1 G.F.ts.length G.F.ps x.1).drop (d + 1) = rest := ⟨_, rfl⟩
 rw [hrest] at hY ⊢
 refine callsIn_of_wp Tryz.func60 rfl trivial ?_ rfl
 simp only [Tryz.ntmps60, List.size_toArray, List.length_cons, List.length_nil, Nat.reduceAdd, Nat.reduceSub, Array.replicate_succ, Array.replicate_zero, List.push_toArray, List.append_toArray, List.nil_append, List.cons_append]
 gi_wp2
 rename_i K6 hK6
 have hGd := hG.below hu0
 have hHeld : (fun X => X.cell? ⟨B1, 0, none⟩ = some (.pointer (some ⟨G.sb, 0, none⟩)) ∧ X.cell? ⟨G.sb, 0, none⟩ = some (.slice G.F.A0 G.F.ts.length G.F.c0) ∧ X.cell? ⟨G.sb, 1, none⟩ = some (.slice G.F.A1 G.F.ns.length G.F.c1) ∧ X.cell? ⟨G.sb, 2, none⟩ = some (.slice G.F.A2 G.F.ps.length G.F.c2) ∧ X.cell? ⟨B2, 0, none⟩ = some (.int .i64 x.1) ∧ X.cell? ⟨B2, 1, none⟩ = some (.int .i64 (d : Int))) W.drew := ⟨zab (zah b1W) 0, zab hGd.blk 0, zab hGd.blk 1, zab hGd.blk 2, zab (zah b2W) 0, zab (zah b2W) 1⟩
 have keep0 : ∀ X Y : World, Below X.heap.size X Y → (fun X => X.cell? ⟨B1, 0, none⟩ = some (.pointer (some ⟨G.sb, 0, none⟩)) ∧ X.cell? ⟨G.sb, 0, none⟩ = some (.slice G.F.A0 G.F.ts.length G.F.c0) ∧ X.cell? ⟨G.sb, 1, none⟩ = some (.slice G.F.A1 G.F.ns.length G.F.c1) ∧ X.cell? ⟨G.sb, 2, none⟩ = some (.slice G.F.A2 G.F.ps.length G.F.c2) ∧ X.cell? ⟨B2, 0, none⟩ = some (.int .i64 x.1) ∧ X.cell? ⟨B2, 1, none⟩ = some (.int .i64 (d : Int))) X → (fun X => X.cell? ⟨B1, 0, none⟩ = some (.pointer (some ⟨G.sb, 0, none⟩)) ∧ X.cell? ⟨G.sb, 0, none⟩ = some (.slice G.F.A0 G.F.ts.length G.F.c0) ∧ X.cell? ⟨G.sb, 1, none⟩ = some (.slice G.F.A1 G.F.ns.length G.F.c1) ∧ X.cell? ⟨G.sb, 2, none⟩ = some (.slice G.F.A2 G.F.ps.length G.F.c2) ∧ X.cell? ⟨B2, 0, none⟩ = some (.int .i64 x.1) ∧ X.cell? ⟨B2, 1, none⟩ = some (.int .i64 (d : Int))) Y := fun X Y h hh => ⟨zad h hh.1, zad h hh.2.1, zad h hh.2.2.1, zad h hh.2.2.2.1, zad h hh.2.2.2.2.1, zad h hh.2.2.2.2.2⟩
 refine wpIn_wide.2 (Ahd.zcy (zbl (S := (fun X => X.cell? ⟨B1, 0, none⟩ = some (.pointer (some ⟨G.sb, 0, none⟩)) ∧ X.cell? ⟨G.sb, 0, none⟩ = some (.slice G.F.A0 G.F.ts.length G.F.c0) ∧ X.cell? ⟨G.sb, 1, none⟩ = some (.slice G.F.A1 G.F.ns.length G.F.c1) ∧ X.cell? ⟨G.sb, 2, none⟩ = some (.slice G.F.A2 G.F.ps.length G.F.c2) ∧ X.cell? ⟨B2, 0, none⟩ = some (.int .i64 x.1) ∧ X.cell? ⟨B2, 1, none⟩ = some (.int .i64 (d : Int)))) (ds := []) (Ymk 13 0) (by kernel_rfl) rfl rfl hHeld (fun h0_ => ?_)))
 clear h0_
 refine Ytk 0 8 13 1 hHeld ?_
 refine Ypk 1 9 13 3 ?_
 refine Ypk 2 10 13 7 ?_
 refine Ytk 3 11 13 15 hHeld ?_
 refine Ypk 4 12 13 31 ?_
 refine Ytk 5 13 13 63 hHeld ?_
 refine Ypk 7 15 13 191 ?_
 refine Ytk 8 16 13 447 hHeld ?_
 refine Ypk 9 17 13 959 ?_
 refine Ypk 12 20 13 5055 ?_
 refine Yok 6 14 13 5119 (fun K hK => ?_)
 refine Ygh Tryz.func35 #[.agg #[.slice G.F.A0 G.F.ts.length G.F.c0, .slice G.F.A1 G.F.ns.length G.F.c1, .slice G.F.A2 G.F.ps.length G.F.c2], .int .i64 x.1] ?_
 refine (right_calls G.F x.1 u W.drew hG.K hu0 h1).mono ?_
 rintro e W3 ⟨A3, c3, rfl, hl3, hA3, hC3, hB3⟩
 obtain ⟨ad3, rfl⟩ := hA3 (by omega)
 obtain ⟨n3, hn3⟩ : ∃ n, (za1 G.F.ts.length G.F.ps x.1).length = n := ⟨_, rfl⟩
 rw [hn3] at h3 hl3
 rw [hn3]
 have hh3 := keep0 _ _ hB3 hHeld
 refine ⟨_, rfl, ?_⟩
 have hwr1 : IntKind.i64.wrap ((d : Int) + 1) = (d : Int) + 1 := by rw [IntKind.wrap_i64]; omega
 have hwr2 : (0 : Int) ≤ (d : Int) + 1 := by omega
 have hwr3 : (d : Int) + 1 ≤ (n3 : Int) := by omega
 obtain ⟨A4, hA4⟩ : ∃ A4 : Option Addr, (if c3 = d + 1 then some ad3 else some (ad3.add ((d + 1) * 3))) = A4 := ⟨_, rfl⟩
 refine hK.out _ _ hh3 (fun h0_ => ?_)
 clear hK K h0_
 refine Ypk 10 18 13 6143 ?_
 refine Ypk 11 19 13 8191 ?_
 refine zbq (by kernel_rfl) ?_
 refine hK6 _ _ ?_
 have hrl : n3 - (d + 1) = rest.length := by rw [← hrest, List.length_drop, hn3]
 have hrC : rest ≠ [] → Kd.C kI u A4 rest.length rest ∧ ∀ i ∈ rest, 0 ≤ i.1 ∧ i.1 < (G.N : Int) := by
  intro hne
  by_cases hx : 0 ≤ x.1
  ·have := Kd.zd5 (hC3 hx) (m := d + 1) (c := c3) (by rw [hn3]; omega) (by rw [hn3]; omega)
   rw [hrest] at this
   refine ⟨by rw [← hA4]; exact this, fun i hi => (hright hx).2 i (by rw [← hrest] at hi; exact List.mem_of_mem_drop hi)⟩
  ·have hl := hneg (by omega)
   rw [hn3] at hl
   have : rest.length = 0 := by omega
   exact absurd (List.eq_nil_of_length_eq_zero this) hne
 have hb3 := hu0.trans (hB3.mono hu0.size)
 have B1w : W3.heap[B1]? = some (.cells #[.pointer (some ⟨G.sb, 0, none⟩)] 58 (0, 0)) := zat (zah b1W) hB3
 have B2w : W3.heap[B2]? = some (.cells #[.int .i64 x.1, .int .i64 (d : Int), .int .i64 x.2.2] TL (0, 0)) := zat (zah b2W) hB3
 have J3 : J [] W3 := hJ _ _ _ h0 (Turn.drew.trans (Turn.below hB3))
 have hrl9 : rest.length ≤ 1000 := by omega
 rw [hrl]
 have HRC := Lib.hid hrC
 clear hK6 keep0 hHeld hh3 hwr1 hwr2 hwr3 hA3 hC3 hl3 hA4 hright hneg hrest hrC hn3 hrl hl9 b1W b2W hB3 h3 h0 hGd
 obtain ⟨adf, _, _, e0, _, _⟩ := atSs hG.first G.F.ts.length (by have := hG.nn; have := hG.n1; omega)
 obtain ⟨ade, e1, _⟩ := Kd.zf5 hG.empty G.F.ts.length (by omega) (by have := hG.nn; have := hG.n1; omega)
 have BLK := Lib.hid hG.blk
 rw [e0, e1] at BLK
 have EMP := Lib.hid hG.empty
 rw [e1] at EMP
 have FST := Lib.hid hG.first
 rw [e0] at FST
 gi_wp2
 gi_loopw [20] (fun i wr => ∃ (j : Nat) (pre : List I64), i = .int .i64 (j : Int) ∧ j ≤ rest.length ∧ J pre wr ∧ pre.length ≤ j * 1000000 ∧ Hid (vals pre ++ zda em Ss x.2.2 (rest.drop j) = zda em Ss x.2.2 rest) ∧ Hid (wr.heap[B1]? = some (.cells #[.pointer (some ⟨G.sb, 0, none⟩)] 58 (0, 0))) ∧ Hid (wr.heap[B2]? = some (.cells #[.int .i64 x.1, .int .i64 (d : Int), .int .i64 x.2.2] TL (0, 0))) ∧ Below u.heap.size u wr) (fun i _ => rest.length - (Go.RowKit.intOf i).toNat)
 case atStart => exact ⟨0, [], rfl, Nat.zero_le _, J3, Nat.zero_le _, Lib.hid (by simp [vals]), Lib.hid B1w, Lib.hid B2w, hb3⟩
 case round =>
  clear B1w B2w J3 hb3
  obtain ⟨j, pre, rfl, hj, hJs, hpl, HM, HB1, HB2, hb⟩ := hrel
  by_cases hlt : j < rest.length
  ·have hne : rest ≠ [] := fun e => by rw [e] at hlt; simp at hlt
   obtain ⟨hCr, hir⟩ := HRC.out hne
   obtain ⟨adr, y, rfl, hy, f0', f1', f2'⟩ := atI hCr j hlt
   have f0 := zad hb f0'
   have f1 := zad hb f1'
   have f2 := zad hb f2'
   have hy0 := (hir y (List.mem_of_getElem? hy)).1
   have hy1 := (hir y (List.mem_of_getElem? hy)).2
   have hdr : rest.drop j = y :: rest.drop (j + 1) := by
    rw [List.drop_eq_getElem_cons hlt]
    congr 1
    exact (List.getElem?_eq_some_iff.1 hy).2
   have hM := HM.out
   rw [hdr] at hM
   simp only [zda] at hM
   have HM' := Lib.hid hM
   clear hM hdr hy hCr hir hne f0' f1' f2' HM
   gi_wp2
   rename_i K7 hK7
   obtain ⟨Sy, hSy⟩ : ∃ S, Ss.getD y.1.toNat [] = S := ⟨_, rfl⟩
   obtain ⟨_, Ay, cy, e2, ky, Cy⟩ := atSs FST.out y.1.toNat (by omega)
   cases e2
   rw [hSy] at ky Cy HM'
   have hSm : Sy.length ≤ 1000000 ∧ ∀ z ∈ Sy, (Lit.int .i64 z).wf = true := by
    rw [← hSy, List.getD_eq_getElem?_getD]
    cases he : Ss[y.1.toNat]? with
    | none => exact ⟨by simp, fun z hz => by simp at hz⟩
    | some q => exact hG.fok q (List.mem_of_getElem? he)
   obtain ⟨xs, hxs⟩ := exVals Sy hSm.2
   have hxl : xs.length = Sy.length := by rw [← hxs]; simp [vals]
   have bx := za9 wr (.cells #[.int .i64 y.1, .string y.2.1, .string y.2.2] 44)
   have hBx : Below wr.heap.size wr (wr.alloc (.cells #[.int .i64 y.1, .string y.2.1, .string y.2.2] 44)) := (Below.refl _ _).alloc (Nat.le_refl _) _
   have Jx1 : J pre (wr.alloc (.cells #[.int .i64 y.1, .string y.2.1, .string y.2.2] 44)).drew := hJ _ _ _ hJs ((Turn.alloc _).trans Turn.drew)
   obtain ⟨Wx, hWx⟩ : ∃ X, wr.alloc (.cells #[.int .i64 y.1, .string y.2.1, .string y.2.2] 44) = X := ⟨_, rfl⟩
   obtain ⟨bxn, hbxn⟩ : ∃ n, wr.heap.size = n := ⟨_, rfl⟩
   have hbx := hb.trans (hBx.mono hb.size)
   rw [hWx] at bx hBx hbx Jx1
   rw [hWx]
   have hbd : Below u.heap.size u Wx.drew := za4 hbx
   have B1x := Lib.hid (zah (zat HB1.out hBx))
   have B2x := Lib.hid (zah (zat HB2.out hBx))
   have BXx := Lib.hid (zah bx)
   rw [hbxn] at BXx
   rw [hbxn]
   obtain ⟨Wd, hWd⟩ : ∃ X, Wx.drew = X := ⟨_, rfl⟩
   rw [hWd] at hbd B1x B2x BXx Jx1
   obtain ⟨bx, rfl⟩ : ∃ b, bxn = b := ⟨_, rfl⟩
   have hHeldX : (fun X => X.cell? ⟨B1, 0, none⟩ = some (.pointer (some ⟨G.sb, 0, none⟩)) ∧ X.cell? ⟨G.sb, 3, none⟩ = some (.slice (some adf) G.N G.cf) ∧ X.cell? ⟨bxn, 0, none⟩ = some (.int .i64 y.1) ∧ X.cell? (adf.add y.1.toNat) = some (.slice Ay Sy.length cy)) Wx.drew := by rw [hWd]; exact ⟨zab B1x.out 0, zad hbd (zab BLK.out 3), zab BXx.out 0, zad hbd ky⟩
   clear hWx hbxn hBx hbx HB1 HB2 hJs hb f0 f1 f2 hSy
   refine wpIn_wide.2 (Ahd.zcy (zbl (S := (fun X => X.cell? ⟨B1, 0, none⟩ = some (.pointer (some ⟨G.sb, 0, none⟩)) ∧ X.cell? ⟨G.sb, 3, none⟩ = some (.slice (some adf) G.N G.cf) ∧ X.cell? ⟨bxn, 0, none⟩ = some (.int .i64 y.1) ∧ X.cell? (adf.add y.1.toNat) = some (.slice Ay Sy.length cy))) (ds := []) (Ymk 10 0) (by kernel_rfl) rfl rfl hHeldX (fun h0_ => ?_)))
   clear h0_
   refine Ytk 0 24 10 1 hHeldX ?_
   refine Ypk 1 25 10 3 ?_
   refine Ypk 2 26 10 7 ?_
   refine Ytk 3 27 10 15 hHeldX ?_
   refine Ypk 4 28 10 31 ?_
   refine Ytk 5 29 10 63 hHeldX ?_
   refine Ypk 6 30 10 127 ?_
   refine Ytk 7 31 10 255 hHeldX ?_
   refine Ypk 8 32 10 511 ?_
   refine Ypk 9 33 10 1023 ?_
   refine zbq (by kernel_rfl) ?_
   refine hK7 _ _ ?_
   rw [hWd]
   clear hK7 hHeldX hWd
   have HCy := Lib.hid Cy
   have HXL := Lib.hid hxl
   clear Cy
   gi_wp2
   gi_loopw [33] (fun i wx => ∃ (q : Nat), i = .int .i64 (q : Int) ∧ q ≤ Sy.length ∧ J (pre ++ xs.take q) wx ∧ Hid (wx.heap[B1]? = some (.cells #[.pointer (some ⟨G.sb, 0, none⟩)] 58 (0, 0))) ∧ Hid (wx.heap[B2]? = some (.cells #[.int .i64 x.1, .int .i64 (d : Int), .int .i64 x.2.2] TL (0, 0))) ∧ Hid (wx.heap[bxn]? = some (.cells #[.int .i64 y.1, .string y.2.1, .string y.2.2] 44 (0, 0))) ∧ Below u.heap.size u wx) (fun i _ => Sy.length - (Go.RowKit.intOf i).toNat)
   case atStart => exact ⟨0, rfl, Nat.zero_le _, by simpa using Jx1, B1x, B2x, BXx, hbd⟩
   case round =>
    clear Jx1 B1x B2x BXx hbd
    obtain ⟨q, rfl, hq, hJq, HB1, HB2, HBX, hb⟩ := hrel
    by_cases hqt : q < Sy.length
    ·obtain ⟨ady, e3, hcy⟩ : ∃ ad, Ay = some ad ∧ wr.cell? (ad.add q) = some (.int .i64 (Sy.getD q 0)) := by
      obtain ⟨h1_, h2_, h3_⟩ := HCy.out
      obtain ⟨ad, e, hc⟩ := h3_ (by omega)
      obtain ⟨c, _, rfl, hcell⟩ := hc q _ (List.getElem?_eq_getElem hqt)
      have := hcell 0 _ rfl
      rw [show q * (Kd.int .i64).sz + 0 = q from Nat.mul_one q] at this
      exact ⟨ad, e, by rw [List.getD_eq_getElem?_getD, List.getElem?_eq_getElem hqt]; exact zad hb this⟩
     subst e3
     have hqx : q < xs.length := by omega
     have hz : Sy.getD q 0 = (xs[q]).1 := by
      rw [← hxs, List.getD_eq_getElem?_getD]
      simp [vals, List.getElem?_eq_getElem hqx]
     rw [hz] at hcy
     have htk := zdq (List.getElem?_eq_getElem hqx)
     have hxq := List.getElem?_eq_getElem hqx
     generalize xs[q] = z at hcy htk hxq
     obtain ⟨fn, tmps, assign, body, hyy, hR⟩ := hY (pre ++ xs.take q) z _ hJq (by rw [List.length_append, List.length_take]; have := congrArg List.length HM'.out; simp only [vals, List.length_append, List.length_map] at this; omega)
     simp only [encX] at hyy
     have HT := Lib.hid htk
     clear hY hz htk hxq hxs
     gi_wp2
     refine hR.mono ?_
     rintro e W5 (⟨rfl, hJ3, hk3⟩ | ⟨rfl, hJx3⟩)
     ·have n1 := Lib.hid (hk3.2 B1 _ _ _ HB1.out (by decide) (by decide))
      have n2 := Lib.hid ((hk3.1.2 B2 (by simp) (zbk HB2.out)).trans HB2.out)
      have n3 := Lib.hid (hk3.2 bxn _ _ _ HBX.out (by decide) (by decide))
      gi_wp2
      go_roundw
      case rel => exact ⟨q + 1, by first | rfl | go_num, by omega, by rw [HT.out, ← List.append_assoc]; exact hJ3, n1, n2, n3, hb.trans hk3.1.1⟩
      case measure => simp [Go.RowKit.intOf]; omega
     ·gi_wp2
      refine bodyPost_ret (results_none rfl _ _ _) rfl ?_
      exact ⟨⟨_, rfl⟩, .inr ⟨_, trivial, hJx3⟩⟩
    ·obtain rfl : q = Sy.length := by omega
     have hall : xs.take Sy.length = xs := List.take_of_length_le (by omega)
     rw [hall] at hJq
     have hvp : vals (pre ++ xs) = vals pre ++ Sy := by rw [← hxs]; simp [vals]
     gi_wp2
     rename_i K8 hK8
     have hbd : Below u.heap.size u wr.drew := za4 hb
     obtain ⟨_, e4, km⟩ := Kd.zf5 EMP.out y.1 hy0 hy1
     cases e4
     have hHeld : (fun X => X.cell? ⟨B1, 0, none⟩ = some (.pointer (some ⟨G.sb, 0, none⟩)) ∧ X.cell? ⟨G.sb, 4, none⟩ = some (.slice (some ade) G.N G.ce) ∧ X.cell? ⟨bxn, 0, none⟩ = some (.int .i64 y.1) ∧ X.cell? (ade.add y.1.toNat) = some (.bool (at_ em y.1))) wr.drew := ⟨zab (zah HB1.out) 0, zad hbd (zab BLK.out 4), zab (zah HBX.out) 0, zad hbd km⟩
     have Jd : J (pre ++ xs) wr.drew := hJ _ _ _ hJq Turn.drew
     refine wpIn_wide.2 (Ahd.zcy (zbl (S := (fun X => X.cell? ⟨B1, 0, none⟩ = some (.pointer (some ⟨G.sb, 0, none⟩)) ∧ X.cell? ⟨G.sb, 4, none⟩ = some (.slice (some ade) G.N G.ce) ∧ X.cell? ⟨bxn, 0, none⟩ = some (.int .i64 y.1) ∧ X.cell? (ade.add y.1.toNat) = some (.bool (at_ em y.1)))) (ds := []) (Ymk 9 0) (by kernel_rfl) rfl rfl hHeld (fun h0_ => ?_)))
     clear h0_
     refine Ytk 0 42 9 1 hHeld ?_
     refine Ypk 1 43 9 3 ?_
     refine Ypk 2 44 9 7 ?_
     refine Ytk 3 45 9 15 hHeld ?_
     refine Ypk 4 46 9 31 ?_
     refine Ytk 5 47 9 63 hHeld ?_
     refine Ypk 6 48 9 127 ?_
     refine Ytk 7 49 9 255 hHeld ?_
     refine Ypk 8 50 9 511 ?_
     refine zbq (by kernel_rfl) ?_
     refine hK8 _ _ ?_
     clear hK8 hHeld
     obtain ⟨eb, heb⟩ : ∃ eb, at_ em y.1 = eb := ⟨_, rfl⟩
     rw [heb]
     have hM := HM'.out
     rw [heb] at hM
     have n1 := Lib.hid (zah HB1.out)
     have n2 := Lib.hid (zah HB2.out)
     cases eb with
     | true =>
      rw [if_pos rfl, ← List.append_assoc, ← hvp] at hM
      have HN := Lib.hid hM
      clear hM HM' hJq
      gi_wp2
      go_roundw
      case rel => exact ⟨j + 1, pre ++ xs, by first | rfl | go_num, by omega, Jd, by rw [List.length_append, Nat.succ_mul]; omega, HN, n1, n2, hbd⟩
      case measure => simp [Go.RowKit.intOf]; omega
     | false =>
      rw [if_neg (by decide), List.append_nil, ← hvp] at hM
      have HN := Lib.hid hM
      clear hM HM' hJq
      gi_wp2
      refine bodyPost_ret (results_none rfl _ _ _) rfl ?_
      exact ⟨⟨_, rfl⟩, .inl ⟨_, HN.out, Jd⟩⟩
  ·obtain rfl : j = rest.length := by omega
   have hM := HM.out
   rw [List.drop_length] at hM
   simp only [zda] at hM
   have hM2 : vals (pre ++ [⟨x.2.2, h4⟩]) = zda em Ss x.2.2 rest := by rw [vals_app1]; exact hM
   have k2 : wr.cell? ⟨B2, 2, none⟩ = some (.int .i64 x.2.2) := zab HB2.out 2
   obtain ⟨fn, tmps, assign, body, hyy, hR⟩ := hY pre ⟨x.2.2, h4⟩ _ hJs (by have := congrArg List.length hM; simp only [vals, List.length_append, List.length_map, List.length_cons, List.length_nil] at this; omega)
   simp only [encX] at hyy
   have HN := Lib.hid hM2
   clear hM hM2 HM hY
   gi_wp2
   refine hR.mono ?_
   rintro e W5 (⟨rfl, hJ3, hk3⟩ | ⟨rfl, hJx3⟩)
   ·gi_wp2
    go_end0
    exact ⟨⟨_, rfl⟩, .inl ⟨_, HN.out, hJ3⟩⟩
   ·gi_wp2
    go_end0
    exact ⟨⟨_, rfl⟩, .inr ⟨_, trivial, hJx3⟩⟩
end Go.Proofs.ZZ.LLooks
end
section
namespace Go.Proofs
open Go.Shelf
def Tryz.YtgdmjpehofdnpaaGreatsortL_ren : Go.Shelf.Ren := ⟨fun | 6 => 62 | 15 => 82 | 14 => 81 | 28 => 100 | 29 => 101 | 20 => 92 | 21 => 93 | 22 => 94 | 23 => 95 | 24 => 96 | 25 => 97 | 26 => 98 | 27 => 99 | 46 => 104 | 47 => 105 | 48 => 106 | 49 => 107 | 50 => 108 | 57 => 118 | n => n, fun | 22 => 45 | 24 => 50 | 25 => 86 | 3 => 3 | 39 => 116 | 0 => 0 | 53 => 131 | 55 => 38 | 4 => 4 | 46 => 125 | 45 => 124 | 50 => 51 | 5 => 5 | 9 => 9 | 66 => 134 | 70 => 138 | 76 => 146 | 77 => 147 | n => n, fun | n => n⟩
theorem Tryz.YtgdmjpehofdnpaaGreatsortL : Go.Proofs.SlLaysF0.n6 Tryz.prog Tryz.YtgdmjpehofdnpaaGreatsortL_ren := {
 mixed := by kernel_rfl
 f6 := ⟨Tryz.f62.name, by decide, Tryz.func62.trans (congrArg some (by kernel_rfl))⟩
 f14 := ⟨Tryz.f81.name, by decide, Tryz.func81.trans (congrArg some (by kernel_rfl))⟩
 f15 := Tryz.func82.trans (congrArg some (by kernel_rfl))
 f20 := ⟨Tryz.f92.name, by decide, Tryz.func92.trans (congrArg some (by kernel_rfl))⟩
 f21 := ⟨Tryz.f93.name, by decide, Tryz.func93.trans (congrArg some (by kernel_rfl))⟩
 f22 := ⟨Tryz.f94.name, by decide, Tryz.func94.trans (congrArg some (by kernel_rfl))⟩
 f23 := ⟨Tryz.f95.name, by decide, Tryz.func95.trans (congrArg some (by kernel_rfl))⟩
 f24 := ⟨Tryz.f96.name, by decide, Tryz.func96.trans (congrArg some (by kernel_rfl))⟩
 f25 := ⟨Tryz.f97.name, by decide, Tryz.func97.trans (congrArg some (by kernel_rfl))⟩
 f26 := ⟨Tryz.f98.name, by decide, Tryz.func98.trans (congrArg some (by kernel_rfl))⟩
 f27 := ⟨Tryz.f99.name, by decide, Tryz.func99.trans (congrArg some (by kernel_rfl))⟩
 f28 := Tryz.func100.trans (congrArg some (by kernel_rfl))
 f29 := Tryz.func101.trans (congrArg some (by kernel_rfl))
 f46 := ⟨Tryz.f104.name, by decide, Tryz.func104.trans (congrArg some (by kernel_rfl))⟩
 f47 := Tryz.func105.trans (congrArg some (by kernel_rfl))
 f48 := Tryz.func106.trans (congrArg some (by kernel_rfl))
 f49 := ⟨Tryz.f107.name, by decide, Tryz.func107.trans (congrArg some (by kernel_rfl))⟩
 f50 := ⟨Tryz.f108.name, by decide, Tryz.func108.trans (congrArg some (by kernel_rfl))⟩
 f57 := ⟨Tryz.f118.name, by decide, Tryz.func118.trans (congrArg some (by kernel_rfl))⟩
 t0 := Tryz.underlying0
 a0 := Tryz.isAgg0
 z0 := Tryz.sizeOf0
 v0 := Tryz.zeroValue0
 t3 := Tryz.underlying3
 a3 := Tryz.isAgg3
 z3 := Tryz.sizeOf3
 v3 := Tryz.zeroValue3
 t4 := Tryz.underlying4
 a4 := Tryz.isAgg4
 z4 := Tryz.sizeOf4
 v4 := Tryz.zeroValue4
 t5 := Tryz.underlying5
 a5 := Tryz.isAgg5
 z5 := Tryz.sizeOf5
 v5 := Tryz.zeroValue5
 t9 := Tryz.underlying9
 a9 := Tryz.isAgg9
 z9 := Tryz.sizeOf9
 v9 := Tryz.zeroValue9
 t22 := Tryz.underlying45
 a22 := Tryz.isAgg45
 z22 := Tryz.sizeOf45
 v22 := Tryz.zeroValue45
 t25 := Tryz.underlying86
 a25 := Tryz.isAgg86
 z25 := Tryz.sizeOf86
 v25 := Tryz.zeroValue86
 t39 := Tryz.underlying116
 a39 := Tryz.isAgg116
 z39 := Tryz.sizeOf116
 v39 := Tryz.zeroValue116
 t45 := Tryz.underlying124
 a45 := Tryz.isAgg124
 z45 := Tryz.sizeOf124
 v45 := Tryz.zeroValue124
 t46 := Tryz.underlying125
 a46 := Tryz.isAgg125
 z46 := Tryz.sizeOf125
 v46 := Tryz.zeroValue125
 t50 := Tryz.underlying51
 a50 := Tryz.isAgg51
 z50 := Tryz.sizeOf51
 v50 := Tryz.zeroValue51
 t53 := Tryz.underlying131
 a53 := Tryz.isAgg131
 z53 := Tryz.sizeOf131
 v53 := Tryz.zeroValue131
 t55 := Tryz.underlying38
 a55 := Tryz.isAgg38
 z55 := Tryz.sizeOf38
 v55 := Tryz.zeroValue38
 t66 := Tryz.underlying134
 a66 := Tryz.isAgg134
 z66 := Tryz.sizeOf134
 v66 := Tryz.zeroValue134
 t70 := Tryz.underlying138
 a70 := Tryz.isAgg138
 z70 := Tryz.sizeOf138
 v70 := Tryz.zeroValue138
 t76 := Tryz.underlying146
 a76 := Tryz.isAgg146
 z76 := Tryz.sizeOf146
 v76 := Tryz.zeroValue146
 t77 := Tryz.underlying147
 a77 := Tryz.isAgg147
 z77 := Tryz.sizeOf147
 v77 := Tryz.zeroValue147 }
end Go.Proofs
end
section
namespace Go.Proofs.ZZ.SortK
open Go Go.RowKit Go.Sort Go.Proofs.ZW.PrintWords
theorem zih {k i j : Nat} (h : j < k) : (i * k + j) / k = i ∧ (i * k + j) % k = j := by
 constructor
 ·rw [Nat.mul_comm, Nat.mul_add_div (by omega), Nat.div_eq_of_lt h, Nat.add_zero]
 ·rw [Nat.mul_comm, Nat.mul_add_mod, Nat.mod_eq_of_lt h]
section
variable {α : Type} [Inhabited α] {enc : α → List Value} {k : Nat}
theorem flat_of_reps (hk : ∀ x, (enc x).length = k) {l : List α} {inner : List Value} (h : Reps (fun x cs => cs = enc x) k l inner) : inner = (flatK enc k l.toArray).toList := by
 have hs : (flatK enc k l.toArray).toList.length = l.length * k := by simp
 refine List.ext_getElem (by rw [h.1, hs]) fun t h1 h2 => ?_
 have ht : t < l.length * k := by rw [← h.1]; exact h1
 have k0 : 0 < k := by
  rcases Nat.eq_zero_or_pos k with e | e
  ·subst e; omega
  ·exact e
 have hq : t / k < l.length := Nat.div_lt_of_lt_mul (by rw [Nat.mul_comm]; exact ht)
 have hr := h.2 (t / k) l[t / k] (List.getElem?_eq_getElem hq)
 have hm : t % k < k := Nat.mod_lt _ k0
 have hd : t / k * k + t % k = t := by rw [Nat.mul_comm]; exact Nat.div_add_mod t k
 have e1 : ((inner.drop (t / k * k)).take k)[t % k]? = some inner[t] := by
  rw [List.getElem?_take_of_lt hm, List.getElem?_drop, hd, List.getElem?_eq_getElem h1]
 have e2 : (enc l[t / k])[t % k]? = some inner[t] := by rw [← hr]; exact e1
 have e3 : (flatK enc k l.toArray)[t]! = inner[t] := by
  rw [get_flatK _ _ _ _ (by simpa using ht)]
  have : l.toArray[t / k]! = l[t / k] := by simp [hq]
  rw [this, getElem!_def, e2]
 have hft : t < (flatK enc k l.toArray).size := by simpa using ht
 have e4 : (flatK enc k l.toArray).toList[t] = inner[t] := by rw [← e3, getElem!_pos (flatK enc k l.toArray) t hft]; rfl
 exact e4.symm
theorem reps_of_flat (hk : ∀ x, (enc x).length = k) (l : List α) : Reps (fun x cs => cs = enc x) k l (flatK enc k l.toArray).toList := by
 have hs : (flatK enc k l.toArray).toList.length = l.length * k := by simp
 refine ⟨hs, fun j p hj => ?_⟩
 obtain ⟨hj', hp⟩ := List.getElem?_eq_some_iff.1 hj
 have hb : j * k + k ≤ l.length * k := by rw [← Nat.succ_mul]; exact Nat.mul_le_mul_right _ hj'
 refine List.ext_getElem (by rw [List.length_take, List.length_drop, hs, hk]; omega) fun t h1 h2 => ?_
 rw [List.length_take] at h1
 have htk : t < k := by omega
 rw [List.getElem_take, List.getElem_drop, Array.getElem_toList]
 have e := get_flatK enc k l.toArray (j * k + t) (by simp; omega)
 rw [getElem!_pos _ _ (by simp; omega), (zih htk).1, (zih htk).2] at e
 rw [e]
 have : l.toArray[j]! = p := by simp [hj', hp]
 rw [this, getElem!_pos]
end
section
variable {P : Program} {α : Type} [Inhabited α]
theorem sortK_of (d : Kd α) (enc : α → List Value) (e : TypeId) (hM : ∀ w base ok x cs, d.M w base ok x cs ↔ cs = enc x) (hk : ∀ x, (enc x).length = d.sz) (f : FuncId) (fv : Value) (T : Array α → Array α)
  (hT : ∀ dd, (T dd).size = dd.size)
  (hN : ∀ (p : Option Addr) (cap : Nat) (w : World), Calls P f #[.slice p 0 cap, fv] w fun e w' => e = .returned (.tuple #[]) ∧ w' = w)
  (hS : ∀ (blk cap : Nat) (dd : Array α) (w : World), HoldsK enc d.sz w blk 0 dd → blk < w.heap.size → dd.size < 4611686018427387904 →
   Calls P f #[.slice (some ⟨blk, 0, none⟩) dd.size cap, fv] w fun e w' => e = .returned (.tuple #[]) ∧ ∃ n os, w' = sortWorldK enc d.sz w blk 0 n (T dd) os)
  (P0 : Nat → Prop) (u : Value) (l : List α) (w0 w : World) (hB : Below w0.heap.size w0 w) (ho : Kd.R d e w w0.heap.size P0 u l) (hlt : l.length < 4611686018427387904) :
  Calls P f #[u, fv] w fun en w' => en = .returned (.tuple #[]) ∧ Kd.R d e w' w0.heap.size (fun k => P0 k ∨ w.heap.size ≤ k) u (T l.toArray).toList ∧ Below w0.heap.size w0 w' ∧ Kept w w' (fun k => P0 k) := by
 obtain ⟨h0, inner, ho, hr⟩ := ho
 have hr' : Reps (fun x cs => cs = enc x) d.sz l inner := hr.imp_ (fun _ _ h => (hM _ _ _ _ _).1 h)
 have hfl := flat_of_reps hk hr'
 have fin : ∀ W, W = w → l = [] → Kd.R d e W w0.heap.size (fun k => P0 k ∨ w.heap.size ≤ k) u (T l.toArray).toList := by
  rintro W rfl rfl
  have : (T ([] : List α).toArray).toList = [] := by
   have := hT ([] : List α).toArray
   exact List.eq_nil_of_length_eq_zero (by rw [Array.length_toList, this]; rfl)
  rw [this]
  exact ⟨fun k hk => .inl (h0 k hk), inner, ho, hr.imp_ (fun _ _ h => (hM _ _ _ _ _).2 ((hM _ _ _ _ _).1 h))⟩
 rcases ho.2 with ⟨rfl, hn⟩ | ⟨g, cap, cur, rfl, hg, hh, hcap, hmax, hsz, htk⟩
 ·have hl : l = [] := List.eq_nil_of_length_eq_zero hn
  refine (hN none 0 w).mono ?_
  rintro en w' ⟨rfl, rfl⟩
  exact ⟨rfl, fin _ rfl hl, hB, Kept.refl _ _⟩
 ·have hglt : g < w.heap.size := zbk hh
  by_cases hl : l = []
  ·have e0 : l.length = 0 := by rw [hl]; rfl
   rw [e0]
   refine (hN (some ⟨g, 0, none⟩) cap w).mono ?_
   rintro en w' ⟨rfl, rfl⟩
   refine ⟨rfl, ?_, hB, Kept.refl _ _⟩
   have := fin _ rfl hl
   rw [e0] at this
   exact this
  ·have hsl : l.toArray.size = l.length := by simp
   have hH : HoldsK enc d.sz w g 0 l.toArray := by
    intro j hj
    rw [size_flatK, hsl] at hj
    refine ⟨?_, by simp [World.frozen?, hh]⟩
    have e1 : (cur.toList.take (l.length * d.sz))[j]? = some ((flatK enc d.sz l.toArray)[j]!) := by
     rw [htk, hfl, Array.getElem?_toList, getElem!_pos _ _ (by simpa using hj), Array.getElem?_eq_getElem]
    rw [List.getElem?_take_of_lt hj, Array.getElem?_toList] at e1
    simp only [World.cell?, hh, Nat.zero_add]
    simp only [Option.isSome_none, Bool.false_eq_true, if_false]
    rw [e1]
    rfl
   have hc := hS g cap l.toArray w hH hglt (by rw [hsl]; exact hlt)
   rw [hsl] at hc
   refine hc.mono ?_
   rintro en w' ⟨rfl, n, os, rfl⟩
   have hTs : (T l.toArray).toList.length = l.length := by rw [Array.length_toList, hT, hsl]
   have hheap : ∀ i, i < w.heap.size → i ≠ g → (sortWorldK enc d.sz w g 0 n (T l.toArray) os).heap[i]? = w.heap[i]? := by
    intro i hi hne
    unfold sortWorldK
    rw [heap_grow_old _ _ (by simpa [putRowK, putRow, mapBlock, Sort.ahead] using hi)]
    simp [putRowK, putRow, mapBlock, Sort.ahead, Array.getElem?_modify, Ne.symm hne]
   have hhg : (sortWorldK enc d.sz w g 0 n (T l.toArray) os).heap[g]? = some (.cells (putCells id 0 (flatK enc d.sz (T l.toArray)) cur) e (0, 0)) := by
    unfold sortWorldK
    rw [heap_grow_old _ _ (by simpa [putRowK, putRow, mapBlock, Sort.ahead] using hglt)]
    simp [putRowK, putRow, mapBlock, Sort.ahead, Array.getElem?_modify, hh, onCells]
   have hsize : w.heap.size ≤ (sortWorldK enc d.sz w g 0 n (T l.toArray) os).heap.size := by
    simp [sortWorldK, putRowK, putRow, mapBlock, Sort.ahead]
   refine ⟨rfl, ⟨fun k hk => .inl (h0 k hk), (flatK enc d.sz (T l.toArray)).toList, ⟨?_, .inr ⟨g, cap, _, ?_, hg, hhg, ?_, hmax, ?_, ?_⟩⟩, ?_⟩, ?_, hsize, ?_⟩
   ·rw [Array.length_toList, size_flatK, hTs, hT, hsl]
   ·rw [hTs]
   ·rw [hTs]; exact hcap
   ·simpa [putCells] using hsz
   ·have hfs : (flatK enc d.sz (T l.toArray)).size = l.length * d.sz := by rw [size_flatK, hT, hsl]
    have hle : l.length * d.sz ≤ cur.size := by rw [hsz]; exact Nat.mul_le_mul_right _ hcap
    rw [hTs]
    refine List.ext_getElem (by rw [Array.length_toList (xs := flatK enc d.sz (T l.toArray)), hfs, List.length_take, Array.length_toList (xs := putCells id 0 (flatK enc d.sz (T l.toArray)) cur)]; simp only [putCells, Array.size_mapIdx]; omega) fun t h1 h2 => ?_
    have ht : t < l.length * d.sz := by simpa [hfs] using h2
    rw [List.getElem_take, Array.getElem_toList, Array.getElem_toList]
    simp only [putCells, Array.getElem_mapIdx]
    rw [if_pos (by omega), Nat.sub_zero, getElem!_pos _ _ (by omega)]
    rfl
   ·have := reps_of_flat (enc := enc) hk (T l.toArray).toList
    simp only [Array.toArray_toList] at this
    exact this.imp_ (fun _ _ h => (hM _ _ _ _ _).2 h)
   ·refine ⟨hB.os, hB.tape, hB.output, Nat.le_trans hB.size hsize, fun i hi => ?_⟩
    rw [hheap i (Nat.lt_of_lt_of_le hi hB.size) (by omega)]
    exact hB.block i hi
   ·intro i hi hn
    exact hheap i hi (fun e => hn (by rw [e]; exact h0 g (by simp [Value.ownBlock])))
end
end Go.Proofs.ZZ.SortK
end
section
namespace Go.Proofs.ZZ.LKeys
open Go Go.RowKit Go.Shelf Go.Maps Go.Proofs.ZW.PrintWords Go.Proofs.ZZ.Round Go.Proofs.ZZ.RangeG Go.Proofs.ZZ.Fl Go.Proofs.ZZ.RangeH Go.Proofs.ZZ.LrK Go.Proofs.ZZ.GMap Go.Proofs.ZZ.LSeq
attribute [local go_sem] Oper.semAt_some
abbrev TM : TypeId := 78
theorem lrV_inj {x y : Lr} (h : lrV x = lrV y) : x = y := by
 simp only [lrV, lrA, Value.agg.injEq, Array.mk.injEq, List.cons.injEq, Value.int.injEq, true_and, and_true] at h
 obtain ⟨h1, h2, h3⟩ := h
 exact Prod.ext h1 (Prod.ext h2 h3)
def zdt {H : Type} (D0 : DataW H) (left : Lit → Bool) (ss : List Lr) : Prop := ss.Nodup ∧ ∀ x, lrOk x → (x ∈ ss ↔ (has D0 (lrL x) = true ∧ left (lrL x) = false))
section
variable {H : Type} {D0 : DataW H} {left : Lit → Bool} {ss : List Lr}
theorem zdt.start (D0 : DataW H) : zdt D0 (has D0) [] := ⟨List.nodup_nil, fun x _ => by cases has D0 (lrL x) <;> simp⟩
theorem zdt.step (h : zdt D0 left ss) {x : Lr} (hx : lrOk x) {y : DataW H} (hlk : left (lrL x) = true) (hat : ∀ zd, D0.atKey (lrL x) zd = y) : zdt D0 (fun z => left z && !z.sameKey (lrL x)) (ss ++ [x]) := by
 have hhas : has D0 (lrL x) = true := has_true_of_atKey hat
 have hnew : x ∉ ss := fun hm => by have := ((h.2 x hx).1 hm).2; rw [hlk] at this; cases this
 have hself : (lrL x).sameKey (lrL x) = true := WideAt.sameKey_self (law.key (zia hx))
 refine ⟨List.nodup_append.2 ⟨h.1, by simp, fun a ha b hb => by simp at hb; subst hb; exact fun e => hnew (e ▸ ha)⟩, fun y hyo => ?_⟩
 by_cases hy : y = x
 ·subst hy
  simp [hhas, hself]
 ·have hne : (lrL y).sameKey (lrL x) = false := by
   cases e : (lrL y).sameKey (lrL x) with
   | false => rfl
   | true => exact absurd (lrL_inj hyo hx (WideAt.sameKey_eq e)) hy
  simp [h.2 y hyo, hy, hne]
end
theorem keysL_stops (n B b : Nat) (hn : 1 ≤ n) (M : List (Lr × Value)) (n₀ : Nat) (Ls : List Nat) (w : World) (hb : b < w.heap.size) (hS : MapAt keyL b M w) (hB : w.heap[B]? = some (.cells #[.map (some b)] TM (0, 0))) :
  SeqG n Tryz.prog 63 #[.pointer (some ⟨B, 0, none⟩)] encL (KeepV n₀ Ls) (fun _ => False) (fun ys => (zdj ys).Nodup ∧ ∀ x, x ∈ zdj ys ↔ x ∈ M.map (·.1)) (fun pre => True) M.length w := by
 intro L J Jx W hW hJ hJx hY h0
 have hBW := hW.same B _ hB (fun h => h) (.inr rfl)
 obtain ⟨es0, ck0, hblk0⟩ := hS.block
 have hSW : MapAt keyL b M W := hS.keep ((hW.same b _ hblk0 (fun h => h) (.inl hb)).trans hblk0.symm)
 have cB : W.cell? ⟨B, 0, none⟩ = some (.map (some b)) := zab hBW 0
 obtain ⟨h1, h2, D, hown, hsz, hhas⟩ := hSW
 have HH := Lib.hid hhas
 have H2 := Lib.hid h2
 clear hW hB hBW hS hblk0 hhas h2
 refine callsIn_of_wp Tryz.func63 rfl trivial ?_ rfl
 simp only [Tryz.ntmps63, List.size_toArray, List.length_cons, List.length_nil, Nat.reduceAdd, Nat.reduceSub, Array.replicate_succ, Array.replicate_zero, List.push_toArray, List.append_toArray, List.nil_append, List.cons_append]
 gi_wp2_with (first
  | (gi_at_range; refine wpListIn_range_own _ rfl _ TM rfl TL 4 law Tryz.underlying78 _ b M.length _ rfl hown ?_; intro w0 hrg0 hg0 hs0)
  | gi_in)
 go_frame
 gi_loopw [3] (fun _ wr => ∃ (left : Lit → Bool) (cnt : Nat) (ss : List LrX), wr.ranges Tryz.prog TL rawR b W.heap.size M.length D left cnt ∧ ss.length + cnt ≤ M.length ∧ zdt D left (zdj ss) ∧ J ss wr)
  (fun _ wr => wr.rangeLeft b W.heap.size)
 case atStart =>
  exact ⟨_, _, [], hrg0, by simp [hsz], zdt.start D, hJ _ _ _ h0 (Turn.grown hg0 (fun k e => by cases e))⟩
 case round =>
  obtain ⟨left, cnt, ss, hrg, hcs, hC, hJs⟩ := hrel
  gi_wp2_with (first
   | (gi_at_next; refine wpListIn_next_ranges _ rfl _ rfl TL law rawR lrV id (fun key kl hk => by obtain ⟨x, _, hx, _⟩ := lr_inv hk; exact ⟨x, hx⟩) (fun v _ _ => ⟨v, rfl⟩) b W.heap.size M.length _ _ _ rfl hrg ?_ ?_)
   | gi_in)
  ·intro hc0 hl0
   gi_wp2
   go_end0
   refine ⟨⟨_, rfl⟩, .inl ⟨ss, ⟨hC.1, fun x => ?_⟩, hJs⟩⟩
   constructor
   ·intro hx
    obtain ⟨q, hq, rfl⟩ := List.mem_map.1 hx
    have := ((hC.2 q.1 q.2).1 hx).1
    have e9 : has D (lrL q.1) = (GMap.look M q.1).isSome := (HH.out q.1 q.2).1
    rw [e9] at this
    exact zhk.1 this
   ·intro hx
    obtain ⟨q, hq, rfl⟩ := List.mem_map.1 hx
    have hok := H2.out q hq
    refine (hC.2 q.1 hok).2 ⟨?_, hl0 _⟩
    have e9 : has D (lrL q.1) = (GMap.look M q.1).isSome := (HH.out q.1 hok).1
    rw [e9]
    exact zhk.2 hx
  ·intro x1 x2 x3 c kl yd yp w2 cnt2 hkey hlk hv hat hrg2 hlt hg2 hs2 hen
   obtain ⟨x, hx⟩ : ∃ x : Lr, (x1, x2, x3) = x := ⟨_, rfl⟩
   rw [hx] at hkey hen ⊢
   clear hx
   obtain ⟨x', hwf, ex, rfl⟩ := lr_inv hkey
   obtain rfl : x = x' := lrV_inj ex
   have hJ2 : J ss w2 := hJ _ _ _ hJs (Turn.grown hg2 (fun r e => by cases e; exact .inr ⟨Nat.le_refl _, hrg.iter_walk.imp (fun o h => ⟨h.1, Obj.not_cells_of_walk h.2⟩)⟩))
   have hJ3 : J ss (w2.alloc (.cells (lrA x) TL)) := hJ _ _ _ hJ2 (Turn.alloc _)
   obtain ⟨fn, tmps, assign, body, hy, hR⟩ := hY ss ⟨x, hwf⟩ _ hJ3 (by omega)
   have hrg2a : (w2.alloc (.cells (lrA x) TL)).ranges Tryz.prog TL rawR b W.heap.size M.length D (fun z => left z && !z.sameKey (lrL x)) cnt2 := hrg2.of_walks (KeepsWalks.alloc _ _)
   simp only [encL, lrV, lrA] at hy hR
   have hC2 : zdt D (fun z => left z && !z.sameKey (lrL x)) (zdj (ss ++ [⟨x, hwf⟩])) := by
    have := hC.step hwf hlk hat
    simpa [zdj] using this
   simp only [lrV, lrA, id] at hen ⊢
   simp only [lrA] at hrg2a
   clear hs2
   gi_wp2
   refine hR.mono ?_
   rintro e W3 (⟨rfl, hJ4, hk3⟩ | ⟨rfl, hJx3⟩)
   ·gi_wp2
    have hrg3 := hrg2a.of_walks hk3.2
    go_roundw
    case rel => exact ⟨_, cnt2, ss ++ [⟨x, hwf⟩], hrg3, by simp; omega, hC2, hJ4⟩
    case measure => rw [hrg3.left_eq, hrg.left_eq]; exact hlt
   ·gi_wp2
    refine bodyPost_ret (results_none rfl _ _ _) rfl ?_
    exact ⟨⟨_, rfl⟩, .inr ⟨ss ++ [⟨x, hwf⟩], trivial, hJx3⟩⟩
theorem keysL_calls (mb : Option Nat) (w : World) : Calls Tryz.prog 51 #[.map mb] w fun e w' => e = .returned (.func (.func 63) #[] #[.pointer (some ⟨w.heap.size, 0, none⟩)]) ∧ w.alloc (.cells #[.map mb] TM) = w' := by
 go_enter Tryz.func51, Tryz.ntmps51
 go_wp2;go_ret
 exact ⟨rfl, rfl⟩
end Go.Proofs.ZZ.LKeys
end
section
namespace Go.Proofs.ZZ.LSort
open Go Go.RowKit Go.Shelf Go.Maps Go.Sort Go.Proofs.ZW.PrintWords Go.Proofs.ZZ.Round Go.Proofs.ZZ.RangeG Go.Proofs.ZZ.Fl Go.Proofs.ZZ.RangeH Go.Proofs.ZZ.LrK Go.Proofs.ZZ.GMap Go.Proofs.ZZ.LSeq Go.Proofs.ZZ.LOrd Go.Proofs.ZZ.LLex Go.Proofs.ZZ.LKeys
def encO (x : Lr) : List Value := (lrA x).toList
theorem ltO (x y : Lr) : ltOf cmpL x y = decide (bef x y) := by
 unfold ltOf
 by_cases h : bef x y
 ·rw [decide_eq_true h, decide_eq_true ((cmpL_lt x y).2 h)]
 ·rw [decide_eq_false h, decide_eq_false (fun g => h ((cmpL_lt x y).1 g))]
theorem swoO : SWO (ltOf cmpL) where
 irrefl x := by rw [ltO]; exact decide_eq_false (zdh x)
 trans x y z h1 h2 := by rw [ltO] at *; exact decide_eq_true (zfg (of_decide_eq_true h1) (of_decide_eq_true h2))
 ntrans x y z h1 h2 := by rw [ltO] at *; exact decide_eq_false (bef_ntrans (of_decide_eq_false h1) (of_decide_eq_false h2))
def zf2 (l : List Lr) : List Lr := (pdq (ltOf cmpL) l.toArray 0 l.toArray.size (Lib.bitLen l.toArray.size) true true).toList
theorem zjo (l : List Lr) : (zf2 l).Perm l ∧ (zf2 l).Pairwise (fun a b => ¬ bef b a) := by
 have hs := pdq_sorts (ltOf cmpL) swoO l.toArray 0 l.toArray.size (Lib.bitLen l.toArray.size) true true (Nat.zero_le _) (Nat.le_refl _) (.inl rfl)
 obtain ⟨⟨h1, h2, h3⟩, h4⟩ := hs
 clear h2
 unfold zf2
 generalize hd : pdq (ltOf cmpL) l.toArray 0 l.toArray.size (Lib.bitLen l.toArray.size) true true = d at *
 refine ⟨?_, ?_⟩
 ·have e1 : d.extract 0 l.toArray.size = d := by rw [← h1]; simp
  have e2 : l.toArray.extract 0 l.toArray.size = l.toArray := by simp
  rw [e1, e2] at h3
  simpa using h3
 ·rw [List.pairwise_iff_getElem]
  intro i j hi hj hij
  have hi' : i < d.size := by simpa using hi
  have hj' : j < d.size := by simpa using hj
  have := h4 i j (by omega) hij (by omega)
  rw [ltO, getElem!_pos d i hi', getElem!_pos d j hj'] at this
  simpa only [decide_eq_false_iff_not, Array.getElem_toList] using this
theorem sortO_rises {l : List Lr} (h : l.Nodup) : zdb (zf2 l) := by
 obtain ⟨hp, hs⟩ := zjo l
 have hn : (zf2 l).Nodup := hp.nodup_iff.2 h
 refine (hs.and hn).imp ?_
 rintro a b ⟨h1, h2⟩
 exact Decidable.not_not.1 fun g => h2 (bef_tri g h1)
theorem sortO_mem (l : List Lr) (x : Lr) : x ∈ zf2 l ↔ x ∈ l := (zjo l).1.mem_iff
theorem sortL_calls (P0 : Nat → Prop) (v : Value) (l : List Lr) (w0 w : World) (hB : Below w0.heap.size w0 w) (ho : Kd.R kLr TL w w0.heap.size P0 v l) (hl : l.length < 4611686018427387904) :
  Calls Tryz.prog 62 #[v, .func (.func 52) #[] #[]] w fun e w' => e = .returned (.tuple #[]) ∧ Kd.R kLr TL w' w0.heap.size (fun k => P0 k ∨ w.heap.size ≤ k) v (zf2 l) ∧ Below w0.heap.size w0 w' ∧ Kept w w' (fun k => P0 k) := by
 have eg : ∀ args w, (callFunc 52 args).run Tryz.prog w = .ok (.enter 52 args) w := enters_of Tryz.func52 (by kernel_rfl) rfl
 exact SortK.sortK_of kLr encO TL (fun w base ok x cs => kLr_M w base ok x cs) (fun _ => rfl) 62 _
  (fun dd => pdq (ltOf cmpL) dd 0 dd.size (Lib.bitLen dd.size) true true) (fun dd => (pdq_sorts (ltOf cmpL) swoO dd 0 dd.size (Lib.bitLen dd.size) true true (Nat.zero_le _) (Nat.le_refl _) (Or.inl rfl)).1.1)
  (fun p cap w => AnyF.slices_SortFunc_none Tryz.YtgdmjpehofdnpaaGreatsortL p cap _ w)
  (fun blk cap dd w hH hb hs => AnyQ.slices_SortFunc_eq Tryz.YtgdmjpehofdnpaaGreatsortL 3 Tryz.isAgg50 Tryz.sizeOf50 encO (fun _ => rfl) (fun x v hv => by simp [encO, lrA] at hv; rcases hv with rfl | rfl | rfl <;> rfl) cmpL swoO _ #[] blk 0 cap dd w eg (fun _ _ _ _ x y => order_calls x y _) hH hb hs)
  P0 v l w0 w hB ho hl
theorem zj4 (gf : Nat) (lb : Array Value) (heg : ∀ args w, (callFunc gf args).run Tryz.prog w = .ok (.enter gf args) w) (w : World)
  (S Sp : List LrX → Prop) (N : Nat) (hN : N ≤ 1000000000000) (hseq : SeqH 2 Tryz.prog gf lb encL (KeepU w.heap.size) S Sp N w) :
  Calls Tryz.prog 50 #[.func (.func gf) #[] lb, .func (.func 52) #[] #[]] w fun e w' => ∃ v xs, e = .returned v ∧ S xs ∧ xs.length ≤ N ∧ Kd.R kLr TL w' w.heap.size (fun _ => True) v (zf2 (zdj xs)) ∧ Below w.heap.size w w' := by
 have hc := zju gf lb heg w S Sp N hN hseq
 go_enter Tryz.func50, Tryz.ntmps50
 go_wp2_with (first
  | (go_at_call 61; refine hc.mono ?_; rintro e w1 ⟨v, xs, rfl, h1, h2, h3, h4⟩; have hl : (zdj xs).length = xs.length := by { simp [zdj] }; have hs := sortL_calls (fun _ => True) v (zdj xs) w w1 h4 (own_R3 (by rw [hl]; exact h3) (fun _ _ => trivial)) (by omega))
  | (go_at_call 62; refine hs.mono ?_; rintro e w2 ⟨rfl, h5, h6, h7⟩))
 go_ret
 exact ⟨v, xs, rfl, h1, h2, Kd.zba h5 (fun _ _ => trivial), h6⟩
end Go.Proofs.ZZ.LSort
end
section
namespace Go.Proofs.ZZ.LClone
open Go Go.RowKit Go.Shelf Go.Maps Go.Proofs.ZW.PrintWords Go.Proofs.ZW.PrintLast Go.Proofs.ZZ.Round Go.Proofs.ZZ.RangeG Go.Proofs.ZZ.Fl Go.Proofs.ZZ.LrK Go.Proofs.ZZ.LSeq Go.Proofs.ZZ.LLex
attribute [local go_sem] Oper.semAt_some
theorem cloneL_calls (A : Option Addr) (n c : Nat) (l : List Lr) (w : World) (hC : Kd.C kLr w A n l) (hn : n ≤ 1000000000000) :
  Calls Tryz.prog 48 #[.slice A n c] w fun e w' => ∃ v, e = .returned v ∧ Kd.R kLr TL w' w.heap.size (fun _ => True) v l ∧ Below w.heap.size w w' := by
 cases A with
 | none =>
  have hl : l = [] := by
   cases l with
   | nil => rfl
   | cons a t =>
    obtain ⟨h1, h2, h3⟩ := hC
    obtain ⟨ad, e, _⟩ := h3 (by rw [← h1]; simp)
    cases e
  subst hl
  have he : ∀ W : World, (binOp .eql 45 (.slice none n c) (.slice none 0 0)).run Tryz.prog W = .ok (.bool true) W := fun _ => rfl
  go_enter Tryz.func48, Tryz.ntmps48
  go_wp2
  refine bodyPost_ret (results_tmp rfl _ _ _) rfl ?_
  exact ⟨_, rfl, Kd.zdr _ _ _ _ _, Below.refl _ _⟩
 | some ad =>
  obtain ⟨W1, hW1⟩ : ∃ W1, w.alloc (.cells #[] 50) = W1 := ⟨_, rfl⟩
  have hB1 : Below w.heap.size w W1 := by rw [← hW1]; exact (Below.refl _ _).alloc (Nat.le_refl _) _
  have ho : W1.ownsRow w.heap.size TL 3 (.slice (some ⟨w.heap.size, 0, none⟩) 0 0) ([] : List Lr).length (zci []) := by
   refine ⟨rfl, .inr ⟨w.heap.size, 0, #[], rfl, Nat.le_refl _, ?_, Nat.le_refl _, by decide, rfl, rfl⟩⟩
   rw [← hW1]
   exact za9 w _
  have hR := own_R3 (ok := fun _ => True) ho (fun _ _ => trivial)
  have hC1 := Kd.zak hC hB1
  clear ho hC
  have he : ∀ W : World, (binOp .eql 45 (.slice (some ad) n c) (.slice none 0 0)).run Tryz.prog W = .ok (.bool false) W := fun _ => rfl
  go_enter Tryz.func48, Tryz.ntmps48
  go_wp2_with (at_builtin; (refine Kd.zb9 kLr (w0 := w) w.heap.size rfl (.tmp 5) (.tmp 6) 45 TL (.agg #[.int .i64 0, .int .i64 0, .int .i64 0]) 24 rfl Tryz.underlying45 infoLr rfl (by decide) (by decide) _ [] l (some ad) n c (fun _ => True) (fun _ => False) rfl rfl hR hC1 (fun x cs h => (kLr_M _ _ _ _ _).2 (by obtain ⟨_, _, rfl, rfl, ⟨_, _, rfl, rfl, rfl⟩⟩ := h; rfl)) (fun _ h => h.elim) (fun _ _ => trivial) hB1 (by have := hB1.size; omega) (by simp; omega) ?_); intro v6 W6 R6 hb6 hg6 _)
  refine bodyPost_ret (results_tmp rfl _ _ _) rfl ?_
  exact ⟨_, rfl, R6, hb6⟩
end Go.Proofs.ZZ.LClone
end
section
namespace Go.Proofs.ZZ.LClos
open Go Go.RowKit Go.Shelf Go.Maps Go.Proofs.ZW.PrintWords Go.Proofs.ZW.PrintLast Go.Proofs.ZZ.Round Go.Proofs.ZZ.RangeG Go.Proofs.ZZ.RangeH Go.Proofs.ZZ.Fl Go.Proofs.ZZ.Grow Go.Proofs.ZZ.Deri Go.Proofs.ZZ.Seqs Go.Proofs.ZZ.LrK Go.Proofs.ZZ.GMap Go.Proofs.ZZ.LSeq Go.Proofs.ZZ.LLex Go.Proofs.ZZ.LKeys Go.Proofs.ZZ.LClone Go.Proofs.ZZ.LSort Go.Proofs.ZZ.LFlat Go.Proofs.ZZ.LLooks
attribute [local go_sem] Oper.semAt_some
theorem start_round {P : Program} {ops : Array Oper} {Q : Exit → Act → World → Prop} {S : World → Prop} {ds : List Nat} {l0 m id n : Nat} {a : Act} {w : World} (l : Array Bool) (hm : P.follows .mixedOrders = true) (hd : zgk ops = true) (hn : ops.size = n) (hl : Array.replicate n false = l) (hS : S w.drew)
  (h : S w.drew → za0 P .any ops (Qn Q) S ds n l a w.drew) : (Code.region id ops true).wpIn (Fence.wide.inRound l0) m P Q a w := by
 subst hn;subst hl
 exact zid hm hd (zfr _ _ _ _ (h hS))
theorem looks_calls (sb : Nat) (x : Lr) (w : World) : Calls Tryz.prog 49 #[.pointer (some ⟨sb, 0, none⟩), lrV x] w fun e w' => e = .returned (.func (.func 60) #[] #[.pointer (some ⟨w.heap.size, 0, none⟩), .pointer (some ⟨w.heap.size + 1, 0, none⟩)]) ∧ (w.alloc (.cells #[.pointer (some ⟨sb, 0, none⟩)] 58)).alloc (.cells #[.int .i64 x.1, .int .i64 x.2.1, .int .i64 x.2.2] TL) = w' := by
 simp only [lrV, lrA]
 go_enter Tryz.func49, Tryz.ntmps49
 go_wp2;go_ret
 exact ⟨rfl, rfl⟩
theorem atLr {w : World} {A : Option Addr} {n : Nat} {xs : List Lr} (h : Kd.C kLr w A n xs) (k : Nat) (hk : k < n) :
  ∃ ad x, A = some ad ∧ xs[k]? = some x ∧ w.cell? (ad.add (k * 3)) = some (.int .i64 x.1) ∧ w.cell? ⟨(ad.add (k * 3)).block, (ad.add (k * 3)).off + 1, none⟩ = some (.int .i64 x.2.1) ∧ w.cell? ⟨(ad.add (k * 3)).block, (ad.add (k * 3)).off + 2, none⟩ = some (.int .i64 x.2.2) := by
 obtain ⟨h1, h2, h3⟩ := h
 obtain ⟨ad, e, hc⟩ := h3 (by omega)
 have hk' : k < xs.length := by omega
 obtain ⟨c, hl, hK, hcell⟩ := hc k _ (List.getElem?_eq_getElem hk')
 obtain ⟨_, _, rfl, rfl, ⟨_, _, rfl, rfl, rfl⟩⟩ := hK
 have hc0 : ∀ j u, [Value.int .i64 (xs[k]).1, .int .i64 (xs[k]).2.1, .int .i64 (xs[k]).2.2][j]? = some u → w.cell? (ad.add (k * 3 + j)) = some u := hcell
 exact ⟨ad, xs[k], e, List.getElem?_eq_getElem hk', hc0 0 _ rfl, by rw [← zb5 _ _ 1 (by omega)]; exact hc0 1 _ rfl, by rw [← zb5 _ _ 2 (by omega)]; exact hc0 2 _ rfl⟩
def zdw (ps : List P) (s : Int) (looks : List Int) : List Lr := looks.flatMap fun t => (ofV ps s).map fun p => (p, 0, t)
def newV (n0 : Nat) (ps : List P) (S : List Lr) (x : Lr) : Bool := !decide (x ∈ S) && fitV n0 ps x
def putS (n0 : Nat) (ps : List P) (S : List Lr) (x : Lr) : List Lr := if newV n0 ps S x = true then S ++ [x] else S
def pushV (n0 : Nat) (ps : List P) (em : List Bool) (Ss : List (List Int)) (S : List Lr) (x : Lr) : List Lr :=
 if newV n0 ps S x = true then
  match zbx n0 ps x with
  | none => []
  | some s => if s < n0 then [] else zdw ps s (zda em Ss x.2.2 ((za1 n0 ps x.1).drop (x.2.1.toNat + 1)))
 else []
def zb1 (n0 : Nat) (ps : List P) (em : List Bool) (Ss : List (List Int)) : Nat → List Lr → List Lr → Option (List Lr)
 | 0, _, _ => none
 | k + 1, S, T => if T.length + S.length ≤ 1000000000 then (match T.getLast? with | none => some S | some x => zb1 n0 ps em Ss k (putS n0 ps S x) (T.dropLast ++ pushV n0 ps em Ss S x)) else none
theorem zev {n0 : Nat} {ps : List P} {em : List Bool} {Ss : List (List Int)} {k : Nat} {S T0 r : List Lr} {x : Lr} (h : zb1 n0 ps em Ss k S (T0 ++ [x]) = some r) :
  ∃ m, k = m + 1 ∧ (T0 ++ [x]).length ≤ 1000000000 ∧ zb1 n0 ps em Ss m (putS n0 ps S x) (T0 ++ pushV n0 ps em Ss S x) = some r := by
 cases k with
 | zero => cases h
 | succ m =>
  unfold zb1 at h
  split at h
  ·rename_i h1
   simp only [List.getLast?_concat, List.dropLast_concat] at h
   exact ⟨m, rfl, by omega, h⟩
  ·cases h
theorem zfh {n0 : Nat} {ps : List P} {em : List Bool} {Ss : List (List Int)} {k : Nat} {S r : List Lr} (h : zb1 n0 ps em Ss k S [] = some r) : r = S ∧ S.length ≤ 1000000000 := by
 cases k with
 | zero => cases h
 | succ m =>
  unfold zb1 at h
  split at h
  ·rename_i h1
   exact ⟨(Option.some.inj h).symm, by omega⟩
  ·cases h
theorem closV_len {n0 : Nat} {ps : List P} {em : List Bool} {Ss : List (List Int)} {k : Nat} {S T r : List Lr} (h : zb1 n0 ps em Ss k S T = some r) : T.length ≤ 1000000000 := by
 cases k with
 | zero => cases h
 | succ m =>
  unfold zb1 at h
  split at h
  ·omega
  ·cases h
theorem closV_len2 {n0 : Nat} {ps : List P} {em : List Bool} {Ss : List (List Int)} {k : Nat} {S T r : List Lr} (h : zb1 n0 ps em Ss k S T = some r) : S.length ≤ 1000000000 := by
 cases k with
 | zero => cases h
 | succ m =>
  unfold zb1 at h
  split at h
  ·omega
  ·cases h
theorem look_true (S : List Lr) (x : Lr) : GMap.look (S.map fun x => (x, Value.bool true)) x = if x ∈ S then some (Value.bool true) else none := by
 induction S with
 | nil => rfl
 | cons a t ih =>
  simp only [List.map_cons, GMap.look, ih, List.mem_cons]
  by_cases h : a = x
  ·rw [if_pos h, if_pos (.inl h.symm)]
  ·rw [if_neg h]
   by_cases h2 : x ∈ t
   ·rw [if_pos h2, if_pos (.inr h2)]
   ·rw [if_neg h2, if_neg (fun g => g.elim (fun e => h e.symm) h2)]
theorem put_true (S : List Lr) (x : Lr) (h : x ∉ S) : putM (S.map fun x => (x, Value.bool true)) x (.bool true) = (S ++ [x]).map fun x => (x, Value.bool true) := by
 induction S with
 | nil => rfl
 | cons a t ih =>
  simp only [List.mem_cons, not_or] at h
  simp only [List.map_cons, putM, List.cons_append]
  rw [if_neg (fun e => h.1 e.symm), ih h.2]
theorem fit_ok {n0 : Nat} {ps : List P} {x : Lr} (h : fitV n0 ps x = true) (h1 : ps.length ≤ 1000000) (h2 : n0 ≤ 1000000) (h3 : (za1 n0 ps x.1).length ≤ 1000000) : lrOk x := by
 obtain ⟨a, b, c, d, e, f⟩ := zc4.1 h
 refine ⟨?_, ?_, ?_⟩ <;> (simp [Lit.wf, IntKind.min, IntKind.max, IntKind.bits, IntKind.signed]; omega)
theorem flat_take : ∀ (l : List Lr) (m : Nat), zci (l.take m) = (zci l).take (m * 3)
 | [], m => by simp [zci]
 | a :: t, 0 => by simp [zci]
 | a :: t, q + 1 => by
  have ih := flat_take t q
  rw [List.take_succ_cons]
  show (lrA a).toList ++ zci (t.take q) = ((lrA a).toList ++ zci t).take ((q + 1) * 3)
  rw [ih, show (q + 1) * 3 = q * 3 + 1 + 1 + 1 by omega]
  simp only [lrA, List.cons_append, List.nil_append, List.take_succ_cons]
theorem own_pre {w : World} {base n m c : Nat} {A : Option Addr} {l : List Lr} (h : w.ownsRow base TL 3 (.slice A n c) n (zci l)) (hm : m ≤ n) (hA : A ≠ none) : w.ownsRow base TL 3 (.slice A m c) m (zci (l.take m)) := by
 have hfl := zfi l
 have hl : n = l.length := by have := h.1; omega
 subst hl
 refine ⟨by rw [zfi, List.length_take]; omega, ?_⟩
 rcases h.2 with ⟨hv, _⟩ | ⟨g, cap, cur, hv, hg, hh, h1, h2, h3, h4⟩
 ·injection hv with e; exact absurd e hA
 ·injection hv with e1 e2 e3
  refine .inr ⟨g, cap, cur, by rw [e1, e3], hg, hh, by omega, h2, h3, ?_⟩
  rw [flat_take, ← h4, List.take_take]
  congr 1
  omega
theorem snoc {α : Type} (T : List α) : T = [] ∨ ∃ T0 x, T = T0 ++ [x] := by
 rcases List.eq_nil_or_concat T with h | ⟨a, b, h⟩
 ·exact .inl h
 ·exact .inr ⟨a, b, by rw [h, List.concat_eq_append]⟩
def insL (x : Lr) : List Lr → List Lr
 | [] => [x]
 | a :: t => if bef x a then x :: a :: t else a :: insL x t
def srtL : List Lr → List Lr
 | [] => []
 | a :: t => insL a (srtL t)
theorem zhi (x y : Lr) : ∀ l : List Lr, y ∈ insL x l ↔ y = x ∨ y ∈ l
 | [] => by simp [insL]
 | a :: t => by
  have ih := zhi x y t
  unfold insL
  split
  ·simp
  ·rw [List.mem_cons, ih, List.mem_cons]
   constructor
   ·rintro (h | h | h)
    ·exact .inr (.inl h)
    ·exact .inl h
    ·exact .inr (.inr h)
   ·rintro (h | h | h)
    ·exact .inr (.inl h)
    ·exact .inl h
    ·exact .inr (.inr h)
theorem zi3 (x : Lr) : ∀ l : List Lr, (insL x l).length = l.length + 1
 | [] => rfl
 | a :: t => by
  have ih := zi3 x t
  unfold insL
  split
  ·rfl
  ·rw [List.length_cons, ih, List.length_cons]
theorem zhj (x : Lr) : ∀ {l : List Lr}, zdb l → x ∉ l → zdb (insL x l)
 | [], _, _ => List.pairwise_singleton _ _
 | a :: t, h, hx => by
  obtain ⟨h1, h2⟩ := List.pairwise_cons.1 h
  unfold insL
  split
  ·rename_i c
   refine List.pairwise_cons.2 ⟨fun y hy => ?_, h⟩
   rcases List.mem_cons.1 hy with rfl | hy
   ·exact c
   ·exact zfg c (h1 y hy)
  ·rename_i c
   refine List.pairwise_cons.2 ⟨fun y hy => ?_, zhj x h2 (fun hm => hx (by simp [hm]))⟩
   rcases (zhi x y t).1 hy with rfl | hy
   ·exact Decidable.not_not.1 fun g => hx (by rw [bef_tri c g]; simp)
   ·exact h1 y hy
theorem zfa (y : Lr) : ∀ l : List Lr, y ∈ srtL l ↔ y ∈ l
 | [] => by simp [srtL]
 | a :: t => by rw [srtL, zhi, zfa y t, List.mem_cons]
theorem zgj : ∀ l : List Lr, (srtL l).length = l.length
 | [] => rfl
 | a :: t => by rw [srtL, zi3, zgj t, List.length_cons]
theorem zho : ∀ {l : List Lr}, l.Nodup → zdb (srtL l)
 | [], _ => List.Pairwise.nil
 | a :: t, h => by
  obtain ⟨h1, h2⟩ := List.nodup_cons.1 h
  exact zhj a (zho h2) (fun hm => h1 ((zfa a t).1 hm))
structure CS (G : SG) (w : World) (mb b6 : Nat) (S T : List Lr) (X : World) : Prop where
 below : Below w.heap.size w X
 bx : X.heap[w.heap.size]? = some (.cells #[.pointer (some ⟨G.sb, 0, none⟩)] 58 (0, 0))
 map : MapAt keyL mb (S.map fun x => (x, Value.bool true)) X
 todo : ∃ A c, Boxed X b6 45 (.slice A T.length c) ∧ X.ownsRow w.heap.size TL 3 (.slice A T.length c) T.length (zci T)
 tok : ∀ x ∈ T, lrOk x
theorem CS.turn {G : SG} {w : World} {mb b6 : Nat} {S T : List Lr} {X X' : World} {L : Nat} (h : CS G w mb b6 S T X) (ht : Turn L (fun _ => False) X X') (hL : mb < L) (hw : w.heap.size ≤ L) : CS G w mb b6 S T X' := by
 obtain ⟨A, c, h1, h2⟩ := h.todo
 obtain ⟨es, cl, ho⟩ := h.map.block
 exact ⟨zcn h.below ht (Nat.le_refl _) hw (fun k hk => hk.elim), zc3 h.bx ht (fun h => h), h.map.keep ((ht.same mb _ ho (fun h => h) (.inl hL)).trans ho.symm), ⟨A, c, Boxed.turn h1 ht (fun h => h), zgg h2 ht (fun _ _ h => h)⟩, h.tok⟩
theorem CS.keep {G : SG} {w : World} {mb b6 : Nat} {S T : List Lr} {X X' : World} (h : CS G w mb b6 S T X) (hb : Below X.heap.size X X') : CS G w mb b6 S T X' := by
 obtain ⟨A, c, h1, h2⟩ := h.todo
 exact ⟨h.below.trans (hb.mono h.below.size), zat h.bx hb, h.map.keep (hb.block _ h.map.lt), ⟨A, c, zat h1 hb, zgg h2 (Turn.below (L := 0) (T := fun _ => False) hb) (fun _ _ h => h)⟩, h.tok⟩
theorem map_apart {w X : World} {mb base n m : Nat} {e : TypeId} {v : Value} {xs : List Value} (h : X.ownsRow base e n v m xs) {o : Obj} (ho : X.heap[mb]? = some o) (hc : o.isCells = false) : v.ownBlock ≠ some mb := by
 intro e'
 rcases h.2 with ⟨rfl, _⟩ | ⟨g, cap, cur, rfl, _, hh, _⟩
 ·simp [Value.ownBlock] at e'
 ·obtain rfl : g = mb := by simpa [Value.ownBlock] using e'
  rw [hh] at ho
  cases ho
  cases hc
theorem CS.mapped {G : SG} {w : World} {mb b6 : Nat} {S S' T : List Lr} {X X' : World} (h : CS G w mb b6 S T X) (hm : w.heap.size < mb) (hm6 : mb < b6) (hg : X.grownBy X' (some mb)) (hmap : MapAt keyL mb (S'.map fun x => (x, Value.bool true)) X') : CS G w mb b6 S' T X' := by
 obtain ⟨A, c, h1, h2⟩ := h.todo
 obtain ⟨es, cl, ho⟩ := h.map.block
 exact ⟨h.below.grown hg h.below.size (fun k hk => by cases hk; omega), (hg.block _ (zbk h.bx) (fun e => by injection e with e; omega)).trans h.bx, hmap,
  ⟨A, c, h1.kept hg (fun e => by injection e with e; omega), h2.kept hg (.inr (map_apart (w := w) h2 ho rfl))⟩, h.tok⟩
structure RS (G : SG) (w : World) (mb b6 b2 b8 n9 : Nat) (s : Int) (Ds : List Nat) (S T : List Lr) (X : World) : Prop where
 cs : CS G w mb b6 S T X
 ap : ∃ v, Boxed X b6 45 v ∧ v.ownBlock ≠ some b2
 sym : Boxed X b8 3 (.int .i64 s)
 ds : ∀ D ∈ Ds, X.heap[D]? = some (.deferred (some []))
 sz : n9 ≤ X.heap.size
theorem RS.turn {G : SG} {w : World} {mb b6 b2 b8 n9 : Nat} {s : Int} {Ds : List Nat} {S T : List Lr} {X X' : World} {L : Nat} (h : RS G w mb b6 b2 b8 n9 s Ds S T X) (ht : Turn L (fun _ => False) X X') (hL : mb < L) (hw : w.heap.size ≤ L) (hD : ∀ D ∈ Ds, D < L) : RS G w mb b6 b2 b8 n9 s Ds S T X' := by
 obtain ⟨v, h1, h2⟩ := h.ap
 exact ⟨h.cs.turn ht hL hw, ⟨v, Boxed.turn h1 ht (fun h => h), h2⟩, Boxed.turn h.sym ht (fun h => h), fun D hd => ht.same D _ (h.ds D hd) (fun h => h) (.inl (hD D hd)), Nat.le_trans h.sz ht.size⟩
theorem RS.keep {G : SG} {w : World} {mb b6 b2 b8 n9 : Nat} {s : Int} {Ds : List Nat} {S T : List Lr} {X X' : World} (h : RS G w mb b6 b2 b8 n9 s Ds S T X) (hb : Below X.heap.size X X') : RS G w mb b6 b2 b8 n9 s Ds S T X' := by
 obtain ⟨v, h1, h2⟩ := h.ap
 exact ⟨h.cs.keep hb, ⟨v, zat h1 hb, h2⟩, zat h.sym hb, fun D hd => zat (h.ds D hd) hb, Nat.le_trans h.sz hb.size⟩
theorem RS.push {G : SG} {w : World} {mb b6 b2 b8 n9 : Nat} {s : Int} {Ds : List Nat} {S T : List Lr} {X w1 : World} {A : Option Addr} {c : Nat} {z : Lr} {v' : Value} (h : RS G w mb b6 b2 b8 n9 s Ds S T X) (hbx : Boxed X b6 45 (.slice A T.length c)) (hrow : X.ownsRow w.heap.size TL 3 (.slice A T.length c) T.length (zci T))
  (hown' : w1.ownsRow w.heap.size TL 3 v' (T.length + 1) (zci T ++ [.int .i64 z.1, .int .i64 z.2.1, .int .i64 z.2.2])) (hg : (X.alloc (.cells #[.int .i64 z.1, .int .i64 z.2.1, .int .i64 z.2.2] TL)).grownBy w1 (Value.slice A T.length c).ownBlock)
  (hat : v'.ownBlock = (Value.slice A T.length c).ownBlock ∨ v'.ownBlock = some (X.alloc (.cells #[.int .i64 z.1, .int .i64 z.2.1, .int .i64 z.2.2] TL)).heap.size) (hm : w.heap.size < mb) (hm6 : mb < b6) (h26 : b2 ≠ b6) (h2 : b2 < X.heap.size) (hz : lrOk z) :
  Boxed w1 b6 45 (.slice A T.length c) ∧ RS G w mb b6 b2 b8 n9 s Ds S (T ++ [z]) (w1.setCell ⟨b6, 0, none⟩ v') ∧ KeepsFrom 0 X (w1.setCell ⟨b6, 0, none⟩ v') ∧ zfs w.heap.size b2 X (w1.setCell ⟨b6, 0, none⟩ v') := by
 obtain ⟨v, g1, g2⟩ := h.ap
 obtain rfl : v = .slice A T.length c := by
  have := g1.symm.trans hbx
  injection this with this
  injection this with this
  simpa using this
 have hwX := h.cs.below.size
 obtain ⟨tmp, htmp⟩ : ∃ o, Obj.cells #[.int .i64 z.1, .int .i64 z.2.1, .int .i64 z.2.2] TL (0, 0) = o := ⟨_, rfl⟩
 rw [htmp] at hg hat
 have hX1 : (X.alloc tmp).heap.size = X.heap.size + 1 := by simp
 have hn6 : some b6 ≠ (Value.slice A T.length c).ownBlock := own_ne hrow hbx (by decide)
 have hb1 : Boxed w1 b6 45 (.slice A T.length c) := (hbx.alloc tmp).kept hg hn6
 have hn6' : v'.ownBlock ≠ some b6 := fun e => own_ne hown' hb1 (by decide) e.symm
 have hsetB := grownBy_setCell' w1 b6 v'
 obtain ⟨W', hW'⟩ : ∃ X, w1.setCell ⟨b6, 0, none⟩ v' = X := ⟨_, rfl⟩
 have hsame : ∀ (j : Nat) (o : Obj), X.heap[j]? = some o → j ≠ b6 → some j ≠ (Value.slice A T.length c).ownBlock → W'.heap[j]? = some o := by
  intro j o hj h6 ho
  have k1 := zaj hj tmp
  have k2 := (hg.block j (Array.getElem?_eq_some_iff.1 k1).1 ho).trans k1
  rw [← hW']
  exact (Below.heap_setCell w1 ⟨b6, 0, none⟩ v' j h6).trans k2
 have hrowb : ∀ j, (Value.slice A T.length c).ownBlock = some j → w.heap.size ≤ j ∧ ∃ cs, X.heap[j]? = some (.cells cs TL (0, 0)) := by
  intro j hj
  rcases hrow.2 with ⟨hv, _⟩ | ⟨g, cap, cur, hv, hb, hh, _⟩
  ·rw [hv] at hj; simp [Value.ownBlock] at hj
  ·rw [hv] at hj
   obtain rfl : g = j := by simpa [Value.ownBlock] using hj
   exact ⟨hb, cur, hh⟩
 have hnc : ∀ (j : Nat) (o : Obj), X.heap[j]? = some o → o.isCells = false → W'.heap[j]? = some o := fun j o hj hc => hsame j o hj (fun e => by subst e; rw [hbx] at hj; cases hj; cases hc) (fun e => by obtain ⟨_, cs, hh⟩ := hrowb j e.symm; rw [hj] at hh; cases hh; cases hc)
 have hct : ∀ (j : Nat) cs t fr, X.heap[j]? = some (.cells cs t fr) → t ≠ TL → t ≠ 45 → W'.heap[j]? = some (.cells cs t fr) := fun j cs t fr hj h1 h2 => hsame j _ hj (fun e => by subst e; rw [hbx] at hj; cases hj; exact h2 rfl) (fun e => by obtain ⟨_, cs', hh⟩ := hrowb j e.symm; rw [hj] at hh; cases hh; exact h1 rfl)
 have hsz : X.heap.size ≤ W'.heap.size := by
  rw [← hW']
  have := hg.size
  simp at this ⊢
  omega
 have hbw : Below w.heap.size X W' := by
  rw [← hW']
  refine Below.setCell (p := ⟨b6, 0, none⟩) ?_ (by show w.heap.size ≤ b6; omega) _
  exact ((Below.refl w.heap.size X).alloc hwX tmp).grown hg (by omega) (fun k hk => (hrowb k hk).1)
 obtain ⟨es, cl, hmo⟩ := h.cs.map.block
 have hb' : Boxed W' b6 45 v' := by rw [← hW']; exact hb1.set v'
 have ho' : W'.ownsRow w.heap.size TL 3 v' (T.length + 1) (zci T ++ [.int .i64 z.1, .int .i64 z.2.1, .int .i64 z.2.2]) := by rw [← hW']; exact hown'.kept hsetB (.inr hn6')
 have hap' : v'.ownBlock ≠ some b2 := by
  rcases hat with e | e
  ·rw [e]; exact g2
  ·rw [e]; intro e'; injection e' with e'; omega
 obtain ⟨g', c', rfl⟩ := ownsRow_succ ho'
 have hl : (T ++ [z]).length = T.length + 1 := by simp
 rw [hW']
 refine ⟨hb1, ⟨⟨h.cs.below.trans hbw, hct _ _ _ _ h.cs.bx (by decide) (by decide), h.cs.map.keep ((hnc mb _ hmo rfl).trans hmo.symm), ⟨_, c', by rw [hl]; exact hb', by rw [hl, flatL_app]; exact ho'⟩, fun y hy => ?_⟩, ⟨_, hb', hap'⟩, hct _ _ _ _ h.sym (by decide) (by decide), fun D hD => hnc D _ (h.ds D hD) rfl, Nat.le_trans h.sz hsz⟩,
  ⟨hsz, fun j o _ hj hc => hnc j o hj hc⟩, ⟨⟨hbw, fun b hb hlt => ?_⟩, hct⟩⟩
 ·rcases List.mem_append.1 hy with hy | hy
  ·exact h.cs.tok y hy
  ·obtain rfl := List.mem_singleton.1 hy
   exact hz
 ·obtain rfl := List.mem_singleton.1 hb
  exact (hsame b _ (Array.getElem?_eq_getElem hlt) h26 (fun e => g2 e.symm)).trans (Array.getElem?_eq_getElem hlt).symm
theorem own_lt {w : World} {base n k m : Nat} {e : TypeId} {v : Value} {xs : List Value} (h : w.ownsRow base e n v m xs) (hk : v.ownBlock = some k) : k < w.heap.size := by
 rcases h.2 with ⟨hv, _⟩ | ⟨g, cap, cur, hv, _, hh, _⟩
 ·rw [hv] at hk; simp [Value.ownBlock] at hk
 ·rw [hv] at hk
  obtain rfl : g = k := by simpa [Value.ownBlock] using hk
  exact zbk hh
theorem rowsV_len (ps : List P) (s : Int) (l : List Int) : (zdw ps s l).length = l.length * (ofV ps s).length := by
 induction l with
 | nil => simp [zdw]
 | cons a t ih =>
  simp only [zdw, List.flatMap_cons, List.length_append, List.length_map, List.length_cons] at *
  rw [ih, Nat.succ_mul, Nat.add_comm]
theorem rowsV_snoc (ps : List P) (s : Int) (l : List Int) (t : Int) : zdw ps s (l ++ [t]) = zdw ps s l ++ (ofV ps s).map fun p => (p, 0, t) := by simp [zdw, List.flatMap_append]
theorem ofF_mem (s : Int) : ∀ (i : Nat) (l : List P) (p : Int), p ∈ ofF s i l → 0 ≤ p ∧ p < (i + l.length : Nat)
 | _, [], p, h => by cases h
 | i, q :: t, p, h => by
  have ih := ofF_mem s (i + 1) t p
  unfold ofF at h
  split at h
  ·rcases List.mem_cons.1 h with rfl | h
   ·simp; omega
   ·have := ih h; simp at this ⊢; omega
  ·have := ih h; simp at this ⊢; omega
theorem atInt {w : World} {A : Option Addr} {n : Nat} {l : List Int} (h : Kd.C (Kd.int .i64) w A n l) (k : Nat) (hk : k < n) : ∃ ad x, A = some ad ∧ l[k]? = some x ∧ w.cell? (ad.add k) = some (.int .i64 x) := by
 obtain ⟨h1, h2, h3⟩ := h
 obtain ⟨ad, e, hc⟩ := h3 (by omega)
 have hk' : k < l.length := by omega
 obtain ⟨c, _, rfl, hcell⟩ := hc k _ (List.getElem?_eq_getElem hk')
 have := hcell 0 _ rfl
 rw [show k * (Kd.int .i64).sz + 0 = k from Nat.mul_one k] at this
 exact ⟨ad, _, e, List.getElem?_eq_getElem hk', this⟩
variable {n : Nat} {P : Program}
theorem rangeG1 {α : Type} {g : Operand} {p q : Tmp} {assign body : Code} {Q : Exit → Act → World → Prop} {a : Act} {w : World}
  {gf : Nat} {lb : Array Value} (hg : a.eval g = .func (.func gf) #[] lb) (eg : ∀ args w, (callFunc gf args).run P w = .ok (.enter gf args) w)
  {enc1 : α → Value} {Kp : World → World → Prop} {S Sp : List α → Prop} {N : Nat} (hseq : SeqG (n - 1) P gf lb (fun x => #[enc1 x]) Kp (fun _ => False) S Sp N w)
  (hKr : ∀ A, Kp A A) (hKt : ∀ {A B C : World}, Kp A B → Kp B C → Kp A C) (hKb : ∀ (W : World) (l : Nat) (o o' : Obj), w.heap.size ≤ l → W.heap[l]? = some o → o.isCells = false → o.isWalk = false → Kp W (W.putObj l o'))
  (I : List α → World → Prop) (hI : Abid w.heap.size (fun _ => False) I) (h0 : I [] w)
  (hassign : ∀ (l : Nat) (x : α) (W : World) (K : Act → World → Prop), K { tmps := (a.tmps.setIfInBounds p (enc1 x)).setIfInBounds q (enc1 x), defers := [] } W → assign.wpIn (Fence.wide.inRound l) (n - 1 - 1) P (Exit.then K (fun _ _ _ => False)) { tmps := a.tmps.setIfInBounds p (enc1 x), defers := [] } W)
  (hbody : ∀ (l : Nat) (pre : List α) (x : α) (W : World), w.heap.size ≤ l → I pre W → pre.length < N → body.wpIn (Fence.wide.inRound l) (n - 1 - 1) P (ownPostG w.heap.size Kp I (fun _ _ _ => False) (pre ++ [x]) W) { tmps := (a.tmps.setIfInBounds p (enc1 x)).setIfInBounds q (enc1 x), defers := [] } W)
  (hdone : ∀ (D : Nat) (xs : List α) (W : World), w.heap.size ≤ D → S xs → I xs W → W.heap[D]? = some (.deferred (some [])) → Q .normal { a with defers := { target := .collected D, args := #[] } :: a.defers } W) :
  (Code.rangeFunc g #[p] assign body).wpIn Fence.wide n P Q a w := by
 refine rangeG hg eg hseq (fun k hk => hk.elim) hKt hKb (Turn.refl _ _ _) (fun _ => rfl) I (fun _ _ _ => False) hI (fun c s W W' h _ => h) h0
  (fun x a' _ => a' = { tmps := (a.tmps.setIfInBounds p (enc1 x)).setIfInBounds q (enc1 x), defers := [] }) (fun x a' s W W' h _ => h) ?_ ?_ hdone (fun D c pre W _ _ h _ => h.elim)
 ·intro l pre x W K hi hK
  have e : (#[p].zip #[enc1 x]).foldl (fun t (pv : Tmp × Value) => t.setIfInBounds pv.1 pv.2) a.tmps = a.tmps.setIfInBounds p (enc1 x) := by simp
  have := hassign l x W K (hK _ _ (KeepsFrom.refl _ _) (hKr _) hi rfl)
  rw [← e] at this
  exact this
 ·rintro l pre x a' W hl _ hi rfl hN
  exact hbody l pre x W hl hi hN
def frameL (G : SG) (w : World) (b6 : Nat) (l : List Lr) (A : Option Addr) (c : Nat) (A1 : Option Addr) (c1 : Nat) (y : Nat → Value) : Array Value := #[.pointer (some ⟨G.sb, 0, none⟩), .slice A l.length c, .pointer (some ⟨w.heap.size, 0, none⟩), undef, .slice none 0 0, .map (some (w.heap.size + 1)), .pointer (some ⟨b6, 0, none⟩), y 7, y 8, y 9, y 10, y 11, y 12, .map (some (w.heap.size + 1)), .slice A l.length c, .slice A1 l.length c1, y 16, y 17, y 18, y 19, y 20, y 21, y 22, y 23, y 24, y 25, y 26, y 27, y 28, y 29, y 30, y 31, y 32, y 33, y 34, y 35, y 36, y 37, y 38, y 39, y 40, y 41, y 42, y 43, y 44, y 45, y 46, y 47, y 48, y 49, y 50, y 51, y 52, y 53, y 54, y 55, y 56, y 57, y 58, y 59, y 60, y 61, y 62, y 63, y 64, y 65, y 66, y 67, y 68, y 69, y 70, y 71, y 72, y 73, y 74, y 75, y 76, y 77, y 78, y 79, y 80, y 81, y 82, y 83, y 84, y 85, y 86, undef, undef, undef]
def LI (G : SG) (em : List Bool) (Ss : List (List Int)) (w : World) (b6 : Nat) (l : List Lr) (A : Option Addr) (c : Nat) (A1 : Option Addr) (c1 : Nat) (r : List Lr) (k : Nat) (a : Act) (W : World) : Prop :=
 ∃ (S T : List Lr) (Ds : List Nat) (x : Nat → Value),
  a = Act.mk (frameL G w b6 l A c A1 c1 x) (Ds.map Grow.mark) ∧
  CS G w (w.heap.size + 1) b6 S T W ∧ zb1 G.F.ts.length G.F.ps em Ss k S T = some r ∧ Ds.Nodup ∧ (∀ D ∈ Ds, b6 < D ∧ W.heap[D]? = some (.deferred (some []))) ∧ b6 < W.heap.size
theorem LI.of {G : SG} {em : List Bool} {Ss : List (List Int)} {w : World} {b6 : Nat} {l : List Lr} {A : Option Addr} {c : Nat} {A1 : Option Addr} {c1 : Nat} {r : List Lr} {k : Nat} {t : Array Value} {ds : List Deferred} {W : World} (S T : List Lr) (Ds : List Nat)
  (ht : t = frameL G w b6 l A c A1 c1 (fun i => t.getD i undef)) (hd : ds = Ds.map Grow.mark) (hcs : CS G w (w.heap.size + 1) b6 S T W) (hc : zb1 G.F.ts.length G.F.ps em Ss k S T = some r) (hn : Ds.Nodup) (hD : ∀ D ∈ Ds, b6 < D ∧ W.heap[D]? = some (.deferred (some []))) (hsz : b6 < W.heap.size) :
  LI G em Ss w b6 l A c A1 c1 r k (Act.mk t ds) W := ⟨S, T, Ds, fun i => t.getD i undef, by rw [hd, ← ht], hcs, hc, hn, hD, hsz⟩
theorem zfo (G : SG) (em : List Bool) (Ss : List (List Int)) (l : List Lr) (A : Option Addr) (c : Nat) (w : World) (hG : G.At em Ss w) (hC : Kd.C kLr w A l.length l) (hok : ∀ x ∈ l, lrOk x) (k : Nat) (r : List Lr) (h : zb1 G.F.ts.length G.F.ps em Ss k [] l = some r) :
  Calls Tryz.prog 37 #[.pointer (some ⟨G.sb, 0, none⟩), .slice A l.length c] w fun e w' => ∃ v, e = .returned v ∧ Kd.R kLr TL w' w.heap.size (fun _ => True) v (srtL r) ∧ Below w.heap.size w w' := by
 have hll := closV_len h
 refine (callsIn_wide (n := 3)).1 ?_
 refine callsIn_of_wp_marks Tryz.func37 rfl trivial ?_ rfl
 simp only [Tryz.ntmps37, List.size_toArray, List.length_cons, List.length_nil, Nat.reduceAdd, Nat.reduceSub, Array.replicate_succ, Array.replicate_zero, List.push_toArray, List.append_toArray, List.nil_append, List.cons_append]
 obtain ⟨W0, hW0⟩ : ∃ W0, (w.alloc (.cells #[.pointer (some ⟨G.sb, 0, none⟩)] 58)).alloc (.map #[] 0) = W0 := ⟨_, rfl⟩
 have b00 : W0.heap[w.heap.size]? = some (.cells #[.pointer (some ⟨G.sb, 0, none⟩)] 58 (0, 0)) := by rw [← hW0]; exact zaj (za9 w _) _
 have m00 : MapAt keyL (w.heap.size + 1) [] W0 := by
  rw [← hW0]
  have := MapAt.new (K := keyL) (w.alloc (.cells #[.pointer (some ⟨G.sb, 0, none⟩)] 58))
  simpa using this
 have B00 : Below w.heap.size w W0 := by rw [← hW0]; exact ((Below.refl _ _).alloc (Nat.le_refl _) _).alloc (by simp) _
 have sz00 : W0.heap.size = w.heap.size + 2 := by rw [← hW0]; simp
 have hfn : ∀ f, Fence.wide.fn f := fun _ => trivial
 have hmm := @run_makeMap Tryz.prog
 have hcl := cloneL_calls A l.length c l W0 (Kd.zak hC B00) (by omega)
 have h30 : Fence.wide.fn 48 := trivial
 gi_wp2_with (gi_at_call 48; refine (callsIn_wide.2 hcl).mono ?_; rintro e W1 ⟨v1, rfl, R1, B1⟩; obtain ⟨A1, c1, rfl⟩ := Kd.zbj R1)
 have b01 := zat b00 B1
 have m01 := m00.keep (B1.block _ m00.lt)
 have B01 := B00.trans (B1.mono B00.size)
 have ho1 := zew (R3_own R1) (show w.heap.size ≤ W0.heap.size by omega)
 have hmb : w.heap.size + 1 < W1.heap.size := m01.lt
 obtain ⟨W2, hW2⟩ : ∃ W2, W1.alloc (.cells #[.slice A1 l.length c1] 45) = W2 := ⟨_, rfl⟩
 have hb6 : W2.heap.size = W1.heap.size + 1 := by rw [← hW2]; simp
 have cs2 : CS G w (w.heap.size + 1) W1.heap.size [] l W2 := by
  rw [← hW2]
  exact ⟨B01.alloc B01.size _, zaj b01 _, m01.keep ((Below.refl W1.heap.size W1).alloc (Nat.le_refl _) (.cells #[.slice A1 l.length c1] 45) |>.block _ m01.lt), ⟨A1, c1, Boxed.new W1 _ _, ho1.alloc _⟩, hok⟩
 obtain ⟨b6, hb6'⟩ : ∃ b, W1.heap.size = b := ⟨_, rfl⟩
 rw [hW2]
 rw [hb6'] at cs2 hb6 hmb
 rw [hb6']
 have HC := Lib.hid h
 clear hW2 ho1 B01 m01 b01 R1 B1 hcl h hb6' b00 m00 B00 sz00 hW0 W0 W1
 have hmbb : w.heap.size + 1 < b6 := hmb
 refine loopIn (LI G em Ss w b6 l A c A1 c1 r) k ?_ ?_
 ·exact LI.of [] l [] (by rfl) rfl cs2 HC.out List.nodup_nil (fun _ h => nomatch h) (by omega)
 clear cs2 hb6 HC hmb
 intro k a W hi
 obtain ⟨S, T, Ds, y, rfl, cs, hcl, hnd, hDs, hsz⟩ := hi
 unfold frameL
 obtain ⟨A3, c3, hbx, hrow⟩ := cs.todo
 have cv := hbx.cell
 rcases snoc T with rfl | ⟨T0, x, rfl⟩
 ·obtain ⟨rfl, hrlen⟩ := zfh hcl
  have h34 : Fence.wide.fn 51 := trivial
  have h33 : Fence.wide.fn 50 := trivial
  have hk := keysL_calls (some (w.heap.size + 1)) W
  obtain ⟨W1, hW1⟩ : ∃ W1, W.alloc (.cells #[.map (some (w.heap.size + 1))] TM) = W1 := ⟨_, rfl⟩
  have hb1 : Below W.heap.size W W1 := by rw [← hW1]; exact (Below.refl _ _).alloc (Nat.le_refl _) _
  have hB1 : W1.heap[W.heap.size]? = some (.cells #[.map (some (w.heap.size + 1))] TM (0, 0)) := by rw [← hW1]; exact za9 _ _
  have hmk : MapAt keyL (w.heap.size + 1) (r.map fun x => (x, Value.bool true)) W1 := cs.map.keep (hb1.block _ cs.map.lt)
  have hrl : (r.map fun x => (x, Value.bool true)).length ≤ 1000000000000 := by
   rw [List.length_map]
   omega
  have hs := zj4 63 #[.pointer (some ⟨W.heap.size, 0, none⟩)] (enters_of Tryz.func63 (by kernel_rfl) rfl) W1 _ _ _ hrl
   (SeqH.of (Kq := KeepU W1.heap.size) (keysL_stops 2 W.heap.size (w.heap.size + 1) (by omega) _ W1.heap.size [] W1 hmk.lt hmk hB1) (fun l A B h => h.1) (fun xs h => h) (fun _ h => h))
  rw [hW1] at hk
  have HB1 := Lib.hid hb1
  have HD := Lib.hid hDs
  have hds : ∀ D ∈ Ds, b6 < D ∧ W1.heap[D]? = some (.deferred (some [])) := fun D hD => ⟨(hDs D hD).1, (hb1.block D (zbk (hDs D hD).2)).trans (hDs D hD).2⟩
  have HDS := Lib.hid hds
  clear hW1 hDs hds hmk hrl hB1 hb1
  gi_wp2_with (first
   | (gi_at_call 51; refine (callsIn_wide.2 hk).mono ?_; rintro e X ⟨rfl, rfl⟩)
   | (gi_at_call 50; refine (callsIn_wide.2 hs).mono ?_; rintro e W2 ⟨v2, xs, rfl, ⟨h1, h2⟩, h3, h4, h5⟩))
  have hb2 : Below w.heap.size w W2 := cs.below.trans ((HB1.out.trans (h5.mono HB1.out.size)).mono cs.below.size)
  have hrn : r.Nodup := by
   have := cs.map.1
   rw [List.map_map] at this
   simpa [Function.comp_def] using this
  have hse : zf2 (zdj xs) = srtL r := by
   refine zhm (sortO_rises h1) (zho hrn) (fun z => ?_)
   rw [sortO_mem, zfa, h2 z]
   simp
  rw [hse] at h4
  refine zgc (L := b6) Ds W2 hnd (fun D hD => ⟨by have := (HDS.out D hD).1; omega, (h5.block D (zbk (HDS.out D hD).2)).trans (HDS.out D hD).2⟩) (fun w' ht' => ⟨_, results_tmp rfl _ _ _, v2, rfl, ?_, zcn hb2 ht' (Nat.le_refl _) (by omega) (fun k hk => hk.elim)⟩)
  exact own_R3 (by rw [zgj] ; have := zgg (zew (R3_own h4) (show w.heap.size ≤ W1.heap.size by have := HB1.out.size; omega)) ht' (fun _ _ h => h); rwa [zgj] at this) (fun _ _ => trivial)
 ·obtain ⟨m, rfl, hlen, hcl'⟩ := zev hcl
  obtain ⟨n, hn⟩ : ∃ n, T0.length = n := ⟨_, rfl⟩
  have hln : (T0 ++ [x]).length = n + 1 := by simp [hn]
  rw [hln] at hbx hrow cv hlen
  have hr3 := own_R3 (ok := fun _ => True) (by rw [hln]; exact hrow) (fun _ _ => trivial)
  obtain ⟨A4, c4, e4, hc4, hC4⟩ := Kd.zds hr3
  obtain ⟨rfl, rfl⟩ : A3 = A4 ∧ c3 = c4 := by injection e4 with e5 e6 e7; exact ⟨e5, e7⟩
  rw [hln] at hC4 hc4
  obtain ⟨ad, x', rfl, hx, f0, f1, f2⟩ := atLr hC4 n (by omega)
  obtain rfl : x = x' := by rw [← hn, List.getElem?_concat_length] at hx; exact Option.some.inj hx
  have hrow' := own_pre hrow (show n ≤ n + 1 by omega) (by simp)
  have etk : (T0 ++ [x]).take n = T0 := by rw [← hn, List.take_left]
  rw [etk] at hrow'
  have hxok : lrOk x := cs.tok x (by simp)
  have hsl : ∀ W : World, (Instr.slice 45 (.slice (some ad) (n + 1) c3) none (some (.int .i64 (n : Int))) none).run Tryz.prog W = .ok (.slice (some ad) n c3) W := by
   have := cut_to (P := Tryz.prog) 45 TL .i64 Tryz.underlying45 (info_parts infoLr).choose_spec.1 (some ad) (n + 1) c3 (n : Int) (by omega) (by omega) hc4
   simpa using this
  have hwr : IntKind.i64.wrap ((n : Int) + 1 - 1) = (n : Int) := by rw [IntKind.wrap_i64]; omega
  obtain ⟨b7, hb7⟩ : ∃ b, W.heap.size = b := ⟨_, rfl⟩
  have hbx2 := hbx.alloc (.cells #[.int .i64 x.1, .int .i64 x.2.1, .int .i64 x.2.2] 50)
  have cv2 := hbx2.cell
  have fv2 := hbx2.frozen
  have bx7 := za9 W (.cells #[.int .i64 x.1, .int .i64 x.2.1, .int .i64 x.2.2] 50)
  obtain ⟨W2, hW2⟩ : ∃ X, W.alloc (.cells #[.int .i64 x.1, .int .i64 x.2.1, .int .i64 x.2.2] 50) = X := ⟨_, rfl⟩
  obtain ⟨W3, hW3⟩ : ∃ X, W2.setCell ⟨b6, 0, none⟩ (.slice (some ad) n c3) = X := ⟨_, rfl⟩
  have hB2 : Below W.heap.size W W2 := by rw [← hW2]; exact (Below.refl _ _).alloc (Nat.le_refl _) _
  have csb := cs.below
  have csm := cs.map
  have e23 : ∀ j, j ≠ b6 → W3.heap[j]? = W2.heap[j]? := fun j hj => by rw [← hW3]; exact Below.heap_setCell W2 ⟨b6, 0, none⟩ _ j hj
  have hm2 : W2.heap[w.heap.size + 1]? = W.heap[w.heap.size + 1]? := hB2.block _ csm.lt
  rw [hW2] at hbx2 cv2 fv2 bx7
  have hown3 : W3.ownsRow w.heap.size TL 3 (.slice (some ad) n c3) n (zci T0) := by
   rw [← hW3]
   have h2 : W2.ownsRow w.heap.size TL 3 (.slice (some ad) n c3) n (zci T0) := by rw [← hW2]; exact hrow'.alloc _
   exact h2.kept (grownBy_setCell' W2 b6 _) (.inr (fun e => own_ne h2 hbx2 (by decide) e.symm))
  have cs3 : CS G w (w.heap.size + 1) b6 S T0 W3 := by
   refine ⟨?_, (e23 _ (by omega)).trans (zat cs.bx hB2), csm.keep ((e23 _ (by omega)).trans hm2), ⟨some ad, c3, ?_, ?_⟩, fun z hz => cs.tok z (by simp [hz])⟩
   ·rw [← hW3]
    exact (csb.trans (hB2.mono csb.size)).setCell (p := ⟨b6, 0, none⟩) (by show w.heap.size ≤ b6; omega) _
   ·rw [← hW3, hn]; exact hbx2.set _
   ·rw [hn]; exact hown3
  rw [hb7] at bx7
  have bx3 : W3.heap[b7]? = some (.cells #[.int .i64 x.1, .int .i64 x.2.1, .int .i64 x.2.2] TL (0, 0)) := (e23 b7 (by omega)).trans bx7
  have hd3 : ∀ D ∈ Ds, b6 < D ∧ W3.heap[D]? = some (.deferred (some [])) := fun D hD => ⟨(hDs D hD).1, (e23 D (by have := (hDs D hD).1; omega)).trans ((hB2.block D (zbk (hDs D hD).2)).trans (hDs D hD).2)⟩
  have sz3 : b7 < W3.heap.size := zbk bx3
  have hsz7 : b6 < b7 := by omega
  clear hcl etk hr3 e4 hC4 hx csb csm hm2 hbx hrow hrow' hDs e23 bx7 hown3 cs hc4 hB2
  gi_wp2
  rename_i K6 hK6
  (try rw [hW2])
  (try rw [hW3])
  (try rw [hb7])
  clear hbx2 hW2 hW3 W2 cv2 fv2 f0 f1 f2 hsl hwr hsz cv hb7 W
  have hb3 := cs3.below
  have hGd := hG.below (za4 hb3)
  have hz : (zeroValue 4).run Tryz.prog W3.drew = .ok (.bool false) W3.drew := by rfl
  have hlk := MapAt.look (cs3.map.keep (W' := W3.drew) rfl) Tryz.underlying78 hz hxok
  rw [look_true] at hlk
  have hHeld : (fun X => X.cell? ⟨w.heap.size, 0, none⟩ = some (.pointer (some ⟨G.sb, 0, none⟩)) ∧ X.cell? ⟨G.sb, 0, none⟩ = some (.slice G.F.A0 G.F.ts.length G.F.c0) ∧ X.cell? ⟨G.sb, 1, none⟩ = some (.slice G.F.A1 G.F.ns.length G.F.c1) ∧ X.cell? ⟨G.sb, 2, none⟩ = some (.slice G.F.A2 G.F.ps.length G.F.c2) ∧ X.cell? ⟨b7, 0, none⟩ = some (.int .i64 x.1) ∧ X.cell? ⟨b7, 1, none⟩ = some (.int .i64 x.2.1) ∧ X.cell? ⟨b7, 2, none⟩ = some (.int .i64 x.2.2)) W3.drew := ⟨zab (zah cs3.bx) 0, zab hGd.blk 0, zab hGd.blk 1, zab hGd.blk 2, zab (zah bx3) 0, zab (zah bx3) 1, zab (zah bx3) 2⟩
  have keep6 : ∀ X Y : World, Below X.heap.size X Y → (fun X => X.cell? ⟨w.heap.size, 0, none⟩ = some (.pointer (some ⟨G.sb, 0, none⟩)) ∧ X.cell? ⟨G.sb, 0, none⟩ = some (.slice G.F.A0 G.F.ts.length G.F.c0) ∧ X.cell? ⟨G.sb, 1, none⟩ = some (.slice G.F.A1 G.F.ns.length G.F.c1) ∧ X.cell? ⟨G.sb, 2, none⟩ = some (.slice G.F.A2 G.F.ps.length G.F.c2) ∧ X.cell? ⟨b7, 0, none⟩ = some (.int .i64 x.1) ∧ X.cell? ⟨b7, 1, none⟩ = some (.int .i64 x.2.1) ∧ X.cell? ⟨b7, 2, none⟩ = some (.int .i64 x.2.2)) X → (fun X => X.cell? ⟨w.heap.size, 0, none⟩ = some (.pointer (some ⟨G.sb, 0, none⟩)) ∧ X.cell? ⟨G.sb, 0, none⟩ = some (.slice G.F.A0 G.F.ts.length G.F.c0) ∧ X.cell? ⟨G.sb, 1, none⟩ = some (.slice G.F.A1 G.F.ns.length G.F.c1) ∧ X.cell? ⟨G.sb, 2, none⟩ = some (.slice G.F.A2 G.F.ps.length G.F.c2) ∧ X.cell? ⟨b7, 0, none⟩ = some (.int .i64 x.1) ∧ X.cell? ⟨b7, 1, none⟩ = some (.int .i64 x.2.1) ∧ X.cell? ⟨b7, 2, none⟩ = some (.int .i64 x.2.2)) Y := fun X Y h hh => ⟨zad h hh.1, zad h hh.2.1, zad h hh.2.2.1, zad h hh.2.2.2.1, zad h hh.2.2.2.2.1, zad h hh.2.2.2.2.2.1, zad h hh.2.2.2.2.2.2⟩
  by_cases hm : x ∈ S
  ·rw [if_pos hm] at hlk
   have hlk' : (Instr.lookup 78 (.map (some (w.heap.size + 1))) (.agg #[.int .i64 x.1, .int .i64 x.2.1, .int .i64 x.2.2]) false).run Tryz.prog W3.drew = .ok (.bool true) W3.drew := hlk
   refine wpIn_wide.2 (Ahd.zcy (zbl (S := (fun X => X.cell? ⟨w.heap.size, 0, none⟩ = some (.pointer (some ⟨G.sb, 0, none⟩)) ∧ X.cell? ⟨G.sb, 0, none⟩ = some (.slice G.F.A0 G.F.ts.length G.F.c0) ∧ X.cell? ⟨G.sb, 1, none⟩ = some (.slice G.F.A1 G.F.ns.length G.F.c1) ∧ X.cell? ⟨G.sb, 2, none⟩ = some (.slice G.F.A2 G.F.ps.length G.F.c2) ∧ X.cell? ⟨b7, 0, none⟩ = some (.int .i64 x.1) ∧ X.cell? ⟨b7, 1, none⟩ = some (.int .i64 x.2.1) ∧ X.cell? ⟨b7, 2, none⟩ = some (.int .i64 x.2.2))) (ds := []) (Ymk 12 0) (by kernel_rfl) rfl rfl hHeld (fun h0_ => ?_)))
   clear h0_
   refine Ypk 0 30 12 1 ?_
   refine Ytk 1 31 12 3 hHeld ?_
   refine Yok 2 32 12 7 (fun K hK => ?_)
   refine zcm (w1 := W3.drew) (v := .bool true) (by rfl) rfl ?_ ?_
   ·go_simp
   refine hK.out _ _ hHeld (fun h0_ => ?_)
   clear hK K h0_
   refine Ynm 32 ?_
   refine Ypk 3 33 12 15 ?_
   refine Ypj 4 34 12 31 ?_
   refine Ypj 5 35 12 63 ?_
   refine Ypj 6 36 12 127 ?_
   refine Ypj 7 37 12 255 ?_
   refine Ypj 8 38 12 511 ?_
   refine Ypj 9 39 12 1023 ?_
   refine Ypj 10 40 12 2047 ?_
   refine Ypk 11 41 12 4095 ?_
   refine zbq (by kernel_rfl) ?_
   refine hK6 _ _ ?_
   have hc' : zb1 G.F.ts.length G.F.ps em Ss m S T0 = some r := by
    have e1 : newV G.F.ts.length G.F.ps S x = false := by simp [newV, hm]
    have := hcl'
    unfold putS pushV at this
    rw [e1] at this
    simpa using this
   have cs4 : CS G w (w.heap.size + 1) b6 S T0 W3.drew := cs3.keep (za4 (Below.refl _ _))
   have HC' := Lib.hid hc'
   have HD' := Lib.hid hd3
   clear hc' hcl' hd3 hK6 keep6 hHeld hlk hlk'
   gi_wp2
   exact ⟨m, by omega, LI.of S T0 Ds (by rfl) rfl cs4 HC'.out hnd (fun D hD => HD'.out D hD) (by show b6 < W3.heap.size; omega)⟩
  ·rw [if_neg hm] at hlk
   have hlk' : (Instr.lookup 78 (.map (some (w.heap.size + 1))) (.agg #[.int .i64 x.1, .int .i64 x.2.1, .int .i64 x.2.2]) false).run Tryz.prog W3.drew = .ok (.bool false) W3.drew := hlk
   refine wpIn_wide.2 (Ahd.zcy (zbl (S := (fun X => X.cell? ⟨w.heap.size, 0, none⟩ = some (.pointer (some ⟨G.sb, 0, none⟩)) ∧ X.cell? ⟨G.sb, 0, none⟩ = some (.slice G.F.A0 G.F.ts.length G.F.c0) ∧ X.cell? ⟨G.sb, 1, none⟩ = some (.slice G.F.A1 G.F.ns.length G.F.c1) ∧ X.cell? ⟨G.sb, 2, none⟩ = some (.slice G.F.A2 G.F.ps.length G.F.c2) ∧ X.cell? ⟨b7, 0, none⟩ = some (.int .i64 x.1) ∧ X.cell? ⟨b7, 1, none⟩ = some (.int .i64 x.2.1) ∧ X.cell? ⟨b7, 2, none⟩ = some (.int .i64 x.2.2))) (ds := []) (Ymk 12 0) (by kernel_rfl) rfl rfl hHeld (fun h0_ => ?_)))
   clear h0_
   refine Ypk 0 30 12 1 ?_
   refine Ytk 1 31 12 3 hHeld ?_
   refine Yok 2 32 12 7 (fun K hK => ?_)
   refine zcm (w1 := W3.drew) (v := .bool false) (by rfl) rfl ?_ ?_
   ·go_simp
   refine hK.out _ _ hHeld (fun h0_ => ?_)
   clear hK K h0_
   refine Ynm 32 ?_
   refine Ypk 3 33 12 15 ?_
   refine Ytk 4 34 12 31 hHeld ?_
   refine Ypk 5 35 12 63 ?_
   refine Ypk 6 36 12 127 ?_
   refine Ytk 7 37 12 255 hHeld ?_
   refine Ytk 8 38 12 511 hHeld ?_
   refine Yok 9 39 12 1023 (fun K hK => ?_)
   refine Ygh Tryz.func17 #[.agg #[.slice G.F.A0 G.F.ts.length G.F.c0, .slice G.F.A1 G.F.ns.length G.F.c1, .slice G.F.A2 G.F.ps.length G.F.c2], .agg #[.int .i64 x.1, .int .i64 x.2.1, .int .i64 x.2.2]] ?_
   refine (fit_calls G.F x W3.drew hGd.K).mono ?_
   rintro e W4 ⟨rfl, hB4⟩
   refine ⟨_, rfl, ?_⟩
   have hh4 := keep6 _ _ hB4 hHeld
   refine hK.out _ _ hh4 (fun h0_ => ?_)
   clear hK K h0_
   refine Ypk 10 40 12 2047 ?_
   refine Ypk 11 41 12 4095 ?_
   refine zbq (by kernel_rfl) ?_
   refine hK6 _ _ ?_
   have hB34 : Below W3.heap.size W3 W4 := (za4 (Below.refl W3.heap.size W3)).trans hB4
   have cs4 : CS G w (w.heap.size + 1) b6 S T0 W4 := cs3.keep hB34
   have bx4 := zat bx3 hB34
   have hd4 : ∀ D ∈ Ds, b6 < D ∧ W4.heap[D]? = some (.deferred (some [])) := fun D hD => ⟨(hd3 D hD).1, zat (hd3 D hD).2 hB34⟩
   have sz4 : b7 < W4.heap.size := zbk bx4
   obtain ⟨fv, hfv⟩ : ∃ fv, fitV G.F.ts.length G.F.ps x = fv := ⟨_, rfl⟩
   rw [hfv]
   clear hHeld keep6 hh4 hlk hlk' hd3 hK6 hGd hB34 hB4 bx3 cs3 sz3 hz hb3 W3
   cases fv with
   | false =>
    have hc' : zb1 G.F.ts.length G.F.ps em Ss m S T0 = some r := by
     have e1 : newV G.F.ts.length G.F.ps S x = false := by simp [newV, hfv]
     have := hcl'
     unfold putS pushV at this
     rw [e1] at this
     simpa using this
    have HC' := Lib.hid hc'
    have HD' := Lib.hid hd4
    clear hc' hcl' hd4 hfv
    gi_wp2
    exact ⟨m, by omega, LI.of S T0 Ds (by rfl) rfl cs4 HC'.out hnd (fun D hD => HD'.out D hD) (by omega)⟩
   | true =>
    have e1 : newV G.F.ts.length G.F.ps S x = true := by simp [newV, hfv, hm]
    unfold putS pushV at hcl'
    rw [if_pos e1, if_pos e1] at hcl'
    have hsl9 : S.length < maxLen := by
     have := closV_len2 hcl'
     simp [maxLen] at this ⊢
     omega
    obtain ⟨W5, hup, hmap5, hg5⟩ := MapAt.put cs4.map Tryz.underlying78 (by rw [List.length_map]; exact hsl9) hxok (.bool true)
    have hup' : (Instr.mapUpdate 78 (.map (some (w.heap.size + 1))) (.agg #[.int .i64 x.1, .int .i64 x.2.1, .int .i64 x.2.2]) (.bool true)).run Tryz.prog W4 = .ok () W5 := hup
    rw [put_true S x hm] at hmap5
    have cs5 : CS G w (w.heap.size + 1) b6 (S ++ [x]) T0 W5 := cs4.mapped (by omega) hmbb hg5 hmap5
    have bx5 : W5.heap[b7]? = some (.cells #[.int .i64 x.1, .int .i64 x.2.1, .int .i64 x.2.2] TL (0, 0)) := (hg5.block b7 sz4 (fun e => by injection e with e; omega)).trans bx4
    have hd5 : ∀ D ∈ Ds, b6 < D ∧ W5.heap[D]? = some (.deferred (some [])) := fun D hD => ⟨(hd4 D hD).1, (hg5.block D (zbk (hd4 D hD).2) (fun e => by injection e with e; have := (hd4 D hD).1; omega)).trans (hd4 D hD).2⟩
    have i0 : W4.cell? ⟨b7, 0, none⟩ = some (.int .i64 x.1) := zab bx4 0
    have i1 : W4.cell? ⟨b7, 1, none⟩ = some (.int .i64 x.2.1) := zab bx4 1
    have i2 : W4.cell? ⟨b7, 2, none⟩ = some (.int .i64 x.2.2) := zab bx4 2
    have hGd5 := hG.below (za4 cs5.below)
    have hHeld8 : (fun X => X.cell? ⟨w.heap.size, 0, none⟩ = some (.pointer (some ⟨G.sb, 0, none⟩)) ∧ X.cell? ⟨G.sb, 0, none⟩ = some (.slice G.F.A0 G.F.ts.length G.F.c0) ∧ X.cell? ⟨G.sb, 1, none⟩ = some (.slice G.F.A1 G.F.ns.length G.F.c1) ∧ X.cell? ⟨G.sb, 2, none⟩ = some (.slice G.F.A2 G.F.ps.length G.F.c2) ∧ X.cell? ⟨b7, 0, none⟩ = some (.int .i64 x.1) ∧ X.cell? ⟨b7, 1, none⟩ = some (.int .i64 x.2.1) ∧ X.cell? ⟨b7, 2, none⟩ = some (.int .i64 x.2.2)) W5.drew := ⟨zab (zah cs5.bx) 0, zab hGd5.blk 0, zab hGd5.blk 1, zab hGd5.blk 2, zab (zah bx5) 0, zab (zah bx5) 1, zab (zah bx5) 2⟩
    have keep8 : ∀ X Y : World, Below X.heap.size X Y → (fun X => X.cell? ⟨w.heap.size, 0, none⟩ = some (.pointer (some ⟨G.sb, 0, none⟩)) ∧ X.cell? ⟨G.sb, 0, none⟩ = some (.slice G.F.A0 G.F.ts.length G.F.c0) ∧ X.cell? ⟨G.sb, 1, none⟩ = some (.slice G.F.A1 G.F.ns.length G.F.c1) ∧ X.cell? ⟨G.sb, 2, none⟩ = some (.slice G.F.A2 G.F.ps.length G.F.c2) ∧ X.cell? ⟨b7, 0, none⟩ = some (.int .i64 x.1) ∧ X.cell? ⟨b7, 1, none⟩ = some (.int .i64 x.2.1) ∧ X.cell? ⟨b7, 2, none⟩ = some (.int .i64 x.2.2)) X → (fun X => X.cell? ⟨w.heap.size, 0, none⟩ = some (.pointer (some ⟨G.sb, 0, none⟩)) ∧ X.cell? ⟨G.sb, 0, none⟩ = some (.slice G.F.A0 G.F.ts.length G.F.c0) ∧ X.cell? ⟨G.sb, 1, none⟩ = some (.slice G.F.A1 G.F.ns.length G.F.c1) ∧ X.cell? ⟨G.sb, 2, none⟩ = some (.slice G.F.A2 G.F.ps.length G.F.c2) ∧ X.cell? ⟨b7, 0, none⟩ = some (.int .i64 x.1) ∧ X.cell? ⟨b7, 1, none⟩ = some (.int .i64 x.2.1) ∧ X.cell? ⟨b7, 2, none⟩ = some (.int .i64 x.2.2)) Y := fun X Y h hh => ⟨zad h hh.1, zad h hh.2.1, zad h hh.2.2.1, zad h hh.2.2.2.1, zad h hh.2.2.2.2.1, zad h hh.2.2.2.2.2.1, zad h hh.2.2.2.2.2.2⟩
    have sz5 : b7 < W5.heap.size := zbk bx5
    clear hup hmap5 hg5 hd4 cs4 bx4 sz4 e1 hsl9
    gi_wp2
    rename_i K8 hK8
    clear hup' i0 i1 i2
    refine wpIn_wide.2 (Ahd.zcy (zbl (S := (fun X => X.cell? ⟨w.heap.size, 0, none⟩ = some (.pointer (some ⟨G.sb, 0, none⟩)) ∧ X.cell? ⟨G.sb, 0, none⟩ = some (.slice G.F.A0 G.F.ts.length G.F.c0) ∧ X.cell? ⟨G.sb, 1, none⟩ = some (.slice G.F.A1 G.F.ns.length G.F.c1) ∧ X.cell? ⟨G.sb, 2, none⟩ = some (.slice G.F.A2 G.F.ps.length G.F.c2) ∧ X.cell? ⟨b7, 0, none⟩ = some (.int .i64 x.1) ∧ X.cell? ⟨b7, 1, none⟩ = some (.int .i64 x.2.1) ∧ X.cell? ⟨b7, 2, none⟩ = some (.int .i64 x.2.2))) (ds := []) (Ymk 12 0) (by kernel_rfl) rfl rfl hHeld8 (fun h0_ => ?_)))
    clear h0_
    refine Ytk 0 45 12 1 hHeld8 ?_
    refine Ypk 1 46 12 3 ?_
    refine Ypk 2 47 12 7 ?_
    refine Ytk 3 48 12 15 hHeld8 ?_
    refine Ytk 4 49 12 31 hHeld8 ?_
    refine join_ (σ := Nat) 2 #[Yt,Yt,Yt,Yt,Yt,Yt,Yt,Yt,Yt,Yt,Nf,Nf] (fun s => [(50, .tuple #[.int .i64 ((zbx G.F.ts.length G.F.ps x).getD 0), .bool (zbx G.F.ts.length G.F.ps x).isSome]), (44, .tuple #[.int .i64 ((zbx G.F.ts.length G.F.ps x).getD 0), .bool (zbx G.F.ts.length G.F.ps x).isSome]), (51, .int .i64 ((zbx G.F.ts.length G.F.ps x).getD 0)), (52, .bool (zbx G.F.ts.length G.F.ps x).isSome), (8, .pointer (some ⟨s, 0, none⟩))]) (fun s w' => Below W5.drew.heap.size W5.drew w' ∧ w'.heap[s]? = some (.cells #[.int .i64 0] 3 (0, 0)) ∧ W5.drew.heap.size ≤ s ∧ (fun X => X.cell? ⟨w.heap.size, 0, none⟩ = some (.pointer (some ⟨G.sb, 0, none⟩)) ∧ X.cell? ⟨G.sb, 0, none⟩ = some (.slice G.F.A0 G.F.ts.length G.F.c0) ∧ X.cell? ⟨G.sb, 1, none⟩ = some (.slice G.F.A1 G.F.ns.length G.F.c1) ∧ X.cell? ⟨G.sb, 2, none⟩ = some (.slice G.F.A2 G.F.ps.length G.F.c2) ∧ X.cell? ⟨b7, 0, none⟩ = some (.int .i64 x.1) ∧ X.cell? ⟨b7, 1, none⟩ = some (.int .i64 x.2.1) ∧ X.cell? ⟨b7, 2, none⟩ = some (.int .i64 x.2.2)) w') ?_ ?_
    rotate_left
    ·intro hCont
     refine two_ (i := 5) (j := 9) (Ni := (some 50)) (Nj := (some 8)) #[Yt,Yt,Yt,Yt,Yt,Yt,Nf,Nf,Nf,Nf,Nf,Nf] #[Yt,Yt,Yt,Yt,Yt,Nf,Nf,Nf,Nf,Yt,Nf,Nf] rfl rfl rfl rfl (by kernel_rfl) (by decide) (by decide) (fun K hK => ?_) (fun K hK => ?_)
     ·skip
      refine Ygh Tryz.func15 #[.agg #[.slice G.F.A0 G.F.ts.length G.F.c0, .slice G.F.A1 G.F.ns.length G.F.c1, .slice G.F.A2 G.F.ps.length G.F.c2], .agg #[.int .i64 x.1, .int .i64 x.2.1, .int .i64 x.2.2]] ?_
      refine (zfx G.F x W5.drew hGd5.K).mono ?_
      rintro e W6 ⟨rfl, hB6⟩
      refine ⟨_, rfl, ?_⟩
      have hh6 := keep8 _ _ hB6 hHeld8
      refine hK.out _ _ hh6 (fun h0_ => ?_)
      clear hK K h0_
      refine Ynm 50 ?_
      refine Ypk 6 44 12 127 ?_
      refine Ypk 7 51 12 255 ?_
      refine Ypk 8 52 12 511 ?_
      refine Yok 9 8 12 1023 (fun K hK => ?_)
      refine zcm (w1 := W6.alloc (.cells #[.int .i64 0] 3)) (v := .pointer (some ⟨W6.heap.size, 0, none⟩)) (by rfl) rfl ?_ ?_
      ·go_simp
      have hBa : Below W6.heap.size W6 (W6.alloc (.cells #[.int .i64 0] 3)) := (Below.refl _ _).alloc (Nat.le_refl _) _
      have hhA := keep8 _ _ hBa hh6
      refine hK.out _ _ hhA (fun h0_ => ?_)
      clear hK K h0_
      refine Ynm 8 ?_
      exact zep (by first | (simp only [zc1, Act.put, Y1, Y2, Y3]; done) | (simp only [zc1, Act.put, Y1, Y2, Y3]; rfl)) (hCont W6.heap.size _ ⟨hB6.trans (hBa.mono hB6.size), za9 W6 _, hB6.size, hhA⟩)
     ·skip
      refine zcm (w1 := W5.drew.alloc (.cells #[.int .i64 0] 3)) (v := .pointer (some ⟨W5.drew.heap.size, 0, none⟩)) (by rfl) rfl ?_ ?_
      ·go_simp
      have hBa : Below W5.drew.heap.size W5.drew (W5.drew.alloc (.cells #[.int .i64 0] 3)) := (Below.refl _ _).alloc (Nat.le_refl _) _
      have hhA := keep8 _ _ hBa hHeld8
      refine hK.out _ _ hhA (fun h0_ => ?_)
      clear hK K h0_
      refine Ynm 8 ?_
      refine Yok 5 50 12 575 (fun K hK => ?_)
      refine Ygh Tryz.func15 #[.agg #[.slice G.F.A0 G.F.ts.length G.F.c0, .slice G.F.A1 G.F.ns.length G.F.c1, .slice G.F.A2 G.F.ps.length G.F.c2], .agg #[.int .i64 x.1, .int .i64 x.2.1, .int .i64 x.2.2]] ?_
      refine (zfx G.F x (W5.drew.alloc (.cells #[.int .i64 0] 3)) (hGd5.K.below hBa)).mono ?_
      rintro e W6 ⟨rfl, hB6⟩
      refine ⟨_, rfl, ?_⟩
      have hh6 := keep8 _ _ hB6 hhA
      refine hK.out _ _ hh6 (fun h0_ => ?_)
      clear hK K h0_
      refine Ynm 50 ?_
      refine Ypk 6 44 12 639 ?_
      refine Ypk 7 51 12 767 ?_
      refine Ypk 8 52 12 1023 ?_
      exact zep (by first | (simp only [zc1, Act.put, Y1, Y2, Y3]; done) | (simp only [zc1, Act.put, Y1, Y2, Y3]; rfl)) (hCont W5.drew.heap.size _ ⟨hBa.trans (hB6.mono hBa.size), zat (za9 W5.drew _) hB6, Nat.le_refl _, hh6⟩)
    rintro b8 W7 ⟨hB7, hb8, hge8, hh7⟩
    have hfz8 := zdi hb8 0
    have hc8 := zab hb8 0
    refine zep (a' := ?_) ?_ ?_
    rotate_left
    ·simp only [zc1, Act.put, Y1, Y2, Y3]
     rfl
    refine one_ (i := 10) (N := none) (Ymk 12 2047) rfl rfl (by kernel_rfl) (by decide) (fun K hK => ?_)
    refine skip_ (w1 := W7.setCell ⟨b8, 0, none⟩ (.int .i64 ((zbx G.F.ts.length G.F.ps x).getD 0))) (by rfl) rfl ?_ ?_
    ·go_simp
    have hh8 : (fun X => X.cell? ⟨w.heap.size, 0, none⟩ = some (.pointer (some ⟨G.sb, 0, none⟩)) ∧ X.cell? ⟨G.sb, 0, none⟩ = some (.slice G.F.A0 G.F.ts.length G.F.c0) ∧ X.cell? ⟨G.sb, 1, none⟩ = some (.slice G.F.A1 G.F.ns.length G.F.c1) ∧ X.cell? ⟨G.sb, 2, none⟩ = some (.slice G.F.A2 G.F.ps.length G.F.c2) ∧ X.cell? ⟨b7, 0, none⟩ = some (.int .i64 x.1) ∧ X.cell? ⟨b7, 1, none⟩ = some (.int .i64 x.2.1) ∧ X.cell? ⟨b7, 2, none⟩ = some (.int .i64 x.2.2)) (W7.setCell ⟨b8, 0, none⟩ (.int .i64 ((zbx G.F.ts.length G.F.ps x).getD 0))) := keep8 W5.drew _ (hB7.setCell (p := ⟨b8, 0, none⟩) hge8 _) hHeld8
    refine hK.out _ _ hh8 (fun h0_ => ?_)
    clear hK K h0_
    refine Ypk 11 9 12 4095 ?_
    refine zbq (by kernel_rfl) ?_
    refine hK8 _ _ ?_
    have bq8 : Boxed W7 b8 3 (.int .i64 0) := hb8
    have hB58 : Below W5.heap.size W5 (W7.setCell ⟨b8, 0, none⟩ (.int .i64 ((zbx G.F.ts.length G.F.ps x).getD 0))) := (((za4 (Below.refl W5.heap.size W5)).trans hB7)).setCell (p := ⟨b8, 0, none⟩) hge8 _
    have bs8 := bq8.set (.int .i64 ((zbx G.F.ts.length G.F.ps x).getD 0))
    obtain ⟨nv, hnv⟩ : ∃ nv, zbx G.F.ts.length G.F.ps x = nv := ⟨_, rfl⟩
    rw [hnv] at hB58 bs8 hcl'
    rw [hnv]
    obtain ⟨W8, hW8⟩ : ∃ X, W7.setCell ⟨b8, 0, none⟩ (.int .i64 (nv.getD 0)) = X := ⟨_, rfl⟩
    rw [hW8] at hB58 bs8
    rw [hW8]
    have cs8 : CS G w (w.heap.size + 1) b6 (S ++ [x]) T0 W8 := cs5.keep hB58
    have bx8 := zat bx5 hB58
    have hd8 : ∀ D ∈ Ds, b6 < D ∧ W8.heap[D]? = some (.deferred (some [])) := fun D hD => ⟨(hd5 D hD).1, zat (hd5 D hD).2 hB58⟩
    have sz8 : b6 < W8.heap.size := by have := zbk bx8; omega
    have hG8 := hG.below cs8.below
    have HGG := Lib.hid hG
    have h8 : b8 < W8.heap.size := zbk bs8
    clear hK8 keep8 hHeld8 hh7 hh8 hb8 hge8 hfz8 hc8 bq8 hB7 hW8 hB58 hG hGd5 cs5 bx5 hd5 sz5 W7 W5
    gi_wp2
    rename_i K9 hK9
    cases nv with
    | none =>
     simp only [Option.isSome_none, Option.getD_none] at bs8 ⊢
     have hHeld : (fun X => X.cell? ⟨w.heap.size, 0, none⟩ = some (.pointer (some ⟨G.sb, 0, none⟩)) ∧ X.cell? ⟨G.sb, 0, none⟩ = some (.slice G.F.A0 G.F.ts.length G.F.c0)) W8.drew := ⟨zab (zah cs8.bx) 0, zab (zah hG8.blk) 0⟩
     refine wpIn_wide.2 (Ahd.zcy (zbl (S := (fun X => X.cell? ⟨w.heap.size, 0, none⟩ = some (.pointer (some ⟨G.sb, 0, none⟩)) ∧ X.cell? ⟨G.sb, 0, none⟩ = some (.slice G.F.A0 G.F.ts.length G.F.c0))) (ds := []) (Ymk 12 0) (by kernel_rfl) rfl rfl hHeld (fun h0_ => ?_)))
     clear h0_
     refine Ypk 0 53 12 1 ?_
     refine Ypk 1 54 12 3 ?_
     refine Ypk 2 55 12 7 ?_
     refine Ypj 3 56 12 15 ?_
     refine Ypj 4 57 12 31 ?_
     refine Ypj 5 58 12 63 ?_
     refine Ypj 6 59 12 127 ?_
     refine Ypj 7 60 12 255 ?_
     refine Ypj 8 61 12 511 ?_
     refine Ypj 9 62 12 1023 ?_
     refine Ypj 10 63 12 2047 ?_
     refine Ypk 11 64 12 4095 ?_
     refine zbq (by kernel_rfl) ?_
     refine hK9 _ _ ?_
     have cs9 : CS G w (w.heap.size + 1) b6 (S ++ [x]) T0 W8.drew := cs8.keep (za4 (Below.refl _ _))
     simp only [List.append_nil] at hcl'
     have HC' := Lib.hid hcl'
     have HD' := Lib.hid hd8
     clear hcl' hd8 hHeld hK9 hnv
     gi_wp2
     exact ⟨m, by omega, LI.of (S ++ [x]) T0 Ds (by rfl) rfl cs9 HC'.out hnd (fun D hD => HD'.out D hD) (by show b6 < W8.heap.size; omega)⟩
    | some s =>
     simp only [Option.isSome_some, Option.getD_some] at bs8 ⊢
     have hHeld : (fun X => X.cell? ⟨w.heap.size, 0, none⟩ = some (.pointer (some ⟨G.sb, 0, none⟩)) ∧ X.cell? ⟨G.sb, 0, none⟩ = some (.slice G.F.A0 G.F.ts.length G.F.c0) ∧ X.cell? ⟨b8, 0, none⟩ = some (.int .i64 s)) W8.drew := ⟨zab (zah cs8.bx) 0, zab (zah hG8.blk) 0, zab (zah (show W8.heap[b8]? = some (.cells #[.int .i64 s] 3 (0, 0)) from bs8)) 0⟩
     refine wpIn_wide.2 (Ahd.zcy (zbl (S := (fun X => X.cell? ⟨w.heap.size, 0, none⟩ = some (.pointer (some ⟨G.sb, 0, none⟩)) ∧ X.cell? ⟨G.sb, 0, none⟩ = some (.slice G.F.A0 G.F.ts.length G.F.c0) ∧ X.cell? ⟨b8, 0, none⟩ = some (.int .i64 s))) (ds := []) (Ymk 12 0) (by kernel_rfl) rfl rfl hHeld (fun h0_ => ?_)))
     clear h0_
     refine Ypk 0 53 12 1 ?_
     refine Ypk 1 54 12 3 ?_
     refine Ypk 2 55 12 7 ?_
     refine Ytk 3 56 12 15 hHeld ?_
     refine Ytk 4 57 12 31 hHeld ?_
     refine Ypk 5 58 12 63 ?_
     refine Ypk 6 59 12 127 ?_
     refine Ypk 7 60 12 255 ?_
     refine Ytk 8 61 12 511 hHeld ?_
     refine Ypk 9 62 12 1023 ?_
     refine Ypk 10 63 12 2047 ?_
     refine Ypk 11 64 12 4095 ?_
     refine zbq (by kernel_rfl) ?_
     refine hK9 _ _ ?_
     by_cases hlt : s < (G.F.ts.length : Int)
     ·have cs9 : CS G w (w.heap.size + 1) b6 (S ++ [x]) T0 W8.drew := cs8.keep (za4 (Below.refl _ _))
      simp only [if_pos hlt, List.append_nil] at hcl'
      have HC' := Lib.hid hcl'
      have HD' := Lib.hid hd8
      clear hcl' hd8 hHeld hK9 hnv
      gi_wp2
      exact ⟨m, by omega, LI.of (S ++ [x]) T0 Ds (by rfl) rfl cs9 HC'.out hnd (fun D hD => HD'.out D hD) (by show b6 < W8.heap.size; omega)⟩
     ·simp only [if_neg hlt] at hcl'
      have h32 : Fence.wide.fn 49 := trivial
      have i0 : W8.drew.cell? ⟨b7, 0, none⟩ = some (.int .i64 x.1) := zab (zah bx8) 0
      have i1 : W8.drew.cell? ⟨b7, 1, none⟩ = some (.int .i64 x.2.1) := zab (zah bx8) 1
      have i2 : W8.drew.cell? ⟨b7, 2, none⟩ = some (.int .i64 x.2.2) := zab (zah bx8) 2
      have i3 : W8.drew.cell? ⟨w.heap.size, 0, none⟩ = some (.pointer (some ⟨G.sb, 0, none⟩)) := zab (zah cs8.bx) 0
      have hlk := looks_calls G.sb x W8.drew
      have HC' := Lib.hid hcl'
      have HD' := Lib.hid hd8
      clear hcl' hd8 hHeld hK9 hG8
      gi_wp2_with (gi_at_call 49; refine (callsIn_wide.2 hlk).mono ?_; rintro e X9 ⟨rfl, hX9⟩)
      have hG := HGG.out
      obtain ⟨hf1, hf2, hf3, hf4, hf5, hf6⟩ := zc4.1 hfv
      have hx3 : x.2.1 < ((za1 G.F.ts.length G.F.ps x.1).length : Int) := by
       unfold zbx at hnv
       rw [if_pos hfv] at hnv
       by_cases hlt' : x.2.1.toNat < (za1 G.F.ts.length G.F.ps x.1).length
       ·omega
       ·rw [List.getElem?_eq_none (by omega)] at hnv
        cases hnv
      have hsN : s < (G.N : Int) := by
       unfold zbx at hnv
       rw [if_pos hfv] at hnv
       obtain ⟨i, hi1, rfl⟩ := Option.map_eq_some_iff.1 hnv
       have hmi := List.mem_of_getElem? hi1
       unfold za1 at hmi
       have hnn := hG.nn
       have hn1 := hG.n1
       split at hmi
       ·simp at hmi; subst hmi; show (G.F.ts.length : Int) < _; omega
       ·rename_i hx0
        have hm' : G.F.ps.getD x.1.toNat dP ∈ G.F.ps := by
         rw [List.getD_eq_getElem?_getD, List.getElem?_eq_getElem (by omega)]
         exact List.getElem_mem _
        exact ((hG.prs _ hm').1.2.2 i hmi).2
      obtain ⟨b1, hb1⟩ : ∃ b, W8.drew.heap.size = b := ⟨_, rfl⟩
      have hb1' : W8.heap.size = b1 := hb1
      have hB89 : Below W8.heap.size W8 X9 := by rw [← hX9]; exact ((za4 (Below.refl W8.heap.size W8)).alloc (Nat.le_refl _) _).alloc (by simp) _
      have h91 : X9.heap[b1]? = some (.cells #[.pointer (some ⟨G.sb, 0, none⟩)] 58 (0, 0)) := by rw [← hX9, ← hb1]; exact zaj (za9 W8.drew _) _
      have h92 : X9.heap[b1 + 1]? = some (.cells #[.int .i64 x.1, .int .i64 x.2.1, .int .i64 x.2.2] TL (0, 0)) := by
       rw [← hX9, ← hb1]
       have := za9 (W8.drew.alloc (.cells #[.pointer (some ⟨G.sb, 0, none⟩)] 58)) (.cells #[.int .i64 x.1, .int .i64 x.2.1, .int .i64 x.2.2] TL)
       simpa using this
      have sz9 : X9.heap.size = b1 + 2 := by rw [← hX9, ← hb1]; simp
      (try rw [hb1])
      (try rw [hb1'])
      obtain ⟨LK, hLK⟩ : ∃ LK, zda em Ss x.2.2 ((za1 G.F.ts.length G.F.ps x.1).drop (x.2.1.toNat + 1)) = LK := ⟨_, rfl⟩
      have hseq := looks_stops G em Ss x w X9 b1 (b1 + 1) hG (cs8.below.trans (hB89.mono cs8.below.size)) h91 h92 hf2 hf3 hx3 hxok.2.2
      rw [hLK] at hseq HC'
      have hTl : T0.length + LK.length * (ofV G.F.ps s).length ≤ 1000000000 := by
       have := closV_len HC'.out
       rw [List.length_append, rowsV_len] at this
       exact this
      obtain ⟨A8, c8, hbx8, hrow8⟩ := cs8.todo
      have rs9 : RS G w (w.heap.size + 1) b6 (b1 + 1) b8 (b1 + 2) s Ds (S ++ [x]) (T0 ++ zdw G.F.ps s (vals [])) X9 := by
       have e : T0 ++ zdw G.F.ps s (vals []) = T0 := by simp [vals, zdw]
       rw [e]
       exact ⟨cs8.keep hB89, ⟨_, zat hbx8 hB89, fun e' => by have := own_lt hrow8 e'; omega⟩, zat bs8 hB89, fun D hD => zat (HD'.out D hD).2 hB89, by omega⟩
      have hDl : ∀ D ∈ Ds, D < b1 := fun D hD => by have := zbk (HD'.out D hD).2; omega
      have hDn : ∀ D ∈ Ds, b6 < D := fun D hD => (HD'.out D hD).1
      have hof : ∀ p ∈ ofV G.F.ps s, 0 ≤ p ∧ p < 1000000 := fun p hp => by have := ofF_mem s 0 G.F.ps p hp; have := hG.psl; omega
      have HSQ := Lib.hid hseq
      have hw8 := cs8.below.size
      clear hlk hX9 HD' i0 i1 i2 i3 hbx8 hrow8 hLK hnv hf1 hf3 hf4 hf5 hf6 hfv h91 h92 hseq cs8 bx8 bs8 hB89 hb1 hln hn hlen hx3
      refine rangeG1 (gf := 60) (lb := #[.pointer (some ⟨b1, 0, none⟩), .pointer (some ⟨b1 + 1, 0, none⟩)]) (enc1 := fun z : I64 => .int .i64 z.1) (q := 10) rfl (enters_of Tryz.func60 (by kernel_rfl) rfl) HSQ.out (keepQ_refl _ _) keepQ_t (keepQ_b (by omega) (by omega))
       (fun pre X => RS G w (w.heap.size + 1) b6 (b1 + 1) b8 (b1 + 2) s Ds (S ++ [x]) (T0 ++ zdw G.F.ps s (vals pre)) X)
       (fun pre X X' hs ht => hs.turn ht (by omega) (by omega) (fun D hD => by have := hDl D hD; omega)) rs9 ?assign ?body ?done
      case assign =>
       intro l z X K hK
       simp only [Y1, Y2, Y3] at hK ⊢
       gi_wp2
       exact hK
      case body =>
       intro l pre z X hX9 hi hpN
       simp only [Y1, Y2, Y3]
       gi_wp2
       rename_i K12 hK12
       obtain ⟨M, hM, hMs⟩ := hG.map
       obtain ⟨Ao, co, hlo, hCo⟩ := hMs s hlt hsN
       have hbX : Below w.heap.size w X.drew := za4 hi.cs.below
       have hGx := hG.below hbX
       have hswf : (Lit.int .i64 s).wf = true := by have := hG.few; simp [Lit.wf, IntKind.min, IntKind.max, IntKind.bits, IntKind.signed]; omega
       have hz2 : (zeroValue 35).run Tryz.prog X.drew = .ok (.slice none 0 0) X.drew := by rfl
       have hlk0 := MapAt.look (hM.keep (W' := X.drew) (hbX.block _ hM.lt)) Tryz.underlying74 hz2 hswf
       rw [hlo] at hlk0
       have hlk : (Instr.lookup 74 (.map (some G.ob)) (.int .i64 s) false).run Tryz.prog X.drew = .ok (.slice Ao (ofV G.F.ps s).length co) X.drew := hlk0
       have hHeld : (fun X => X.cell? ⟨w.heap.size, 0, none⟩ = some (.pointer (some ⟨G.sb, 0, none⟩)) ∧ X.cell? ⟨G.sb, 5, none⟩ = some (.map (some G.ob)) ∧ X.cell? ⟨b8, 0, none⟩ = some (.int .i64 s)) X.drew := ⟨zab (zah hi.cs.bx) 0, zab hGx.blk 5, zab (zah (show X.heap[b8]? = some (.cells #[.int .i64 s] 3 (0, 0)) from hi.sym)) 0⟩
       clear hlk0 hz2 hMs hM hlo hGx
       refine start_round (S := (fun X => X.cell? ⟨w.heap.size, 0, none⟩ = some (.pointer (some ⟨G.sb, 0, none⟩)) ∧ X.cell? ⟨G.sb, 5, none⟩ = some (.map (some G.ob)) ∧ X.cell? ⟨b8, 0, none⟩ = some (.int .i64 s))) (ds := []) (Ymk 8 0) (by kernel_rfl) (by kernel_rfl) rfl rfl hHeld (fun h0_ => ?_)
       clear h0_
       refine Ytk 0 69 8 1 hHeld ?_
       refine Ypk 1 70 8 3 ?_
       refine Ypk 2 71 8 7 ?_
       refine Ytk 3 72 8 15 hHeld ?_
       refine Ytk 4 73 8 31 hHeld ?_
       refine Ypk 7 76 8 159 ?_
       refine Yok 5 74 8 191 (fun K hK => ?_)
       refine zcm (w1 := X.drew) (v := .slice Ao (ofV G.F.ps s).length co) (by rfl) rfl ?_ ?_
       ·go_simp
       refine hK.out _ _ hHeld (fun h0_ => ?_)
       clear hK K h0_
       refine Ynm 74 ?_
       refine Ypk 6 75 8 255 ?_
       refine zbq (by kernel_rfl) ?_
       refine hK12 _ _ ?_
       have rs0 : RS G w (w.heap.size + 1) b6 (b1 + 1) b8 (b1 + 2) s Ds (S ++ [x]) (T0 ++ zdw G.F.ps s (vals pre)) X.drew := hi.keep (za4 (Below.refl _ _))
       obtain ⟨T1, hT1⟩ : ∃ T1, T0 ++ zdw G.F.ps s (vals pre) = T1 := ⟨_, rfl⟩
       have hT1l : T1.length = T0.length + pre.length * (ofV G.F.ps s).length := by rw [← hT1, List.length_append, rowsV_len]; simp [vals]
       have hmul : (pre.length + 1) * (ofV G.F.ps s).length ≤ LK.length * (ofV G.F.ps s).length := Nat.mul_le_mul_right _ hpN
       rw [Nat.succ_mul] at hmul
       have hTb : T1.length + (ofV G.F.ps s).length ≤ 1000000000 := by omega
       have HT1 := Lib.hid hT1
       rw [hT1] at rs0
       obtain ⟨OF, hOF⟩ : ∃ OF, ofV G.F.ps s = OF := ⟨_, rfl⟩
       have HOF := Lib.hid hOF
       rw [hOF] at hTb hof hCo
       rw [hOF]
       have hOFl : OF.length ≤ 9223372036854775807 := by omega
       have hzw : (Lit.int .i64 z.1).wf = true := z.2
       have K1 : KeepsFrom 0 X X.drew := ⟨Nat.le_refl _, fun _ _ _ h _ => h⟩
       have K2 : zfs w.heap.size (b1 + 1) X X.drew := ⟨⟨za4 (Below.refl _ _), fun _ _ _ => rfl⟩, fun _ _ _ _ h _ _ => h⟩
       obtain ⟨i0, hi0, hz0, hz1, hz2⟩ := info_parts infoLr
       clear hHeld hlk hK12 hi hT1 hmul hOF hT1l hTl hpN
       gi_wp2
       gi_loopw [76] (fun i wr => ∃ q : Nat, i = .int .i64 (q : Int) ∧ q ≤ OF.length ∧ RS G w (w.heap.size + 1) b6 (b1 + 1) b8 (b1 + 2) s Ds (S ++ [x]) (T1 ++ (OF.take q).map fun p => (p, 0, z.1)) wr ∧ KeepsFrom 0 X wr ∧ zfs w.heap.size (b1 + 1) X wr) (fun i _ => OF.length - (Go.RowKit.intOf i).toNat)
       case atStart => exact ⟨0, rfl, Nat.zero_le _, by simpa using rs0, K1, K2⟩
       case round =>
        clear rs0 K1 K2
        obtain ⟨q, rfl, hq, hrs, hk1, hk2⟩ := hrel
        by_cases hqt : q < OF.length
        ·obtain ⟨ado, pq, rfl, hpq, f0'⟩ := atInt hCo q hqt
         have f0 := zad hrs.cs.below f0'
         obtain ⟨A5, c5, hbx5, hrow5⟩ := hrs.cs.todo
         have hp5 := hof pq (List.mem_of_getElem? hpq)
         have cv5 := hbx5.cell
         have htk := zdq hpq
         have htl : (T1 ++ (OF.take q).map fun p => ((p, 0, z.1) : Lr)).length = T1.length + q := by rw [List.length_append, List.length_map, List.length_take]; omega
         obtain ⟨T5, hT5⟩ : ∃ T5, (T1 ++ (OF.take q).map fun p => ((p, 0, z.1) : Lr)) = T5 := ⟨_, rfl⟩
         have hnext : T1 ++ (OF.take (q + 1)).map (fun p => ((p, 0, z.1) : Lr)) = T5 ++ [((pq, 0, z.1) : Lr)] := by rw [htk, List.map_append, ← List.append_assoc, hT5]; rfl
         rw [hT5] at htl hrs hbx5 hrow5 cv5
         have one : ∀ u ∈ [Value.int .i64 pq, .int .i64 0, .int .i64 z.1], u.oneCell' = true := by
          intro u hu
          simp at hu
          rcases hu with rfl | rfl | rfl <;> rfl
         have H1 := Lib.hid one
         have HN := Lib.hid hnext
         have maxl : maxLen = 9223372036854775807 := rfl
         have HM := Lib.hid maxl
         have hwr5 := hrs.cs.below.size
         have hszr := hrs.sz
         have hlz : lrOk ((pq, 0, z.1) : Lr) := ⟨by simp [Lit.wf, IntKind.min, IntKind.max, IntKind.bits, IntKind.signed]; omega, by show (Lit.int .i64 0).wf = true; decide, hzw⟩
         have HTL := Lib.hid htl
         clear one maxl htk hnext hT5 f0' hpq htl
         gi_wp2_with (gi_at_builtin; refine wpListIn_append_own_at _ rfl _ _ 45 rfl w.heap.size TL i0 (.agg #[.int .i64 0, .int .i64 0, .int .i64 0]) 3 24 Tryz.underlying45 hi0 hz0 hz1 hz2 rfl (by decide) _ _ _ rfl (hrow5.alloc _) ⟨wr.heap.size, 0, none⟩ 1 1 [.int .i64 pq, .int .i64 0, .int .i64 z.1] rfl rfl (zhe _ _ _ _) H1.out (by have := HM.out; have := HTL.out; omega) (by have := HTL.out; omega) (by simp; omega) ?_; intro v' w1 hown' hgrow _ hat; obtain ⟨g', cap', rfl⟩ := ownsRow_succ hown'; obtain ⟨hv1, hr2, hk3, hk4⟩ := RS.push hrs hbx5 hrow5 hown' hgrow hat (by omega) hmbb (by omega) (by omega) hlz; have hc1 := hv1.cell; have hf1 := hv1.frozen)
         go_roundw
         case rel => exact ⟨q + 1, by first | rfl | go_num, by omega, by rw [HN.out]; exact hr2, hk1.trans hk3, keepQ_t hk2 hk4⟩
         case measure => simp [Go.RowKit.intOf]; omega
        ·obtain rfl : q = OF.length := by omega
         rw [List.take_length] at hrs
         gi_wp2
         refine ⟨⟨hk1.size, fun j o _ hj hc => hk1.same j o (Nat.zero_le _) hj hc⟩, hk2, ?_⟩
         have e : vals (pre ++ [z]) = vals pre ++ [z.1] := vals_app1 _ _
         show RS _ _ _ _ _ _ _ _ _ _ _ _
         rw [e, rowsV_snoc, ← List.append_assoc, HT1.out, HOF.out]
         exact hrs
      case done =>
       intro D xs X hD hxs hi hDd
       rw [hxs] at hi
       have hnd' : (D :: Ds).Nodup := List.nodup_cons.2 ⟨fun h => by have := hDl D h; omega, hnd⟩
       have hDs' : ∀ E ∈ D :: Ds, b6 < E ∧ X.heap[E]? = some (.deferred (some [])) := by
        intro E hE
        rcases List.mem_cons.1 hE with rfl | hE
        ·exact ⟨by omega, hDd⟩
        ·exact ⟨hDn E hE, hi.ds E hE⟩
       have HH := Lib.hid (And.intro hnd' hDs')
       have hszX := hi.sz
       clear hnd' hDs' hDd hxs hDl hDn
       gi_wp2
       exact ⟨m, by omega, LI.of (S ++ [x]) (T0 ++ zdw G.F.ps s LK) (D :: Ds) (by rfl) rfl hi.cs HC'.out HH.out.1 HH.out.2 (by omega)⟩
end Go.Proofs.ZZ.LClos
end
section
namespace Go.Proofs.ZZ.LLay
open Go Go.RowKit Go.Shelf Go.Maps Go.Proofs.ZW.PrintWords Go.Proofs.ZW.PrintLast Go.Proofs.ZZ.Round Go.Proofs.ZZ.RangeG Go.Proofs.ZZ.Fl Go.Proofs.ZZ.Grow Go.Proofs.ZZ.Deri Go.Proofs.ZZ.Begin Go.Proofs.ZZ.Begun Go.Proofs.ZZ.Seqs Go.Proofs.ZZ.LrK Go.Proofs.ZZ.GMap Go.Proofs.ZZ.LFlat Go.Proofs.ZZ.LLooks
def OfAt (F : FG) (base ob j : Nat) (W : World) : Prop := ∃ M, MapAt keyI ob M W ∧ M.length ≤ j ∧ ∀ i : Nat, i < j → ∃ A c, GMap.look M ((F.ts.length : Int) + (i : Int)) = some (.slice A (ofV F.ps ((F.ts.length : Int) + (i : Int))).length c) ∧ Kd.R (Kd.int .i64) TI W base (fun _ => True) (.slice A (ofV F.ps ((F.ts.length : Int) + (i : Int))).length c) (ofV F.ps ((F.ts.length : Int) + (i : Int)))
theorem R_map {α : Type} {d : Kd α} {e base b : Nat} {W W' : World} {v : Value} {xs : List α} (h : d.R e W base (fun _ => True) v xs) {es : Array MapEntry} {cl : Nat} (hb : W.heap[b]? = some (.map es cl)) (hg : W.grownBy W' (some b)) : d.R e W' base (fun _ => True) v xs :=
 Kd.zba (Kd.ze2 (Kd.zcz h) hg (fun k hk e' => by
  obtain ⟨_, _, _, q, _, cs, hc⟩ := hk
  injection e' with e'
  rw [e', hb] at hc
  cases hc)) (fun _ _ => trivial)
theorem zdl {W W' : World} {b k : Nat} {cs : Array Value} {t : TypeId} {fr : Nat × Nat} (h : W.heap[k]? = some (.cells cs t fr)) {es : Array MapEntry} {cl : Nat} (hb : W.heap[b]? = some (.map es cl)) (hg : W.grownBy W' (some b)) : W'.heap[k]? = some (.cells cs t fr) :=
 (hg.block k (zbk h) (fun e' => by injection e' with e'; rw [← e', h] at hb; cases hb)).trans h
theorem lay_calls (F : FG) (w : World) (hFK : F.K w) (N : Nat) (hN : F.ts.length + F.ns.length = N) (hN6 : N ≤ 999999) (hn1 : 1 ≤ F.ns.length) (hpl : F.ps.length ≤ 1000000) (hps : ∀ p ∈ F.ps, PrOk N p ∧ p.2.1.length ≤ 1000)
  (k0 : Nat) (em : List Bool) (hem : zb2 zb7 F.ps k0 (List.replicate N false) = some em) (k1 : Nat) (Ss : List (List Int)) (hSs : zb2 (zcg N em) F.ps k1 (zcq N F.ts.length) = some Ss) (hSl : Ss.length = N) (hfok : ∀ S ∈ Ss, S.length ≤ 1000000 ∧ ∀ z ∈ S, (Lit.int .i64 z).wf = true) :
  Calls Tryz.prog 27 #[F.val] w fun e w' => ∃ G : SG, e = .returned (.pointer (some ⟨G.sb, 0, none⟩)) ∧ G.F = F ∧ G.N = N ∧ G.At em Ss w' ∧ Below w.heap.size w w' := by
 have hfirst := fun W (hb : Below w.heap.size w W) => Sorts.first_calls W F.A0 F.A1 F.A2 F.ts.length F.ns.length F.c0 F.c1 F.c2 N hN (by omega) F.ps (Kd.zak hFK.h2 hb) (by omega) hps k0 em hem k1 Ss hSs
 have hempty := fun W (hb : Below w.heap.size w W) => zii W F.A0 F.A1 F.A2 F.ts.length F.ns.length F.c0 F.c1 F.c2 N hN F.ps (Kd.zak hFK.h2 hb) (by omega) (fun p hp => (hps p hp).1) k0 em hem
 simp only [FG.val, FG.row]
 have HPS := Lib.hid hps
 have HFO := Lib.hid hfok
 have HEM := Lib.hid hem
 have hmm := @run_makeMap Tryz.prog
 have hl0 : F.ts.length ≤ 999999 := by omega
 have hl1 : F.ns.length ≤ 999999 := by omega
 clear hps hfok hem hSs
 obtain ⟨W1, hW1⟩ : ∃ W1, w.alloc (.cells #[.slice F.A0 F.ts.length F.c0, .slice F.A1 F.ns.length F.c1, .slice F.A2 F.ps.length F.c2] 25) = W1 := ⟨_, rfl⟩
 have bf : W1.heap[w.heap.size]? = some (.cells #[.slice F.A0 F.ts.length F.c0, .slice F.A1 F.ns.length F.c1, .slice F.A2 F.ps.length F.c2] 25 (0, 0)) := by rw [← hW1]; exact za9 w _
 have hb1 : Below w.heap.size w W1 := by rw [← hW1]; exact (Below.refl _ _).alloc (Nat.le_refl _) _
 go_enter Tryz.func27, Tryz.ntmps27
 go_wp2
 rename_i K1 hK1
 (try rw [hW1])
 obtain ⟨Wd, hWd⟩ : ∃ X, W1.drew = X := ⟨_, rfl⟩
 have hbd : Below w.heap.size w Wd := by rw [← hWd]; exact za4 hb1
 have bfd : Wd.heap[w.heap.size]? = some (.cells #[.slice F.A0 F.ts.length F.c0, .slice F.A1 F.ns.length F.c1, .slice F.A2 F.ps.length F.c2] 25 (0, 0)) := by rw [← hWd]; exact zah bf
 have hhd : (fun X => X.cell? ⟨w.heap.size, 0, none⟩ = some (.slice F.A0 F.ts.length F.c0) ∧ X.cell? ⟨w.heap.size, 1, none⟩ = some (.slice F.A1 F.ns.length F.c1) ∧ X.cell? ⟨w.heap.size, 2, none⟩ = some (.slice F.A2 F.ps.length F.c2)) Wd := ⟨zab bfd 0, zab bfd 1, zab bfd 2⟩
 have keep1 : ∀ X Y : World, Below X.heap.size X Y → (fun X => X.cell? ⟨w.heap.size, 0, none⟩ = some (.slice F.A0 F.ts.length F.c0) ∧ X.cell? ⟨w.heap.size, 1, none⟩ = some (.slice F.A1 F.ns.length F.c1) ∧ X.cell? ⟨w.heap.size, 2, none⟩ = some (.slice F.A2 F.ps.length F.c2)) X → (fun X => X.cell? ⟨w.heap.size, 0, none⟩ = some (.slice F.A0 F.ts.length F.c0) ∧ X.cell? ⟨w.heap.size, 1, none⟩ = some (.slice F.A1 F.ns.length F.c1) ∧ X.cell? ⟨w.heap.size, 2, none⟩ = some (.slice F.A2 F.ps.length F.c2)) Y := fun X Y h hh => ⟨zad h hh.1, zad h hh.2.1, zad h hh.2.2⟩
 refine Ahd.zcy (zbl (S := (fun X => X.cell? ⟨w.heap.size, 0, none⟩ = some (.slice F.A0 F.ts.length F.c0) ∧ X.cell? ⟨w.heap.size, 1, none⟩ = some (.slice F.A1 F.ns.length F.c1) ∧ X.cell? ⟨w.heap.size, 2, none⟩ = some (.slice F.A2 F.ps.length F.c2))) (ds := []) (Ymk 9 0) (by kernel_rfl) rfl rfl (by rw [hWd]; exact hhd) (fun h0_ => ?_))
 rw [hWd]
 clear h0_
 refine Ytk 0 5 9 1 hhd ?_
 refine Ytk 1 6 9 3 hhd ?_
 refine Ytk 3 8 9 11 hhd ?_
 refine join_ (σ := Option Addr × Nat × Nat × Nat) 3 #[Yt,Yt,Yt,Yt,Yt,Yt,Nf,Nf,Nf] (fun s => [(7, .slice s.1 Ss.length s.2.1), (9, .slice (some ⟨s.2.2.1, 0, none⟩) N N), (10, .map (some s.2.2.2))]) (fun s w' => w'.heap[w.heap.size]? = some (.cells #[.slice F.A0 F.ts.length F.c0, .slice F.A1 F.ns.length F.c1, .slice F.A2 F.ps.length F.c2] 25 (0, 0)) ∧ Below w.heap.size w w' ∧ Kd.R (Kd.slice TI (Kd.int .i64)) 35 w' w.heap.size (fun _ => True) (.slice s.1 Ss.length s.2.1) Ss ∧ w'.heap[s.2.2.1]? = some (.cells (em.map Value.bool).toArray 4 (0, 0)) ∧ MapAt keyI s.2.2.2 [] w' ∧ w.heap.size ≤ s.2.2.2 ∧ em.length = N ∧ (fun X => X.cell? ⟨w.heap.size, 0, none⟩ = some (.slice F.A0 F.ts.length F.c0) ∧ X.cell? ⟨w.heap.size, 1, none⟩ = some (.slice F.A1 F.ns.length F.c1) ∧ X.cell? ⟨w.heap.size, 2, none⟩ = some (.slice F.A2 F.ps.length F.c2)) w') ?_ ?_
 rotate_left
 ·intro hCont
  refine two_ (i := 2) (j := 5) (Ni := (some 7)) (Nj := (some 10)) #[Yt,Yt,Yt,Yt,Nf,Nf,Nf,Nf,Nf] #[Yt,Yt,Nf,Yt,Nf,Yt,Nf,Nf,Nf] rfl rfl rfl rfl (by kernel_rfl) (by decide) (by decide) (fun K hK => ?_) (fun K hK => ?_)
  ·skip
   refine Ygh Tryz.func44 #[.agg #[.slice F.A0 F.ts.length F.c0, .slice F.A1 F.ns.length F.c1, .slice F.A2 F.ps.length F.c2]] ?_
   refine (hfirst Wd hbd).mono ?_
   rintro e W3 ⟨v3, rfl, hR3, hB3⟩
   obtain ⟨A3, c3, rfl⟩ := Kd.zbj hR3
   refine ⟨_, rfl, ?_⟩
   have hb3 := hbd.trans (hB3.mono hbd.size)
   have hh3 := keep1 _ _ hB3 hhd
   refine hK.out _ _ hh3 (fun h0_ => ?_)
   clear hK K h0_
   refine Ynm 7 ?_
   refine two_ (i := 4) (j := 5) (Ni := (some 9)) (Nj := (some 10)) #[Yt,Yt,Yt,Yt,Yt,Nf,Nf,Nf,Nf] #[Yt,Yt,Yt,Yt,Nf,Yt,Nf,Nf,Nf] rfl rfl rfl rfl (by kernel_rfl) (by decide) (by decide) (fun K hK => ?_) (fun K hK => ?_)
   ·skip
    refine Ygh Tryz.func45 #[.agg #[.slice F.A0 F.ts.length F.c0, .slice F.A1 F.ns.length F.c1, .slice F.A2 F.ps.length F.c2]] ?_
    refine (hempty W3 hb3).mono ?_
    rintro e W4 ⟨g4, rfl, hl4, hg4, hh4_, hB4⟩
    refine ⟨_, rfl, ?_⟩
    have hb4 := hb3.trans (hB4.mono hb3.size)
    have hh4 := keep1 _ _ hB4 hh3
    refine hK.out _ _ hh4 (fun h0_ => ?_)
    clear hK K h0_
    refine Ynm 9 ?_
    refine Yok 5 10 9 63 (fun K hK => ?_)
    refine zcm (w1 := W4.alloc (.map #[] 0)) (v := .map (some W4.heap.size)) (by rfl) rfl ?_ ?_
    ·go_simp
    obtain ⟨W5, hW5⟩ : ∃ X, W4.alloc (.map #[] 0) = X := ⟨_, rfl⟩
    have ho5 : W5.heap[W4.heap.size]? = some (.map #[] 0) := by rw [← hW5]; exact za9 _ _
    have hm5 : MapAt keyI W4.heap.size [] W5 := by rw [← hW5]; exact MapAt.new _
    obtain ⟨ob, hob⟩ : ∃ b, W4.heap.size = b := ⟨_, rfl⟩
    have hlt5 : w.heap.size ≤ ob := by rw [← hob]; exact hb4.size
    rw [hob] at ho5 hm5
    rw [hob]
    have hB5 : Below W4.heap.size W4 W5 := by rw [← hW5]; exact (Below.refl _ _).alloc (Nat.le_refl _) _
    rw [hW5]
    clear hW5 hob
    have hb5 := hb4.trans (hB5.mono hb4.size)
    have hh5 := keep1 _ _ hB5 hh4
    refine hK.out _ _ hh5 (fun h0_ => ?_)
    clear hK K h0_
    refine Ynm 10 ?_
    exact zep (by first | (simp only [zc1, Act.put, Y1, Y2, Y3]; done) | (simp only [zc1, Act.put, Y1, Y2, Y3]; rfl)) (hCont (A3, c3, g4, ob) _ ⟨(zat (zat (zat bfd hB3) hB4) hB5), hb5, (Kd.zbc (Kd.zbc (Kd.zbz hR3 hbd.size) hB4) hB5), (zat hh4_ hB5), hm5, hlt5, hl4, hh5⟩)
   ·skip
    refine zcm (w1 := W3.alloc (.map #[] 0)) (v := .map (some W3.heap.size)) (by rfl) rfl ?_ ?_
    ·go_simp
    obtain ⟨W5, hW5⟩ : ∃ X, W3.alloc (.map #[] 0) = X := ⟨_, rfl⟩
    have ho5 : W5.heap[W3.heap.size]? = some (.map #[] 0) := by rw [← hW5]; exact za9 _ _
    have hm5 : MapAt keyI W3.heap.size [] W5 := by rw [← hW5]; exact MapAt.new _
    obtain ⟨ob, hob⟩ : ∃ b, W3.heap.size = b := ⟨_, rfl⟩
    have hlt5 : w.heap.size ≤ ob := by rw [← hob]; exact hb3.size
    rw [hob] at ho5 hm5
    rw [hob]
    have hB5 : Below W3.heap.size W3 W5 := by rw [← hW5]; exact (Below.refl _ _).alloc (Nat.le_refl _) _
    rw [hW5]
    clear hW5 hob
    have hb5 := hb3.trans (hB5.mono hb3.size)
    have hh5 := keep1 _ _ hB5 hh3
    refine hK.out _ _ hh5 (fun h0_ => ?_)
    clear hK K h0_
    refine Ynm 10 ?_
    refine Yok 4 9 9 63 (fun K hK => ?_)
    refine Ygh Tryz.func45 #[.agg #[.slice F.A0 F.ts.length F.c0, .slice F.A1 F.ns.length F.c1, .slice F.A2 F.ps.length F.c2]] ?_
    refine (hempty W5 hb5).mono ?_
    rintro e W4 ⟨g4, rfl, hl4, hg4, hh4_, hB4⟩
    refine ⟨_, rfl, ?_⟩
    have hb4 := hb5.trans (hB4.mono hb5.size)
    have hh4 := keep1 _ _ hB4 hh5
    refine hK.out _ _ hh4 (fun h0_ => ?_)
    clear hK K h0_
    refine Ynm 9 ?_
    exact zep (by first | (simp only [zc1, Act.put, Y1, Y2, Y3]; done) | (simp only [zc1, Act.put, Y1, Y2, Y3]; rfl)) (hCont (A3, c3, g4, ob) _ ⟨(zat (zat (zat bfd hB3) hB5) hB4), hb4, (Kd.zbc (Kd.zbc (Kd.zbz hR3 hbd.size) hB5) hB4), hh4_, (hm5.keep (hB4.block _ (hm5).lt)), hlt5, hl4, hh4⟩)
  ·skip
   refine zcm (w1 := Wd.alloc (.map #[] 0)) (v := .map (some Wd.heap.size)) (by rfl) rfl ?_ ?_
   ·go_simp
   obtain ⟨W5, hW5⟩ : ∃ X, Wd.alloc (.map #[] 0) = X := ⟨_, rfl⟩
   have ho5 : W5.heap[Wd.heap.size]? = some (.map #[] 0) := by rw [← hW5]; exact za9 _ _
   have hm5 : MapAt keyI Wd.heap.size [] W5 := by rw [← hW5]; exact MapAt.new _
   obtain ⟨ob, hob⟩ : ∃ b, Wd.heap.size = b := ⟨_, rfl⟩
   have hlt5 : w.heap.size ≤ ob := by rw [← hob]; exact hbd.size
   rw [hob] at ho5 hm5
   rw [hob]
   have hB5 : Below Wd.heap.size Wd W5 := by rw [← hW5]; exact (Below.refl _ _).alloc (Nat.le_refl _) _
   rw [hW5]
   clear hW5 hob
   have hb5 := hbd.trans (hB5.mono hbd.size)
   have hh5 := keep1 _ _ hB5 hhd
   refine hK.out _ _ hh5 (fun h0_ => ?_)
   clear hK K h0_
   refine Ynm 10 ?_
   refine Yok 2 7 9 47 (fun K hK => ?_)
   refine Ygh Tryz.func44 #[.agg #[.slice F.A0 F.ts.length F.c0, .slice F.A1 F.ns.length F.c1, .slice F.A2 F.ps.length F.c2]] ?_
   refine (hfirst W5 hb5).mono ?_
   rintro e W3 ⟨v3, rfl, hR3, hB3⟩
   obtain ⟨A3, c3, rfl⟩ := Kd.zbj hR3
   refine ⟨_, rfl, ?_⟩
   have hb3 := hb5.trans (hB3.mono hb5.size)
   have hh3 := keep1 _ _ hB3 hh5
   refine hK.out _ _ hh3 (fun h0_ => ?_)
   clear hK K h0_
   refine Ynm 7 ?_
   refine Yok 4 9 9 63 (fun K hK => ?_)
   refine Ygh Tryz.func45 #[.agg #[.slice F.A0 F.ts.length F.c0, .slice F.A1 F.ns.length F.c1, .slice F.A2 F.ps.length F.c2]] ?_
   refine (hempty W3 hb3).mono ?_
   rintro e W4 ⟨g4, rfl, hl4, hg4, hh4_, hB4⟩
   refine ⟨_, rfl, ?_⟩
   have hb4 := hb3.trans (hB4.mono hb3.size)
   have hh4 := keep1 _ _ hB4 hh3
   refine hK.out _ _ hh4 (fun h0_ => ?_)
   clear hK K h0_
   refine Ynm 9 ?_
   exact zep (by first | (simp only [zc1, Act.put, Y1, Y2, Y3]; done) | (simp only [zc1, Act.put, Y1, Y2, Y3]; rfl)) (hCont (A3, c3, g4, ob) _ ⟨(zat (zat (zat bfd hB5) hB3) hB4), hb4, (Kd.zbc (Kd.zbz hR3 hb5.size) hB4), hh4_, ((hm5.keep (hB3.block _ (hm5).lt)).keep (hB4.block _ ((hm5.keep (hB3.block _ (hm5).lt))).lt)), hlt5, hl4, hh4⟩)
 rintro ⟨A3, c3, g4, ob⟩ W6 ⟨bf6, hb6, hR6, hg6, hm6, hlt6, heml, hh6⟩
 refine zep (a' := ?_) ?_ ?_
 rotate_left
 ·simp only [zc1, Act.put, Y1, Y2, Y3]
  rfl
 refine Ypk 6 11 9 127 ?_
 refine Yok 7 12 9 255 (fun K hK => ?_)
 refine zcm (w1 := W6.alloc (.cells #[.slice F.A0 F.ts.length F.c0, .slice F.A1 F.ns.length F.c1, .slice F.A2 F.ps.length F.c2, .slice A3 Ss.length c3, .slice (some ⟨g4, 0, none⟩) N N, .map (some ob)] 76)) (v := .pointer (some ⟨W6.heap.size, 0, none⟩)) (by rfl) rfl ?_ ?_
 ·go_simp
 have hB6a : Below W6.heap.size W6 (W6.alloc (.cells #[.slice F.A0 F.ts.length F.c0, .slice F.A1 F.ns.length F.c1, .slice F.A2 F.ps.length F.c2, .slice A3 Ss.length c3, .slice (some ⟨g4, 0, none⟩) N N, .map (some ob)] 76)) := (Below.refl _ _).alloc (Nat.le_refl _) _
 have hh6a := keep1 _ _ hB6a hh6
 refine hK.out _ _ hh6a (fun h0_ => ?_)
 clear hK K h0_
 refine Ynm 12 ?_
 refine Ypk 8 3 9 511 ?_
 refine zbq (by kernel_rfl) ?_
 refine hK1 _ _ ?_
 have bs := za9 W6 (.cells #[.slice F.A0 F.ts.length F.c0, .slice F.A1 F.ns.length F.c1, .slice F.A2 F.ps.length F.c2, .slice A3 Ss.length c3, .slice (some ⟨g4, 0, none⟩) N N, .map (some ob)] 76)
 obtain ⟨W7, hW7⟩ : ∃ X, W6.alloc (.cells #[.slice F.A0 F.ts.length F.c0, .slice F.A1 F.ns.length F.c1, .slice F.A2 F.ps.length F.c2, .slice A3 Ss.length c3, .slice (some ⟨g4, 0, none⟩) N N, .map (some ob)] 76) = X := ⟨_, rfl⟩
 obtain ⟨sb, hsb⟩ : ∃ b, W6.heap.size = b := ⟨_, rfl⟩
 rw [hW7] at bs hB6a hh6a
 rw [hsb] at bs
 rw [hW7]
 (try rw [hsb])
 have hb7 : Below w.heap.size w W7 := hb6.trans (hB6a.mono hb6.size)
 have hR7 := Kd.zbc hR6 hB6a
 have hg7 := zat hg6 hB6a
 have hm7 : OfAt F w.heap.size ob 0 W7 := ⟨[], hm6.keep (hB6a.block _ hm6.lt), Nat.le_refl _, fun i hi => absurd hi (Nat.not_lt_zero _)⟩
 have bf7 : W7.cell? ⟨w.heap.size, 1, none⟩ = some (.slice F.A1 F.ns.length F.c1) := hh6a.2.1
 have HH7 := Lib.hid (show W7.heap[w.heap.size]? = some (.cells #[.slice F.A0 F.ts.length F.c0, .slice F.A1 F.ns.length F.c1, .slice F.A2 F.ps.length F.c2] 25 (0, 0)) by rw [← hW7]; exact zaj bf6 _)
 have hob : ob ≠ sb := by
  intro e
  obtain ⟨es, cl, h⟩ := hm6.block
  exact absurd (zbk h) (by rw [e, hsb]; exact Nat.lt_irrefl _)
 have hsw : w.heap.size ≤ sb := by rw [← hsb]; exact hb6.size
 clear hK1 keep1 hhd hfirst hempty hmm hR6 hg6 hm6 hh6 hB6a hh6a hW7 hsb hWd hbd bfd bf hb1 hW1 hb6;go_wp2
 go_loopw [16] (fun i wr => ∃ j : Nat, i = .int .i64 (j : Int) ∧ j ≤ F.ns.length ∧ OfAt F w.heap.size ob j wr ∧ Kd.R (Kd.slice TI (Kd.int .i64)) 35 wr w.heap.size (fun _ => True) (.slice A3 Ss.length c3) Ss ∧ Hid (wr.heap[g4]? = some (.cells (em.map Value.bool).toArray 4 (0, 0))) ∧ Hid (wr.heap[sb]? = some (.cells #[.slice F.A0 F.ts.length F.c0, .slice F.A1 F.ns.length F.c1, .slice F.A2 F.ps.length F.c2, .slice A3 Ss.length c3, .slice (some ⟨g4, 0, none⟩) N N, .map (some ob)] 76 (0, 0))) ∧ Hid (wr.heap[w.heap.size]? = some (.cells #[.slice F.A0 F.ts.length F.c0, .slice F.A1 F.ns.length F.c1, .slice F.A2 F.ps.length F.c2] 25 (0, 0))) ∧ Below w.heap.size w wr) (fun i _ => F.ns.length - (Go.RowKit.intOf i).toNat)
 case atStart => exact ⟨0, rfl, Nat.zero_le _, hm7, hR7, Lib.hid hg7, Lib.hid bs, HH7, hb7⟩
 case round =>
  clear hm7 hR7 hg7 bs HH7 hb7 bf7
  obtain ⟨j, rfl, hj, hO, hR, HG, HS, HH, hb⟩ := hrel
  by_cases hlt : j < F.ns.length
  ·have hwr : IntKind.i64.wrap ((F.ts.length : Int) + (j : Int)) = (F.ts.length : Int) + (j : Int) := by rw [IntKind.wrap_i64]; omega
   have hswf : (Lit.int .i64 ((F.ts.length : Int) + (j : Int))).wf = true := by simp [Lit.wf, IntKind.min, IntKind.max, IntKind.bits, IntKind.signed]; omega
   obtain ⟨M, hmap, hMl, hMs⟩ := hO
   have HM := Lib.hid hMs
   clear hMs;go_wp2
   rename_i K5 hK5
   have hbd : Below w.heap.size w wr.drew := za4 hb
   have hmd : MapAt keyI ob M wr.drew := hmap.keep rfl
   have hHeld : (fun X => X.cell? ⟨sb, 5, none⟩ = some (.map (some ob)) ∧ X.cell? ⟨w.heap.size, 0, none⟩ = some (.slice F.A0 F.ts.length F.c0) ∧ X.cell? ⟨w.heap.size, 1, none⟩ = some (.slice F.A1 F.ns.length F.c1) ∧ X.cell? ⟨w.heap.size, 2, none⟩ = some (.slice F.A2 F.ps.length F.c2)) wr.drew := ⟨zab (zah HS.out) 5, zab (zah HH.out) 0, zab (zah HH.out) 1, zab (zah HH.out) 2⟩
   have keep5 : ∀ X Y : World, Below X.heap.size X Y → (fun X => X.cell? ⟨sb, 5, none⟩ = some (.map (some ob)) ∧ X.cell? ⟨w.heap.size, 0, none⟩ = some (.slice F.A0 F.ts.length F.c0) ∧ X.cell? ⟨w.heap.size, 1, none⟩ = some (.slice F.A1 F.ns.length F.c1) ∧ X.cell? ⟨w.heap.size, 2, none⟩ = some (.slice F.A2 F.ps.length F.c2)) X → (fun X => X.cell? ⟨sb, 5, none⟩ = some (.map (some ob)) ∧ X.cell? ⟨w.heap.size, 0, none⟩ = some (.slice F.A0 F.ts.length F.c0) ∧ X.cell? ⟨w.heap.size, 1, none⟩ = some (.slice F.A1 F.ns.length F.c1) ∧ X.cell? ⟨w.heap.size, 2, none⟩ = some (.slice F.A2 F.ps.length F.c2)) Y := fun X Y h hh => ⟨zad h hh.1, zad h hh.2.1, zad h hh.2.2.1, zad h hh.2.2.2⟩
   refine Ahd.zcy (zbl (S := (fun X => X.cell? ⟨sb, 5, none⟩ = some (.map (some ob)) ∧ X.cell? ⟨w.heap.size, 0, none⟩ = some (.slice F.A0 F.ts.length F.c0) ∧ X.cell? ⟨w.heap.size, 1, none⟩ = some (.slice F.A1 F.ns.length F.c1) ∧ X.cell? ⟨w.heap.size, 2, none⟩ = some (.slice F.A2 F.ps.length F.c2))) (ds := [16]) (Ymk 17 0) (by kernel_rfl) rfl rfl hHeld (fun h0_ => ?_))
   clear h0_
   refine Ypk 0 19 17 1 ?_
   refine Ypk 1 20 17 3 ?_
   refine Ypk 2 21 17 7 ?_
   refine Ytk 3 22 17 15 hHeld ?_
   refine Ypk 4 23 17 31 ?_
   refine Ytk 5 24 17 63 hHeld ?_
   refine Ypk 6 25 17 127 ?_
   refine Ypk 7 26 17 255 ?_
   refine Ypk 8 27 17 511 ?_
   refine Ytk 9 28 17 1023 hHeld ?_
   refine Ypk 10 29 17 2047 ?_
   refine Ytk 11 30 17 4095 hHeld ?_
   refine Ypk 12 31 17 8191 ?_
   refine Ypk 13 32 17 16383 ?_
   refine Ypk 14 33 17 32767 ?_
   refine Yok 15 34 17 65535 (fun K hK => ?_)
   refine Ygh Tryz.func46 #[.agg #[.slice F.A0 F.ts.length F.c0, .slice F.A1 F.ns.length F.c1, .slice F.A2 F.ps.length F.c2], .int .i64 ((F.ts.length : Int) + (j : Int))] ?_
   refine (of_calls F ((F.ts.length : Int) + (j : Int)) wr.drew (hFK.below hbd) (by omega)).mono ?_
   rintro e W8 ⟨v8, rfl, hR8, hB8⟩
   obtain ⟨A8, c8, rfl⟩ := Kd.zbj hR8
   refine ⟨_, rfl, ?_⟩
   have hh8 := keep5 _ _ hB8 hHeld
   have hm8 := hmd.keep (hB8.block _ hmd.lt)
   obtain ⟨W9, hup, hm9, hg9⟩ := MapAt.put hm8 Tryz.underlying74 (by simp [maxLen]; omega) hswf (.slice A8 (ofV F.ps ((F.ts.length : Int) + (j : Int))).length c8)
   have hup' : (Instr.mapUpdate 74 (.map (some ob)) (.int .i64 ((F.ts.length : Int) + (j : Int))) (.slice A8 (ofV F.ps ((F.ts.length : Int) + (j : Int))).length c8)).run Tryz.prog W8 = .ok () W9 := hup
   refine hK.out _ _ hh8 (fun h0_ => ?_)
   clear hK K h0_
   refine zfv (i := 16) (N := none) (Ymk 17 131071) rfl rfl (by kernel_rfl) (by decide) (fun K hK0 => ?_)
   refine skip_ (w1 := W9) (by rfl) rfl ?_ ?_
   ·go_simp
   refine hK0.out _ _ ?_
   refine zbq (by kernel_rfl) ?_
   refine hK5 _ _ ?_
   obtain ⟨es, cl, hmo⟩ := hm8.block
   have hb8 := hbd.trans (hB8.mono hbd.size)
   have hb9 : Below w.heap.size w W9 := hb8.grown hg9 hb8.size (fun k hk => by cases hk; omega)
   have n1 := Lib.hid (zdl (zat (zah HG.out) hB8) hmo hg9)
   have n2 := Lib.hid (zdl (zat (zah HS.out) hB8) hmo hg9)
   have n3 := Lib.hid (zdl (zat (zah HH.out) hB8) hmo hg9)
   have n4 := R_map (Kd.zbc (Kd.zbn hR) hB8) hmo hg9
   have n5 : OfAt F w.heap.size ob (j + 1) W9 := by
    refine ⟨_, hm9, by have := putM_le ((F.ts.length : Int) + (j : Int)) (.slice A8 (ofV F.ps ((F.ts.length : Int) + (j : Int))).length c8) M; omega, fun i hi => ?_⟩
    rw [ze6]
    by_cases he : i = j
    ·subst he
     rw [if_pos rfl]
     exact ⟨A8, c8, rfl, R_map (Kd.zbz hR8 hbd.size) hmo hg9⟩
    ·rw [if_neg (by omega)]
     obtain ⟨A, c, e1, e2⟩ := HM.out i (by omega)
     exact ⟨A, c, e1, R_map (Kd.zbc (Kd.zbn e2) hB8) hmo hg9⟩
   clear hHeld keep5 hh8 hup hup' hm8 hm9 hg9 hR8 hmo hR HG HS HH hK5 hbd hmd hmap hB8 hb8 hb;go_wp2
   go_roundw
   case rel => exact ⟨j + 1, by first | rfl | go_num, by omega, n5, n4, n1, n2, n3, hb9⟩
   case measure => simp [Go.RowKit.intOf]; omega
  ·obtain rfl : j = F.ns.length := by omega
   have HO := Lib.hid hO
   have HR := Lib.hid hR
   clear hO hR;go_wp2;go_ret
   obtain ⟨M, hmap, hMl, hMs⟩ := HO.out
   obtain ⟨_, _, hC⟩ := Kd.R_reads' HR.out
   refine ⟨⟨sb, ob, F, A3, some ⟨g4, 0, none⟩, c3, N, N⟩, rfl, rfl, rfl, ⟨by rw [← hSl]; simpa [hSl] using HS.out, hN, by show N ≤ 1000000; omega, hn1, hFK.below hb, by rw [← hSl]; exact hC, HFO.out, ?_, ⟨M, hmap, fun s h1 h2 => ?_⟩, hpl, HPS.out⟩, hb⟩
   ·refine ⟨heml, by show N ≤ 9223372036854775807; omega, fun _ => ⟨⟨g4, 0, none⟩, rfl, fun q p hq => ⟨[.bool p], rfl, rfl, fun i v hv => ?_⟩⟩⟩
    have hi0 : i = 0 := by
     cases i with
     | zero => rfl
     | succ i => simp at hv
    subst hi0
    obtain rfl : Value.bool p = v := by simpa using hv
    show wr.cell? ((⟨g4, 0, none⟩ : Addr).add (q * 1 + 0)) = _
    rw [add_plain, zab HG.out]
    simp [hq]
   ·obtain ⟨i, hi⟩ : ∃ i : Nat, s = (F.ts.length : Int) + (i : Int) := ⟨(s - F.ts.length).toNat, by have h1' : (F.ts.length : Int) ≤ s := h1; omega⟩
    subst hi
    obtain ⟨A, c, e1, e2⟩ := hMs i (by have h2' : ((F.ts.length : Int) + (i : Int)) < (N : Int) := h2; omega)
    obtain ⟨_, _, hC'⟩ := Kd.R_reads' e2
    exact ⟨A, c, e1, hC'⟩
end Go.Proofs.ZZ.LLay
end
section
namespace Go.Proofs.ZZ.LInv
open Go Go.RowKit Go.Shelf Go.Maps Go.Proofs.ZW.PrintWords Go.Proofs.ZZ.Fl Go.Proofs.ZZ.Grow Go.Proofs.ZZ.Deri Go.Proofs.ZZ.MSet Go.Proofs.ZZ.Ahd Go.Proofs.ZZ.Begin Go.Proofs.ZZ.Begun Go.Proofs.ZZ.Seqs Go.Proofs.ZZ.LFlat Go.Proofs.ZZ.LLooks
structure Inv (N : Nat) (FS : List (List Int)) : Prop where
 r : ∀ S ∈ FS, zc8 S
 l : FS.length = N
 d : Bd FS
theorem zeq {FS : List (List Int)} {i : Nat} : FS.getD i [] = [] ∨ FS.getD i [] ∈ FS := by
 rw [List.getD_eq_getElem?_getD]
 cases e : FS[i]? with
 | none => exact .inl rfl
 | some S => exact .inr (List.mem_of_getElem? e)
theorem Inv.rise {N : Nat} {FS : List (List Int)} (h : Inv N FS) (i : Nat) : zc8 (FS.getD i []) := by
 rcases zeq (FS := FS) (i := i) with e | e
 ·rw [e]; exact List.Pairwise.nil
 ·exact h.r _ e
theorem Inv.len {N : Nat} {FS : List (List Int)} (h : Inv N FS) (i : Nat) : (FS.getD i []).length ≤ 1000000 := by
 rcases zeq (FS := FS) (i := i) with e | e
 ·rw [e]; simp
 ·exact zgz h.d h.r _ e
theorem Inv.zcg {N : Nat} {em : List Bool} {FS : List (List Int)} {p : P} (h : Inv N FS) : Inv N (Begin.zcg N em FS p).1 := by
 refine ⟨fun S hS => ?_, by show (List.set _ _ _).length = _; rw [List.length_set]; exact h.l, stepF_bd h.d⟩
 rcases List.mem_or_eq_of_mem_set hS with hS | rfl
 ·exact h.r S hS
 ·exact zcu _ (h.rise _)
theorem Inv.init {N n0 : Nat} (hN : N ≤ 1000000) : Inv N (zcq N n0) := by
 refine ⟨fun S hS => ?_, zgl _ _, zi2 hN⟩
 obtain ⟨q, hq, e⟩ := List.mem_iff_getElem.1 hS
 have := zfj (S := S) (by rw [List.getElem?_eq_getElem hq, e])
 subst this
 split
 ·exact List.pairwise_singleton _ _
 ·exact List.Pairwise.nil
theorem inv_grow {N : Nat} {em : List Bool} {ps : List P} : ∀ (k : Nat) (FS Ss : List (List Int)), Inv N FS → zb2 (zcg N em) ps k FS = some Ss → Inv N Ss
 | 0, _, _, _, h => nomatch h
 | k + 1, FS, Ss, hI, h => by
  have hr : ∀ (l : List P) (s : List (List Int) × Bool), Inv N s.1 → Inv N (l.foldl (zce (zcg N em)) s).1 := by
   intro l
   induction l with
   | nil => exact fun s h => h
   | cons p t ih => exact fun s h => ih _ (Inv.zcg h)
  have h1 : Inv N (zc5 (zcg N em) ps FS).1 := hr ps (FS, false) hI
  simp only [zb2] at h
  split at h
  ·exact inv_grow k _ _ h1 h
  ·cases h
   exact h1
structure Rdy (F : FG) (k : Nat) (em : List Bool) (Ss : List (List Int)) : Prop where
 n6 : F.ts.length + F.ns.length ≤ 999999
 n1 : 1 ≤ F.ns.length
 pl : F.ps.length ≤ 1000000
 ps : ∀ p ∈ F.ps, PrOk (F.ts.length + F.ns.length) p ∧ p.2.1.length ≤ 1000
 he : zb2 zb7 F.ps k (List.replicate (F.ts.length + F.ns.length) false) = some em
 hs : zb2 (zcg (F.ts.length + F.ns.length) em) F.ps k (zcq (F.ts.length + F.ns.length) F.ts.length) = some Ss
theorem Rdy.inv {F : FG} {k : Nat} {em : List Bool} {Ss : List (List Int)} (h : Rdy F k em Ss) : Inv (F.ts.length + F.ns.length) Ss := inv_grow k _ _ (Inv.init (by have := h.n6; omega)) h.hs
theorem zfw (F : FG) (w : World) (hK : F.K w) (k : Nat) (em : List Bool) (Ss : List (List Int)) (h : Rdy F k em Ss) :
  Calls Tryz.prog 27 #[F.val] w fun e w' => ∃ G : SG, e = .returned (.pointer (some ⟨G.sb, 0, none⟩)) ∧ G.F = F ∧ G.N = F.ts.length + F.ns.length ∧ G.At em Ss w' ∧ Below w.heap.size w w' :=
 LLay.lay_calls F w hK _ rfl h.n6 h.n1 h.pl h.ps k em h.he k Ss h.hs h.inv.l (fun S hS => ⟨zgz h.inv.d h.inv.r S hS, fun z hz => by have := h.inv.d S hS z hz; simp [Lit.wf, IntKind.min, IntKind.max, IntKind.bits, IntKind.signed]; omega⟩)
end Go.Proofs.ZZ.LInv
end
section
namespace Go.Proofs.ZZ.LStep
open Go Go.RowKit Go.Shelf Go.Maps Go.Proofs.ZW.PrintWords Go.Proofs.ZW.PrintLast Go.Proofs.ZZ.Round Go.Proofs.ZZ.RangeG Go.Proofs.ZZ.Fl Go.Proofs.ZZ.Grow Go.Proofs.ZZ.Deri Go.Proofs.ZZ.Seqs Go.Proofs.ZZ.LrK Go.Proofs.ZZ.LSeq Go.Proofs.ZZ.LLex Go.Proofs.ZZ.LSort Go.Proofs.ZZ.LFlat Go.Proofs.ZZ.LLooks Go.Proofs.ZZ.LClos Go.Proofs.ZZ.LInv
def zcr (n0 : Nat) (ps : List P) (sym : Int) : List Lr → List Lr
 | [] => []
 | x :: t => if zbx n0 ps x = some sym then (x.1, x.2.1 + 1, x.2.2) :: zcr n0 ps sym t else zcr n0 ps sym t
theorem zh0 (n0 : Nat) (ps : List P) (sym : Int) (x : Lr) : ∀ l : List Lr, zcr n0 ps sym (l ++ [x]) = zcr n0 ps sym l ++ (if zbx n0 ps x = some sym then [(x.1, x.2.1 + 1, x.2.2)] else [])
 | [] => by simp only [List.nil_append, zcr]
 | a :: t => by
  have ih := zh0 n0 ps sym x t
  simp only [List.cons_append, zcr, ih]
  split <;> rfl
theorem zed (n0 : Nat) (ps : List P) (sym : Int) : ∀ l : List Lr, (zcr n0 ps sym l).length ≤ l.length
 | [] => Nat.le_refl _
 | a :: t => by
  have ih := zed n0 ps sym t
  simp only [zcr]
  split <;> simp <;> omega
theorem stepV_mem {n0 : Nat} {ps : List P} {sym : Int} {z : Lr} : ∀ {l : List Lr}, z ∈ zcr n0 ps sym l ↔ ∃ x ∈ l, zbx n0 ps x = some sym ∧ z = (x.1, x.2.1 + 1, x.2.2)
 | [] => by simp [zcr]
 | a :: t => by
  have ih := stepV_mem (n0 := n0) (ps := ps) (sym := sym) (z := z) (l := t)
  simp only [zcr]
  split
  ·rename_i h
   rw [List.mem_cons, ih]
   constructor
   ·rintro (h1 | ⟨x, h1, h2⟩)
    ·exact ⟨a, by simp, h, h1⟩
    ·exact ⟨x, by simp [h1], h2⟩
   ·rintro ⟨x, h1, h2, h3⟩
    rcases List.mem_cons.1 h1 with rfl | h1
    ·exact .inl h3
    ·exact .inr ⟨x, h1, h2, h3⟩
  ·rename_i h
   rw [ih]
   constructor
   ·rintro ⟨x, h1, h2⟩
    exact ⟨x, by simp [h1], h2⟩
   ·rintro ⟨x, h1, h2, h3⟩
    rcases List.mem_cons.1 h1 with rfl | h1
    ·exact absurd h2 h
    ·exact ⟨x, h1, h2, h3⟩
theorem next_fit {n0 : Nat} {ps : List P} {x : Lr} {s : Int} (h : zbx n0 ps x = some s) : fitV n0 ps x = true ∧ x.2.1 < ((za1 n0 ps x.1).length : Int) := by
 unfold zbx at h
 split at h
 ·rename_i hf
  obtain ⟨_, _, h2, h3, _, _⟩ := zc4.1 hf
  refine ⟨hf, ?_⟩
  by_cases hlt : x.2.1.toNat < (za1 n0 ps x.1).length
  ·omega
  ·rw [List.getElem?_eq_none (by omega)] at h
   cases h
 ·cases h
theorem next_step {n0 : Nat} {ps : List P} {x : Lr} {s : Int} (h : zbx n0 ps x = some s) : fitV n0 ps (x.1, x.2.1 + 1, x.2.2) = true := by
 obtain ⟨hf, hl⟩ := next_fit h
 obtain ⟨h0, h1, h2, h3, h4, h5⟩ := zc4.1 hf
 exact zc4.2 ⟨h0, h1, by show 0 ≤ x.2.1 + 1; omega, by show x.2.1 + 1 ≤ ((za1 n0 ps x.1).length : Int); omega, h4, h5⟩
theorem zgr {N n0 : Nat} {ps : List P} (h : ∀ p ∈ ps, PrOk N p ∧ p.2.1.length ≤ 1000) (prod : Int) : (za1 n0 ps prod).length ≤ 1000 := by
 unfold za1
 split
 ·simp
 ·rw [List.getD_eq_getElem?_getD]
  cases e : ps[prod.toNat]? with
  | none => simp [dP]
  | some p => exact (h p (List.mem_of_getElem? e)).2
theorem zjq (G : SG) (em : List Bool) (Ss : List (List Int)) (l : List Lr) (A : Option Addr) (c : Nat) (sym : Int) (w : World) (hG : G.At em Ss w) (hC : Kd.C kLr w A l.length l) (hll : l.length ≤ 1000000000) (k : Nat) (r : List Lr) (h : zb1 G.F.ts.length G.F.ps em Ss k [] (zcr G.F.ts.length G.F.ps sym l) = some r) :
  Calls Tryz.prog 29 #[.pointer (some ⟨G.sb, 0, none⟩), .slice A l.length c, .int .i64 sym] w fun e w' => ∃ v, e = .returned v ∧ Kd.R kLr TL w' w.heap.size (fun _ => True) v (srtL r) ∧ Below w.heap.size w w' := by
 have hok : ∀ z ∈ zcr G.F.ts.length G.F.ps sym l, lrOk z := by
  intro z hz
  obtain ⟨x, _, hn, rfl⟩ := stepV_mem.1 hz
  have := zgr (n0 := G.F.ts.length) hG.prs x.1
  exact fit_ok (next_step hn) hG.psl (by have := hG.few; have := hG.nn; omega) (by show (za1 G.F.ts.length G.F.ps x.1).length ≤ 1000000; omega)
 have HH := Lib.hid h
 have HOK := Lib.hid hok
 have HG := Lib.hid hG
 clear h hok hG
 go_enter Tryz.func29, Tryz.ntmps29
 go_wp2
 go_loopw [14, 7] (fun i o wr => ∃ j : Nat, i = .int .i64 (j : Int) ∧ j ≤ l.length ∧ Kd.R kLr TL wr w.heap.size (fun _ => True) o (zcr G.F.ts.length G.F.ps sym (l.take j)) ∧ Below w.heap.size w wr) (fun i _ _ => l.length - (Go.RowKit.intOf i).toNat)
 case atStart => exact ⟨0, rfl, Nat.zero_le _, Kd.zdr _ _ _ _ _, Below.refl _ _⟩
 case round =>
  obtain ⟨j, rfl, hj, hR, hb⟩ := hrel
  by_cases hlt : j < l.length
  ·obtain ⟨ad, x, rfl, hx, f0', f1', f2'⟩ := atLr hC j hlt
   have f0 := zad hb f0'
   have f1 := zad hb f1'
   have f2 := zad hb f2'
   have hGr := HG.out.below hb
   obtain ⟨W1, hW1⟩ : ∃ X, wr.alloc (.cells #[.int .i64 x.1, .int .i64 x.2.1, .int .i64 x.2.2] 50) = X := ⟨_, rfl⟩
   obtain ⟨bx, hbx⟩ : ∃ b, wr.heap.size = b := ⟨_, rfl⟩
   have b1 := za9 wr (.cells #[.int .i64 x.1, .int .i64 x.2.1, .int .i64 x.2.2] 50)
   have hB1 : Below wr.heap.size wr W1 := by rw [← hW1]; exact (Below.refl _ _).alloc (Nat.le_refl _) _
   have hb1 : Below w.heap.size w W1 := hb.trans (hB1.mono hb.size)
   have hR1 := Kd.zbc (Kd.zba (ok' := fun k => k ≠ bx) (Kd.zcz hR) (fun k hk e => by have := hk.2.2.1; omega)) hB1
   have hl7 := hb.size
   have htk := zdq hx
   have hsl := zed G.F.ts.length G.F.ps sym (l.take j)
   rw [List.length_take] at hsl
   rw [hW1, hbx] at b1
   rw [hbx] at hl7
   clear f0' f1' f2' hx hR;go_wp2
   rename_i K5 hK5
   (try rw [hW1])
   (try rw [hbx])
   have hG1 := HG.out.below hb1
   have hGd := HG.out.below (za4 hb1)
   clear hW1 hB1 hGr f0 f1 f2 hbx hb
   have hHeld : (fun X => X.cell? ⟨G.sb, 0, none⟩ = some (.slice G.F.A0 G.F.ts.length G.F.c0) ∧ X.cell? ⟨G.sb, 1, none⟩ = some (.slice G.F.A1 G.F.ns.length G.F.c1) ∧ X.cell? ⟨G.sb, 2, none⟩ = some (.slice G.F.A2 G.F.ps.length G.F.c2) ∧ X.cell? ⟨bx, 0, none⟩ = some (.int .i64 x.1) ∧ X.cell? ⟨bx, 1, none⟩ = some (.int .i64 x.2.1) ∧ X.cell? ⟨bx, 2, none⟩ = some (.int .i64 x.2.2)) W1.drew := ⟨zab (zah hG1.blk) 0, zab (zah hG1.blk) 1, zab (zah hG1.blk) 2, zab (zah b1) 0, zab (zah b1) 1, zab (zah b1) 2⟩
   have keep5 : ∀ X Y : World, Below X.heap.size X Y → (fun X => X.cell? ⟨G.sb, 0, none⟩ = some (.slice G.F.A0 G.F.ts.length G.F.c0) ∧ X.cell? ⟨G.sb, 1, none⟩ = some (.slice G.F.A1 G.F.ns.length G.F.c1) ∧ X.cell? ⟨G.sb, 2, none⟩ = some (.slice G.F.A2 G.F.ps.length G.F.c2) ∧ X.cell? ⟨bx, 0, none⟩ = some (.int .i64 x.1) ∧ X.cell? ⟨bx, 1, none⟩ = some (.int .i64 x.2.1) ∧ X.cell? ⟨bx, 2, none⟩ = some (.int .i64 x.2.2)) X → (fun X => X.cell? ⟨G.sb, 0, none⟩ = some (.slice G.F.A0 G.F.ts.length G.F.c0) ∧ X.cell? ⟨G.sb, 1, none⟩ = some (.slice G.F.A1 G.F.ns.length G.F.c1) ∧ X.cell? ⟨G.sb, 2, none⟩ = some (.slice G.F.A2 G.F.ps.length G.F.c2) ∧ X.cell? ⟨bx, 0, none⟩ = some (.int .i64 x.1) ∧ X.cell? ⟨bx, 1, none⟩ = some (.int .i64 x.2.1) ∧ X.cell? ⟨bx, 2, none⟩ = some (.int .i64 x.2.2)) Y := fun X Y h hh => ⟨zad h hh.1, zad h hh.2.1, zad h hh.2.2.1, zad h hh.2.2.2.1, zad h hh.2.2.2.2.1, zad h hh.2.2.2.2.2⟩
   refine Ahd.zcy (zbl (S := (fun X => X.cell? ⟨G.sb, 0, none⟩ = some (.slice G.F.A0 G.F.ts.length G.F.c0) ∧ X.cell? ⟨G.sb, 1, none⟩ = some (.slice G.F.A1 G.F.ns.length G.F.c1) ∧ X.cell? ⟨G.sb, 2, none⟩ = some (.slice G.F.A2 G.F.ps.length G.F.c2) ∧ X.cell? ⟨bx, 0, none⟩ = some (.int .i64 x.1) ∧ X.cell? ⟨bx, 1, none⟩ = some (.int .i64 x.2.1) ∧ X.cell? ⟨bx, 2, none⟩ = some (.int .i64 x.2.2))) (ds := []) (Ymk 11 0) (by kernel_rfl) rfl rfl hHeld (fun h0_ => ?_))
   clear h0_
   refine Ypk 0 19 11 1 ?_
   refine Ypk 1 20 11 3 ?_
   refine Ypk 2 21 11 7 ?_
   refine Ytk 3 22 11 15 hHeld ?_
   refine Ytk 4 23 11 31 hHeld ?_
   refine Yok 5 24 11 63 (fun K hK => ?_)
   refine Ygh Tryz.func15 #[.agg #[.slice G.F.A0 G.F.ts.length G.F.c0, .slice G.F.A1 G.F.ns.length G.F.c1, .slice G.F.A2 G.F.ps.length G.F.c2], .agg #[.int .i64 x.1, .int .i64 x.2.1, .int .i64 x.2.2]] ?_
   refine (zfx G.F x W1.drew hGd.K).mono ?_
   rintro e W4 ⟨rfl, hB4⟩
   refine ⟨_, rfl, ?_⟩
   have hh4 := keep5 _ _ hB4 hHeld
   refine hK.out _ _ hh4 (fun h0_ => ?_)
   clear hK K h0_
   refine Ypk 6 18 11 127 ?_
   refine Ypk 7 25 11 255 ?_
   refine Ypk 8 26 11 511 ?_
   refine Ypk 9 10 11 1023 ?_
   refine Ypk 10 11 11 2047 ?_
   refine zbq (by kernel_rfl) ?_
   refine hK5 _ _ ?_
   have hB14 : Below W1.heap.size W1 W4 := (za4 (Below.refl W1.heap.size W1)).trans hB4
   have b4 := zat b1 hB14
   have hb4 := hb1.trans (hB14.mono hb1.size)
   have hR4 := Kd.zbc hR1 hB14
   obtain ⟨nv, hnv⟩ : ∃ nv, zbx G.F.ts.length G.F.ps x = nv := ⟨_, rfl⟩
   rw [hnv]
   clear hK5 hHeld keep5 hh4 hB4 hGd hG1 hB14 hR1 b1 hb1
   have hfin : ∀ (b : Bool), (nv = some sym) = (b = true) → zcr G.F.ts.length G.F.ps sym (l.take (j + 1)) = zcr G.F.ts.length G.F.ps sym (l.take j) ++ (if b = true then [(x.1, x.2.1 + 1, x.2.2)] else []) := by
    intro b hb
    rw [htk, zh0, hnv]
    simp only [hb]
   have HFIN := Lib.hid hfin
   clear hfin htk
   cases nv with
   | none =>
    have HF := HFIN.out false (by simp)
    simp only [Bool.false_eq_true, if_false, List.append_nil] at HF
    have HF' := Lib.hid HF
    simp only [Option.getD_none, Option.isSome_none]
    clear HF hnv;go_wp2
    go_roundw
    case rel => exact ⟨j + 1, by first | rfl | go_num, by omega, by rw [HF'.out]; exact Kd.zba hR4 (fun _ _ => trivial), hb4⟩
    case measure => simp [Go.RowKit.intOf]; omega
   | some s =>
    simp only [Option.getD_some, Option.isSome_some]
    by_cases hs : s = sym
    ·subst hs
     have HF := HFIN.out true (by simp)
     simp only [if_true] at HF
     have HF' := Lib.hid HF
     have hwr : IntKind.i64.wrap (x.2.1 + 1) = x.2.1 + 1 := by
      obtain ⟨hf, hl⟩ := next_fit hnv
      obtain ⟨_, _, q2, _, _, _⟩ := zc4.1 hf
      have := zgr (n0 := G.F.ts.length) HG.out.prs x.1
      rw [IntKind.wrap_i64]; omega
     have i1 : W4.cell? ⟨bx, 1, none⟩ = some (.int .i64 x.2.1) := zab b4 1
     have z1 : W4.frozen? ⟨bx, 1, none⟩ = false := zdi b4 1
     have b5 := zg0 b4 1 (.int .i64 (x.2.1 + 1))
     have e5 : (#[Value.int .i64 x.1, .int .i64 x.2.1, .int .i64 x.2.2].setIfInBounds 1 (.int .i64 (x.2.1 + 1))) = #[.int .i64 x.1, .int .i64 (x.2.1 + 1), .int .i64 x.2.2] := rfl
     rw [e5] at b5
     obtain ⟨W5, hW5⟩ : ∃ X, W4.setCell ⟨bx, 1, none⟩ (.int .i64 (x.2.1 + 1)) = X := ⟨_, rfl⟩
     have hR5 : Kd.R kLr TL W5 w.heap.size (fun _ => True) u7 (zcr G.F.ts.length G.F.ps s (l.take j)) := by rw [← hW5]; exact Kd.zba (Kd.zdg hR4 (p := ⟨bx, 1, none⟩) (fun k hk => hk) _) (fun _ _ => trivial)
     have hb5 : Below w.heap.size w W5 := by rw [← hW5]; exact hb4.setCell (p := ⟨bx, 1, none⟩) (by show w.heap.size ≤ bx; omega) _
     rw [hW5] at b5
     have g0 : W5.cell? ⟨bx, 0, none⟩ = some (.int .i64 x.1) := zab b5 0
     have g1 : W5.cell? ⟨bx, 1, none⟩ = some (.int .i64 (x.2.1 + 1)) := zab b5 1
     have g2 : W5.cell? ⟨bx, 2, none⟩ = some (.int .i64 x.2.2) := zab b5 2
     have hsz5 := hb5.size
     clear HF hnv e5 b4 b5 hR4 HFIN
     go_wp2_with (at_builtin; (refine Kd.zdd kLr (w0 := w) w.heap.size rfl (.tmp 37) (.tmp 39) 45 TL (.agg #[.int .i64 0, .int .i64 0, .int .i64 0]) 24 rfl Tryz.underlying45 infoLr rfl (by decide) (by decide) u7 _ ((x.1, x.2.1 + 1, x.2.2) : Lr) [.int .i64 x.1, .int .i64 (x.2.1 + 1), .int .i64 x.2.2] (fun _ => True) (fun _ => False) rfl rfl ((kLr_M _ _ _ _ _).2 rfl) (fun _ h => h.elim) (fun _ _ => trivial) hR5 hb5 hsz5 (by omega) ?_); intro v1 W6 R6 hb6 hg6 _)
     go_roundw
     case rel => exact ⟨j + 1, by first | rfl | go_num, by omega, by rw [HF'.out]; exact R6, hb6⟩
     case measure => simp [Go.RowKit.intOf]; omega
    ·have HF := HFIN.out false (by simp [hs])
     simp only [Bool.false_eq_true, if_false, List.append_nil] at HF
     have HF' := Lib.hid HF
     have hse : (s == sym) = false := by simpa using hs
     clear HF hnv;go_wp2
     go_roundw
     case rel => exact ⟨j + 1, by first | rfl | go_num, by omega, by rw [HF'.out]; exact Kd.zba hR4 (fun _ _ => trivial), hb4⟩
     case measure => simp [Go.RowKit.intOf]; omega
  ·obtain rfl : j = l.length := by omega
   rw [List.take_length] at hR
   obtain ⟨A5, c5, hv, hl5, hC5⟩ := Kd.zds hR
   subst hv
   have hcl := zfo G em Ss _ A5 c5 wr (HG.out.below hb) hC5 HOK.out k r HH.out
   go_wp2_with (go_at_call 37; refine hcl.mono ?_; rintro e W2 ⟨v2, rfl, R2, hB2⟩)
   go_ret
   exact ⟨_, rfl, Kd.zbz R2 hb.size, hb.trans (hB2.mono hb.size)⟩
theorem ziu (G : SG) (em : List Bool) (Ss : List (List Int)) (w : World) (hG : G.At em Ss w) (k : Nat) (r : List Lr) (h : zb1 G.F.ts.length G.F.ps em Ss k [] [(-1, 0, (G.F.ts.length : Int))] = some r) :
  Calls Tryz.prog 28 #[.pointer (some ⟨G.sb, 0, none⟩)] w fun e w' => ∃ v, e = .returned v ∧ Kd.R kLr TL w' w.heap.size (fun _ => True) v (srtL r) ∧ Below w.heap.size w w' := by
 have c0 : w.cell? ⟨G.sb, 0, none⟩ = some (.slice G.F.A0 G.F.ts.length G.F.c0) := zab hG.blk 0
 have hl0 : G.F.ts.length ≤ 1000000 := by have := hG.few; have := hG.nn; omega
 have hb1 : Below w.heap.size w (w.alloc (.cells #[.int .i64 (-1), .int .i64 0, .int .i64 (G.F.ts.length : Int)] 50)) := (Below.refl _ _).alloc (Nat.le_refl _) _
 have hC : Kd.C kLr (w.alloc (.cells #[.int .i64 (-1), .int .i64 0, .int .i64 (G.F.ts.length : Int)] 50)) (some ⟨w.heap.size, 0, none⟩) [((-1, 0, (G.F.ts.length : Int)) : Lr)].length [((-1, 0, (G.F.ts.length : Int)) : Lr)] := by
  refine ⟨rfl, by simp, fun _ => ⟨_, rfl, fun j p hj => ?_⟩⟩
  obtain rfl : j = 0 := by
   cases j with
   | zero => rfl
   | succ j => simp at hj
  obtain rfl : ((-1, 0, (G.F.ts.length : Int)) : Lr) = p := by simpa using hj
  refine ⟨[.int .i64 (-1), .int .i64 0, .int .i64 (G.F.ts.length : Int)], rfl, ⟨[.int .i64 (-1)], [.int .i64 0, .int .i64 (G.F.ts.length : Int)], rfl, rfl, ⟨[.int .i64 0], [.int .i64 (G.F.ts.length : Int)], rfl, rfl, rfl⟩⟩, fun i v hv => ?_⟩
  have := zhe w (.int .i64 (-1)) (.int .i64 0) (.int .i64 (G.F.ts.length : Int)) i v hv
  rwa [show 0 * kLr.sz + i = i by omega]
 have hcl := zfo G em Ss _ _ 1 _ (hG.below hb1) hC (fun x hx => by
  obtain rfl := List.mem_singleton.1 hx
  refine ⟨by show (Lit.int .i64 (-1)).wf = true; decide, by show (Lit.int .i64 0).wf = true; decide, ?_⟩
  show (Lit.int .i64 (G.F.ts.length : Int)).wf = true
  simp [Lit.wf, IntKind.min, IntKind.max, IntKind.bits, IntKind.signed]
  omega) k r h
 have HC := Lib.hid hC
 clear hC
 go_enter Tryz.func28, Tryz.ntmps28
 go_wp2_with (go_at_call 37; refine hcl.mono ?_; rintro e W2 ⟨v2, rfl, R2, hB2⟩)
 go_ret
 exact ⟨_, rfl, Kd.zbz R2 hb1.size, hb1.trans (hB2.mono hb1.size)⟩
theorem zjt (F : FG) (w : World) (hK : F.K w) (k : Nat) (em : List Bool) (Ss : List (List Int)) (hr : Rdy F k em Ss) (l : List Lr) (A : Option Addr) (c : Nat) (hC : Kd.C kLr w A l.length l) (hok : ∀ x ∈ l, lrOk x) (r : List Lr) (h : zb1 F.ts.length F.ps em Ss k [] l = some r) :
  Calls Tryz.prog 20 #[F.val, .slice A l.length c] w fun e w' => ∃ v, e = .returned v ∧ Kd.R kLr TL w' w.heap.size (fun _ => True) v (srtL r) ∧ Below w.heap.size w w' := by
 have hl0 : F.ts.length ≤ 999999 := by have := hr.n6; omega
 have hb1 : Below w.heap.size w (w.alloc (.cells F.row 25)) := (Below.refl _ _).alloc (Nat.le_refl _) _
 have hly := zfw F (w.alloc (.cells F.row 25)) (hK.below hb1) k em Ss hr
 have hcl := fun (G : SG) W (hb : Below w.heap.size w W) (hG : G.At em Ss W) (hF : G.F = F) => zfo G em Ss l A c W hG (Kd.zak hC hb) hok k r (by rw [hF]; exact h)
 have HC := Lib.hid hC
 clear hC h
 simp only [FG.val, FG.row] at *
 go_enter Tryz.func20, Tryz.ntmps20
 go_wp2_with (first
  | (go_at_call 27; refine hly.mono ?_; rintro e W1 ⟨G, rfl, hGF, hGN, hG, hB1⟩; have hbw := hb1.trans (hB1.mono hb1.size); have hc2 := hcl G W1 hbw hG hGF)
  | (go_at_call 37; refine hc2.mono ?_; rintro e W2 ⟨v2, rfl, R2, hB2⟩))
 go_ret
 exact ⟨_, rfl, Kd.zbz R2 hbw.size, hbw.trans (hB2.mono hbw.size)⟩
theorem zil (F : FG) (w : World) (hK : F.K w) (k : Nat) (em : List Bool) (Ss : List (List Int)) (hr : Rdy F k em Ss) (l : List Lr) (A : Option Addr) (c : Nat) (sym : Int) (hC : Kd.C kLr w A l.length l) (hll : l.length ≤ 1000000000) (r : List Lr) (h : zb1 F.ts.length F.ps em Ss k [] (zcr F.ts.length F.ps sym l) = some r) :
  Calls Tryz.prog 14 #[F.val, .slice A l.length c, .int .i64 sym] w fun e w' => ∃ v, e = .returned v ∧ Kd.R kLr TL w' w.heap.size (fun _ => True) v (srtL r) ∧ Below w.heap.size w w' := by
 have hl0 : F.ts.length ≤ 999999 := by have := hr.n6; omega
 have hb1 : Below w.heap.size w (w.alloc (.cells F.row 25)) := (Below.refl _ _).alloc (Nat.le_refl _) _
 have hly := zfw F (w.alloc (.cells F.row 25)) (hK.below hb1) k em Ss hr
 have hcl := fun (G : SG) W (hb : Below w.heap.size w W) (hG : G.At em Ss W) (hF : G.F = F) => zjq G em Ss l A c sym W hG (Kd.zak hC hb) hll k r (by rw [hF]; exact h)
 have HC := Lib.hid hC
 clear hC h
 simp only [FG.val, FG.row] at *
 go_enter Tryz.func14, Tryz.ntmps14
 go_wp2_with (first
  | (go_at_call 27; refine hly.mono ?_; rintro e W1 ⟨G, rfl, hGF, hGN, hG, hB1⟩; have hbw := hb1.trans (hB1.mono hb1.size); have hc2 := hcl G W1 hbw hG hGF)
  | (go_at_call 29; refine hc2.mono ?_; rintro e W2 ⟨v2, rfl, R2, hB2⟩))
 go_ret
 exact ⟨_, rfl, Kd.zbz R2 hbw.size, hbw.trans (hB2.mono hbw.size)⟩
theorem zhu (F : FG) (w : World) (hK : F.K w) (k : Nat) (em : List Bool) (Ss : List (List Int)) (hr : Rdy F k em Ss) (r : List Lr) (h : zb1 F.ts.length F.ps em Ss k [] [(-1, 0, (F.ts.length : Int))] = some r) :
  Calls Tryz.prog 13 #[F.val] w fun e w' => ∃ v, e = .returned v ∧ Kd.R kLr TL w' w.heap.size (fun _ => True) v (srtL r) ∧ Below w.heap.size w w' := by
 have hl0 : F.ts.length ≤ 999999 := by have := hr.n6; omega
 have hb1 : Below w.heap.size w (w.alloc (.cells F.row 25)) := (Below.refl _ _).alloc (Nat.le_refl _) _
 have hly := zfw F (w.alloc (.cells F.row 25)) (hK.below hb1) k em Ss hr
 have hcl := fun (G : SG) W (hG : G.At em Ss W) (hF : G.F = F) => ziu G em Ss W hG k r (by rw [hF]; exact h)
 clear h
 simp only [FG.val, FG.row] at *
 go_enter Tryz.func13, Tryz.ntmps13
 go_wp2_with (first
  | (go_at_call 27; refine hly.mono ?_; rintro e W1 ⟨G, rfl, hGF, hGN, hG, hB1⟩; have hbw := hb1.trans (hB1.mono hb1.size); have hc2 := hcl G W1 hG hGF)
  | (go_at_call 28; refine hc2.mono ?_; rintro e W2 ⟨v2, rfl, R2, hB2⟩))
 go_ret
 exact ⟨_, rfl, Kd.zbz R2 hbw.size, hbw.trans (hB2.mono hbw.size)⟩
end Go.Proofs.ZZ.LStep
end
section
namespace Go.Proofs.ZZ.LEq
open Go Go.RowKit Go.Shelf Go.Maps Go.Proofs.ZW.PrintWords Go.Proofs.ZW.PrintLast Go.Proofs.ZZ.Round Go.Proofs.ZZ.RangeG Go.Proofs.ZZ.Fl Go.Proofs.ZZ.Deri Go.Proofs.ZZ.Seqs Go.Proofs.ZZ.LrK Go.Proofs.ZZ.LSeq Go.Proofs.ZZ.LLex Go.Proofs.ZZ.LFlat Go.Proofs.ZZ.LLooks Go.Proofs.ZZ.LClos
theorem eqLr (d : Nat) (w : World) (x0 y0 : Int) (x1 y1 : Int) (x2 y2 : Int) :
  (Op.equalIn (d + 2) 50 (.agg #[.int .i64 x0, .int .i64 x1, .int .i64 x2]) (.agg #[.int .i64 y0, .int .i64 y1, .int .i64 y2])).run Tryz.prog w = .ok (x0 == y0 && (x1 == y1 && (x2 == y2))) w := by
 refine eqA_of Tryz.underlying50 (by kernel_rfl) ?_
 refine ze4 (by rfl) (by go_simp; rfl) (by go_simp; rfl) (by go_simp) ?_
 refine ze4 (by rfl) (by go_simp; rfl) (by go_simp; rfl) (by go_simp) ?_
 exact ziz (by rfl) (by go_simp; rfl) (by go_simp; rfl) (by go_simp)
attribute [local go_sem high] eqLr
def eqB (x y : Lr) : Bool := x.1 == y.1 && (x.2.1 == y.2.1 && (x.2.2 == y.2.2))
theorem eqB_iff {x y : Lr} : eqB x y = true ↔ x = y := by
 simp only [eqB, Bool.and_eq_true, beq_iff_eq]
 constructor
 ·rintro ⟨h1, h2, h3⟩; exact Prod.ext h1 (Prod.ext h2 h3)
 ·rintro rfl; exact ⟨rfl, rfl, rfl⟩
theorem equalL_calls (A : Option Addr) (ca : Nat) (a : List Lr) (B : Option Addr) (cb : Nat) (b : List Lr) (w : World) (hA : Kd.C kLr w A a.length a) (hB : Kd.C kLr w B b.length b) :
  Calls Tryz.prog 32 #[.slice A a.length ca, .slice B b.length cb] w fun e w' => e = .returned (.bool (decide (a = b))) ∧ Below w.heap.size w w' := by
 have hal : a.length ≤ 9223372036854775807 := hA.2.1
 by_cases hl : a.length = b.length
 ·have hbl : b.length = a.length := hl.symm
  rw [hbl] at hB ⊢
  have hli : ((a.length : Int) != (a.length : Int)) = false := by simp
  have HBL := Lib.hid hbl
  clear hbl hl
  go_enter Tryz.func32, Tryz.ntmps32
  go_wp2
  go_loopw [13] (fun i wr => ∃ j : Nat, i = .int .i64 (j : Int) ∧ j ≤ a.length ∧ Hid (a.take j = b.take j) ∧ Below w.heap.size w wr) (fun i _ => a.length - (Go.RowKit.intOf i).toNat)
  case atStart => exact ⟨0, rfl, Nat.zero_le _, Lib.hid rfl, Below.refl _ _⟩
  case round =>
   obtain ⟨j, rfl, hj, HT, hb⟩ := hrel
   by_cases hlt : j < a.length
   ·obtain ⟨ad, x, rfl, hx, f0', f1', f2'⟩ := atLr hA j hlt
    obtain ⟨bd, y, rfl, hy, g0', g1', g2'⟩ := atLr hB j (by omega)
    have HX := Lib.hid (And.intro hx hy)
    go_wp2
    rename_i K6 hK6
    have hbd : Below w.heap.size w wr.drew := za4 hb
    have hHeld : (fun X => X.cell? (ad.add (j * 3)) = some (.int .i64 x.1) ∧ X.cell? ⟨(ad.add (j * 3)).block, (ad.add (j * 3)).off + 1, none⟩ = some (.int .i64 x.2.1) ∧ X.cell? ⟨(ad.add (j * 3)).block, (ad.add (j * 3)).off + 2, none⟩ = some (.int .i64 x.2.2) ∧ X.cell? (bd.add (j * 3)) = some (.int .i64 y.1) ∧ X.cell? ⟨(bd.add (j * 3)).block, (bd.add (j * 3)).off + 1, none⟩ = some (.int .i64 y.2.1) ∧ X.cell? ⟨(bd.add (j * 3)).block, (bd.add (j * 3)).off + 2, none⟩ = some (.int .i64 y.2.2)) wr.drew := ⟨zad hbd f0', zad hbd f1', zad hbd f2', zad hbd g0', zad hbd g1', zad hbd g2'⟩
    clear f0' f1' f2' g0' g1' g2' hx hy
    refine Ahd.zcy (zbl (S := (fun X => X.cell? (ad.add (j * 3)) = some (.int .i64 x.1) ∧ X.cell? ⟨(ad.add (j * 3)).block, (ad.add (j * 3)).off + 1, none⟩ = some (.int .i64 x.2.1) ∧ X.cell? ⟨(ad.add (j * 3)).block, (ad.add (j * 3)).off + 2, none⟩ = some (.int .i64 x.2.2) ∧ X.cell? (bd.add (j * 3)) = some (.int .i64 y.1) ∧ X.cell? ⟨(bd.add (j * 3)).block, (bd.add (j * 3)).off + 1, none⟩ = some (.int .i64 y.2.1) ∧ X.cell? ⟨(bd.add (j * 3)).block, (bd.add (j * 3)).off + 2, none⟩ = some (.int .i64 y.2.2))) (ds := []) (Ymk 9 0) (by kernel_rfl) rfl rfl hHeld (fun h0_ => ?_))
    clear h0_
    refine Ypk 0 16 9 1 ?_
    refine Ypk 1 17 9 3 ?_
    refine Ypk 2 18 9 7 ?_
    refine Ytk 3 19 9 15 hHeld ?_
    refine Ypk 4 20 9 31 ?_
    refine Ypk 5 21 9 63 ?_
    refine Ypk 6 22 9 127 ?_
    refine Ytk 7 23 9 255 hHeld ?_
    refine Ypk 8 24 9 511 ?_
    refine zbq (by kernel_rfl) ?_
    refine hK6 _ _ ?_
    clear hK6 hHeld
    obtain ⟨nb, hnb⟩ : ∃ nb, ((!x.1 == y.1) || ((!x.2.1 == y.2.1) || (!x.2.2 == y.2.2))) = nb := ⟨_, rfl⟩
    rw [hnb]
    have hnb' : nb = !eqB x y := by rw [← hnb]; unfold eqB; cases x.1 == y.1 <;> cases x.2.1 == y.2.1 <;> cases x.2.2 == y.2.2 <;> rfl
    clear hnb
    by_cases hxy : x = y
    ·subst hxy
     have e1 : nb = false := by rw [hnb', eqB_iff.2 rfl]; rfl
     subst e1;clear hnb';go_wp2
     go_roundw
     case rel => exact ⟨j + 1, by first | rfl | go_num, by omega, Lib.hid (by rw [zdq HX.out.1, zdq HX.out.2, HT.out]), hbd⟩
     case measure => simp [Go.RowKit.intOf]; omega
    ·have e1 : nb = true := by rw [hnb', Bool.eq_false_iff.2 (fun h => hxy (eqB_iff.1 h))]; rfl
     subst e1;clear hnb'
     have e2 : decide (a = b) = false := decide_eq_false (fun h => by
      have h1 := HX.out.1
      rw [h, HX.out.2] at h1
      exact hxy (Option.some.inj h1).symm)
     have E2 := Lib.hid e2
     clear e2;go_wp2;go_ret
     exact ⟨by rw [E2.out]; rfl, hbd⟩
   ·obtain rfl : j = a.length := by omega
    have e2 : decide (a = b) = true := decide_eq_true (by have := HT.out; rw [List.take_length] at this; rw [this, ← HBL.out, List.take_length])
    have E2 := Lib.hid e2
    clear e2;go_wp2;go_ret
    exact ⟨by rw [E2.out]; rfl, hb⟩
 ·have hli : ((a.length : Int) != (b.length : Int)) = true := by simp; omega
  have e2 : decide (a = b) = false := decide_eq_false (fun h => hl (by rw [h]))
  have E2 := Lib.hid e2
  clear e2
  go_enter Tryz.func32, Tryz.ntmps32
  go_wp2;go_ret
  exact ⟨by rw [E2.out]; rfl, Below.refl _ _⟩
theorem atLs {w : World} {A : Option Addr} {n : Nat} {all : List (List Lr)} (h : Kd.C (Kd.slice TL kLr) w A n all) (k : Nat) (hk : k < n) :
  ∃ ad a A1 c1, A = some ad ∧ all[k]? = some a ∧ a.length ≤ c1 ∧ w.cell? (ad.add k) = some (.slice A1 a.length c1) ∧ Kd.C kLr w A1 a.length a := by
 obtain ⟨h1, h2, h3⟩ := h
 obtain ⟨ad, e, hc⟩ := h3 (by omega)
 have hk' : k < all.length := by omega
 obtain ⟨c, hl, ⟨A1, c1, rfl, hl1, hC1⟩, hcell⟩ := hc k _ (List.getElem?_eq_getElem hk')
 have hc0 : ∀ j u, [Value.slice A1 (all[k]).length c1][j]? = some u → w.cell? (ad.add (k * 1 + j)) = some u := hcell
 exact ⟨ad, all[k], A1, c1, e, List.getElem?_eq_getElem hk', hl1, by have := hc0 0 _ rfl; simpa using this, hC1⟩
theorem all1_calls (B1 B2 : Nat) (A : Option Addr) (c : Nat) (all : List (List Lr)) (A2 : Option Addr) (c2 : Nat) (l : List Lr) (i : Nat) (w : World) (b1 : w.heap[B1]? = some (.cells #[.slice A all.length c] 28 (0, 0))) (b2 : w.heap[B2]? = some (.cells #[.slice A2 l.length c2] 45 (0, 0)))
  (hC : Kd.C (Kd.slice TL kLr) w A all.length all) (hC2' : Kd.C kLr w A2 l.length l) (hi : i < all.length) :
  Calls Tryz.prog 31 #[.int .i64 (i : Int), .pointer (some ⟨B1, 0, none⟩), .pointer (some ⟨B2, 0, none⟩)] w fun e w' => e = .returned (.bool (decide (all.getD i [] = l))) ∧ Below w.heap.size w w' := by
 obtain ⟨ad, a, A1, c1, rfl, ha, hl1, f0, hC1'⟩ := atLs hC i hi
 have e : all.getD i [] = a := by rw [List.getD_eq_getElem?_getD, ha]; rfl
 rw [e]
 have hil : all.length ≤ 9223372036854775807 := hC.2.1
 have hC1 : Kd.C kLr w.drew A1 a.length a := Kd.zak hC1' (za4 (Below.refl _ _))
 have hC2 : Kd.C kLr w.drew A2 l.length l := Kd.zak hC2' (za4 (Below.refl _ _))
 have hi' : (i : Int) < (all.length : Int) := by omega
 clear ha e hC hC1' hC2'
 go_enter Tryz.func31, Tryz.ntmps31
 go_wp2
 rename_i K1 hK1
 have hHeld : (fun X => X.cell? ⟨B1, 0, none⟩ = some (.slice (some ad) all.length c) ∧ X.cell? (ad.add i) = some (.slice A1 a.length c1) ∧ X.cell? ⟨B2, 0, none⟩ = some (.slice A2 l.length c2)) w.drew := ⟨zab (zah b1) 0, f0, zab (zah b2) 0⟩
 have keepA : ∀ X Y : World, Below X.heap.size X Y → (fun X => X.cell? ⟨B1, 0, none⟩ = some (.slice (some ad) all.length c) ∧ X.cell? (ad.add i) = some (.slice A1 a.length c1) ∧ X.cell? ⟨B2, 0, none⟩ = some (.slice A2 l.length c2)) X → (fun X => X.cell? ⟨B1, 0, none⟩ = some (.slice (some ad) all.length c) ∧ X.cell? (ad.add i) = some (.slice A1 a.length c1) ∧ X.cell? ⟨B2, 0, none⟩ = some (.slice A2 l.length c2)) Y := fun X Y h hh => ⟨zad h hh.1, zad h hh.2.1, zad h hh.2.2⟩
 refine Ahd.zcy (zbl (S := (fun X => X.cell? ⟨B1, 0, none⟩ = some (.slice (some ad) all.length c) ∧ X.cell? (ad.add i) = some (.slice A1 a.length c1) ∧ X.cell? ⟨B2, 0, none⟩ = some (.slice A2 l.length c2))) (ds := []) (Ymk 7 0) (by kernel_rfl) rfl rfl hHeld (fun h0_ => ?_))
 clear h0_
 refine Ytk 0 5 7 1 hHeld ?_
 refine Ypk 1 6 7 3 ?_
 refine Ypk 2 7 7 7 ?_
 refine Ytk 3 8 7 15 hHeld ?_
 refine Ytk 4 9 7 31 hHeld ?_
 refine Yok 5 10 7 63 (fun K hK => ?_)
 refine Ygh Tryz.func32 #[.slice A1 a.length c1, .slice A2 l.length c2] ?_
 refine (equalL_calls A1 c1 a A2 c2 l w.drew hC1 hC2).mono ?_
 rintro e W4 ⟨rfl, hB4⟩
 refine ⟨_, rfl, ?_⟩
 have hh4 := keepA _ _ hB4 hHeld
 refine hK.out _ _ hh4 (fun h0_ => ?_)
 clear hK K h0_
 refine Ypk 6 4 7 127 ?_
 refine zbq (by kernel_rfl) ?_
 refine hK1 _ _ ?_
 go_wp2;go_ret
 exact ⟨rfl, (za4 (Below.refl w.heap.size w)).trans hB4⟩
theorem zgb {α : Type} {q : α → Bool} {l : List α} (h : ∀ (j : Nat) y, l[j]? = some y → q y = false) : l.any q = false := by
 rw [List.any_eq_false]
 intro x hx
 obtain ⟨j, hj, rfl⟩ := List.mem_iff_getElem.1 hx
 rw [h j _ (List.getElem?_eq_getElem hj)]
 decide
theorem zjf (fc : Nat) (lb : Array Value) (hen : ∀ args w, (callFunc fc args).run Tryz.prog w = .ok (.enter fc args) w) (q : Int → Bool) (A : Option Addr) (n c : Nat) (l : List Int) (w : World) (hC : Kd.C (Kd.int .i64) w A n l)
  (hq : ∀ x ∈ l, ∀ W, Below w.heap.size w W → Calls Tryz.prog fc (#[.int .i64 x] ++ lb) W fun e W' => e = .returned (.bool (q x)) ∧ Below W.heap.size W W') :
  Calls Tryz.prog 30 #[.slice A n c, .func (.func fc) #[] lb] w fun e w' => e = .returned (.bool (l.any q)) ∧ Below w.heap.size w w' := by
 have hn : n ≤ 9223372036854775807 := hC.2.1
 have hln : l.length = n := hC.1
 have hix : Calls Tryz.prog 47 #[.slice A n c, .func (.func fc) #[] lb] w fun e w' => (∃ r : Int, e = .returned (.int .i64 r) ∧ (decide (r ≥ 0) = l.any q)) ∧ Below w.heap.size w w' := by
  have HQ := Lib.hid hq
  clear hq
  go_enter Tryz.func47, Tryz.ntmps47
  go_wp2
  go_loopw [8] (fun i wr => ∃ j : Nat, i = .int .i64 (j : Int) ∧ j ≤ n ∧ Hid (∀ (t : Nat) y, t < j → l[t]? = some y → q y = false) ∧ Below w.heap.size w wr) (fun i _ => n - (Go.RowKit.intOf i).toNat)
  case atStart => exact ⟨0, rfl, Nat.zero_le _, Lib.hid (fun t y h => absurd h (Nat.not_lt_zero _)), Below.refl _ _⟩
  case round =>
   obtain ⟨j, rfl, hj, HN, hb⟩ := hrel
   by_cases hlt : j < n
   ·obtain ⟨ad, x, rfl, hx, f0'⟩ := atInt hC j hlt
    have f0 := zad hb f0'
    have hcall := HQ.out x (List.mem_of_getElem? hx) wr hb
    have HX := Lib.hid hx
    have hen' := hen
    obtain ⟨qx, hqx⟩ : ∃ b, q x = b := ⟨_, rfl⟩
    rw [hqx] at hcall
    have HQX := Lib.hid hqx
    clear hx f0' hqx
    cases qx with
    | true =>
     go_wp2
     refine hcall.mono ?_
     rintro e W' ⟨rfl, hb2⟩
     go_wp2;go_ret
     refine ⟨⟨j, rfl, ?_⟩, hb.trans (hb2.mono hb.size)⟩
     have : l.any q = true := List.any_eq_true.2 ⟨x, List.mem_of_getElem? HX.out, HQX.out⟩
     rw [this]
     exact decide_eq_true (by omega)
    | false =>
     go_wp2
     refine hcall.mono ?_
     rintro e W' ⟨rfl, hb2⟩
     go_wp2
     go_roundw
     case rel =>
      refine ⟨j + 1, by first | rfl | go_num, by omega, Lib.hid (fun t y ht hy => ?_), hb.trans (hb2.mono hb.size)⟩
      by_cases et : t = j
      ·subst et
       rw [HX.out] at hy
       cases hy
       exact HQX.out
      ·exact HN.out t y (by omega) hy
     case measure => simp [Go.RowKit.intOf]; omega
   ·obtain rfl : j = n := by omega
    go_wp2;go_ret
    refine ⟨⟨-1, rfl, ?_⟩, hb⟩
    rw [zgb (fun t y hy => HN.out t y (by have := (List.getElem?_eq_some_iff.1 hy).1; omega) hy)]
    rfl
 go_enter Tryz.func30, Tryz.ntmps30
 go_wp2_with (go_at_call 47; refine hix.mono ?_; rintro e W' ⟨⟨r, rfl, hr⟩, hb⟩)
 go_ret
 exact ⟨rfl, hb⟩
end Go.Proofs.ZZ.LEq
end
section
namespace Go.Proofs.ZZ.LEnt
open Go Go.RowKit Go.Shelf Go.Maps Go.WideElems Go.ChangeMaps Go.Proofs.ZW.PrintWords Go.Proofs.ZZ.Fl Go.Proofs.ZZ.Seqs Go.Proofs.ZZ.LrK Go.Proofs.ZZ.GMap Go.Proofs.ZZ.LSeq Go.Proofs.ZZ.LLex
theorem zhb (w : World) (b : Nat) (o : Obj) : w.grownBy (setBlock w b o) (some b) := by
 have := grownBy_putObj' w b o
 exact this
section
variable {P : Program} {k : TypeId} {α : Type} [DecidableEq α] {K : KeyAs P k α} {b : Nat} {M : List (α × Value)} {W : World}
theorem MapAt.entry (KL : WideMaps.KeyLaw P k) {t e : TypeId} (h : MapAt K b M W) (ht : P.underlying t = some (.map k e)) {z : Value} (hz : ∀ u : World, (zeroValue e).run P u = .ok z u) (hn : M.length < maxLen) {x : α} (hx : K.ok x) :
  ∃ (st : Value) (W1 : World), (Instr.mapEntry t (.map (some b)) (K.enc x)).run P W = .ok (.tuple #[(GMap.look M x).getD z, st]) W1 ∧ W.grownBy W1 (some b) ∧ (∃ es cl, W1.heap[b]? = some (.map es cl)) ∧
   ∀ (w2 : World) (val : Value), w2.heap[b]? = W1.heap[b]? → ∃ W3, (Instr.entryStore t (.map (some b)) st val).run P w2 = .ok () W3 ∧ MapAt K b (putM M x val) W3 ∧ w2.grownBy W3 (some b) := by
 have hput := fun val => h.put ht hn hx val
 have hlook := h.look ht (hz W) hx
 obtain ⟨h1, h2, D, ⟨es, clock, hb, F, hs, hD⟩, h5⟩ := h
 obtain ⟨v0, st, es1, clock1, r1, r2, r3⟩ := entry_then_store KL ht hz hb F (K.key hx)
 have hv0 : v0 = (GMap.look M x).getD z := by
  have hl2 : (Instr.lookup t (.map (some b)) (K.enc x) false).run P W = .ok v0 W := by
   rcases KL.find W (K.key hx) es.toList F.keys with ⟨g1, g2⟩ | ⟨j, e0, g1, g2, g3⟩
   ·rcases r2 with ⟨e1, m1, m2, _⟩ | ⟨_, rfl⟩
    ·exact absurd m2 (g2 e1 m1)
    ·simp [Instr.lookup, run_underlying ht, MapKept.run_getObj_map hb, KL.check W _ (K.key hx), g1, hz, Result.andThen]
   ·have m0 := List.mem_of_getElem? g2
    rcases r2 with ⟨e1, m1, m2, rfl⟩ | ⟨n1, _⟩
    ·have hnd := F.stamped.2.2
     have : e1 = e0 := entry_eq_of_key (List.pairwise_map.1 hnd) m1 m0 (m2.trans g3.symm)
     subst this
     simp [Instr.lookup, run_underlying ht, MapKept.run_getObj_map hb, KL.check W _ (K.key hx), g1, Result.andThen]
    ·exact absurd g3 (n1 e0 m0)
  rw [hlook] at hl2
  injection hl2 with e
  exact e.symm
 have hlt : b < W.heap.size := zbk hb
 have hb1 : (setBlock W b (.map es1 clock1)).heap[b]? = some (.map es1 clock1) := by simp [setBlock, hlt]
 refine ⟨goInt st, setBlock W b (.map es1 clock1), by rw [← hv0]; exact r1, zhb _ _ _, ⟨_, _, hb1⟩, fun w2 val hw2 => ?_⟩
 obtain ⟨es', cl', q1, q2⟩ := r3 w2 val (hw2.trans hb1)
 obtain ⟨W', p1, p2, p3⟩ := hput val
 rw [q2] at p1
 injection p1 with p1 p1'
 subst p1'
 have hb' : (setBlock W b (.map es' cl')).heap[b]? = some (.map es' cl') := by simp [setBlock, hlt]
 have hlt2 : b < w2.heap.size := zbk (hw2.trans hb1)
 have hb3 : (setBlock w2 b (.map es' cl')).heap[b]? = some (.map es' cl') := by simp [setBlock, hlt2]
 exact ⟨_, q1, p2.keep (hb3.trans hb'.symm), zhb _ _ _⟩
end
def hdF (x : Lr) : Nat → List (List Lr) → List Int
 | _, [] => []
 | i, l :: t => if l.head? = some x then (i : Int) :: hdF x (i + 1) t else hdF x (i + 1) t
theorem hdF_app (x : Lr) (l : List Lr) : ∀ (i : Nat) (all : List (List Lr)), hdF x i (all ++ [l]) = hdF x i all ++ (if l.head? = some x then [((i + all.length : Nat) : Int)] else [])
 | i, [] => by simp only [List.nil_append, hdF, List.length_nil, Nat.add_zero]
 | i, a :: t => by
  have ih := hdF_app x l (i + 1) t
  simp only [List.cons_append, hdF, ih, List.length_cons]
  rw [show i + 1 + t.length = i + (t.length + 1) by omega]
  split <;> rfl
theorem zh8 (x : Lr) (q : Int) : ∀ (i : Nat) (all : List (List Lr)), q ∈ hdF x i all ↔ ∃ j : Nat, q = ((i + j : Nat) : Int) ∧ ∃ l, all[j]? = some l ∧ l.head? = some x
 | i, [] => by simp [hdF]
 | i, a :: t => by
  have ih := zh8 x q (i + 1) t
  have key : (∃ j : Nat, q = ((i + 1 + j : Nat) : Int) ∧ ∃ l, t[j]? = some l ∧ l.head? = some x) ↔ ∃ j : Nat, 0 < j ∧ q = ((i + j : Nat) : Int) ∧ ∃ l, (a :: t)[j]? = some l ∧ l.head? = some x := by
   constructor
   ·rintro ⟨j, h1, h2⟩
    exact ⟨j + 1, Nat.succ_pos _, by rw [h1]; omega, by simpa using h2⟩
   ·rintro ⟨j, h0, h1, h2⟩
    obtain ⟨m, rfl⟩ : ∃ m, j = m + 1 := ⟨j - 1, by omega⟩
    exact ⟨m, by rw [h1]; omega, by simpa using h2⟩
  unfold hdF
  split
  ·rename_i hh
   rw [List.mem_cons, ih, key]
   constructor
   ·rintro (h | ⟨j, _, h⟩)
    ·exact ⟨0, by rw [h]; simp, a, rfl, hh⟩
    ·exact ⟨j, h⟩
   ·rintro ⟨j, h1, h2⟩
    by_cases hj : 0 < j
    ·exact .inr ⟨j, hj, h1, h2⟩
    ·obtain rfl : j = 0 := by omega
     exact .inl (by simpa using h1)
  ·rename_i hh
   rw [ih, key]
   constructor
   ·rintro ⟨j, _, h⟩; exact ⟨j, h⟩
   ·rintro ⟨j, h1, l, h2, h3⟩
    refine ⟨j, ?_, h1, l, h2, h3⟩
    by_cases hj : 0 < j
    ·exact hj
    ·obtain rfl : j = 0 := by omega
     simp at h2
     subst h2
     exact absurd h3 hh
theorem hdF_len (x : Lr) : ∀ (i : Nat) (all : List (List Lr)), (hdF x i all).length ≤ all.length
 | _, [] => Nat.le_refl _
 | i, a :: t => by
  have := hdF_len x (i + 1) t
  unfold hdF
  split <;> simp <;> omega
theorem hdF_any {x : Lr} {l : List Lr} {all : List (List Lr)} (hl : l.head? = some x) : ((hdF x 0 all).any fun k => decide (all.getD k.toNat [] = l)) = decide (l ∈ all) := by
 rw [Bool.eq_iff_iff, decide_eq_true_eq, List.any_eq_true]
 constructor
 ·rintro ⟨q, hq, hd⟩
  obtain ⟨j, rfl, l', h1, h2⟩ := (zh8 x q 0 all).1 hq
  have hd' := of_decide_eq_true hd
  rw [List.getD_eq_getElem?_getD, Int.toNat_natCast, Nat.zero_add, h1] at hd'
  have : l' = l := hd'
  subst this
  exact List.mem_of_getElem? h1
 ·intro hm
  obtain ⟨j, hj, e⟩ := List.mem_iff_getElem.1 hm
  refine ⟨((0 + j : Nat) : Int), (zh8 x _ 0 all).2 ⟨j, rfl, l, by rw [List.getElem?_eq_getElem hj, e], hl⟩, ?_⟩
  rw [List.getD_eq_getElem?_getD, Int.toNat_natCast, Nat.zero_add, List.getElem?_eq_getElem hj, e]
  exact decide_eq_true rfl
def BY (mb base : Nat) (all : List (List Lr)) (X : World) : Prop :=
 ∃ (M : List (Lr × Value)) (O : Nat → Lr), MapAt keyL mb M X ∧ M.length ≤ all.length ∧ ∀ x, lrOk x →
  (GMap.look M x = none → hdF x 0 all = []) ∧ ∀ v, GMap.look M x = some v → Kd.R (Kd.int .i64) TI X base (fun k => O k = x) v (hdF x 0 all)
theorem BY.keep {mb base : Nat} {all : List (List Lr)} {X X' : World} (h : BY mb base all X) (hb : Below X.heap.size X X') : BY mb base all X' := by
 obtain ⟨M, O, h1, h2, h3⟩ := h
 exact ⟨M, O, h1.keep (hb.block _ h1.lt), h2, fun x hx => ⟨(h3 x hx).1, fun v hv => Kd.zbc ((h3 x hx).2 v hv) hb⟩⟩
theorem lawK : WideMaps.KeyLaw Tryz.prog TL := deep_law_laid laidOut (m := 2) (by omega) rowL (by kernel_rfl) wideL
end Go.Proofs.ZZ.LEnt
end
section
namespace Go.Proofs.ZZ.LAll
open Go Go.RowKit Go.Shelf Go.Maps Go.Proofs.ZW.PrintWords Go.Proofs.ZW.PrintLast Go.Proofs.ZZ.Round Go.Proofs.ZZ.RangeG Go.Proofs.ZZ.Fl Go.Proofs.ZZ.Grow Go.Proofs.ZZ.Deri Go.Proofs.ZZ.Seqs Go.Proofs.ZZ.LrK Go.Proofs.ZZ.GMap Go.Proofs.ZZ.LSeq Go.Proofs.ZZ.LLex Go.Proofs.ZZ.LSort Go.Proofs.ZZ.LFlat Go.Proofs.ZZ.LLooks Go.Proofs.ZZ.LClos Go.Proofs.ZZ.LInv Go.Proofs.ZZ.LStep Go.Proofs.ZZ.LEq Go.Proofs.ZZ.LEnt
def symsV (g : Int → Option (List Lr)) : Nat → Nat → List (List Lr) → Option (List (List Lr) × Bool)
  | 0, _, all => some (all, false)
  | d + 1, q, all => (g (q : Int)).bind fun l => if l = [] ∨ l ∈ all then symsV g d (q + 1) all else if all.length + 1 > 600 then some (all, true) else symsV g d (q + 1) (all ++ [l])
def allV (g : List Lr → Int → Option (List Lr)) (N : Nat) : Nat → Nat → List (List Lr) → Option (Option (List (List Lr)))
  | 0, _, _ => none
  | k + 1, i, all => if i < all.length then (symsV (g (all.getD i [])) N 0 all).bind fun r => if r.2 = true then some none else allV g N k (i + 1) r.1 else some (some all)
def zen (n0 : Nat) (ps : List P) (em : List Bool) (Ss : List (List Int)) (k : Nat) (row : List Lr) (s : Int) : Option (List Lr) := (zb1 n0 ps em Ss k [] (zcr n0 ps s row)).map srtL
def zez (n0 : Nat) (ps : List P) (em : List Bool) (Ss : List (List Int)) (k : Nat) : Option (List Lr) := (zb1 n0 ps em Ss k [] [(-1, 0, (n0 : Int))]).map srtL
abbrev TLs : TypeId := 45
abbrev kLs : Kd (List Lr) := Kd.slice TL kLr
theorem infoLs : (Tryz.prog.info? 45).map (fun i => (i.zero, i.size, i.bytes)) = some (some (.slice none 0 0), 1, 24) := by kernel_rfl
theorem R_one {α : Type} {d : Kd α} {e : Nat} {w : World} {base g : Nat} {okp : Nat → Prop} {p : α} {cs : List Value} (hg : w.heap[g]? = some (.cells cs.toArray e (0, 0))) (hb : base ≤ g) (hp : d.M w base okp p cs) (hne : ∀ k, okp k → k ≠ g) : Kd.R d e w base (fun _ => True) (.slice (some ⟨g, 0, none⟩) 1 1) [p] := by
  have hcs : cs.length = d.sz := d.K_len (d.K_of_M hp)
  refine ⟨fun _ _ => trivial, cs, ⟨by simp [hcs], .inr ⟨g, 1, cs.toArray, rfl, hb, hg, Nat.le_refl _, by decide, by simp [hcs], ?_⟩⟩, by simp [hcs], fun j q hj => ?_⟩
  · rw [List.length_singleton, Nat.one_mul, ← hcs]
    simp
  · obtain rfl : j = 0 := by
      cases j with
      | zero => rfl
      | succ j => simp at hj
    obtain rfl : p = q := by simpa using hj
    rw [Nat.zero_mul, List.drop_zero, ← hcs, List.take_length]
    exact d.M_mono (fun k hk => ⟨trivial, fun e => hne k hk (by simpa [Value.ownBlock] using e)⟩) hp
theorem zei {α : Type} {d : Kd α} {e base b : Nat} {ok : Nat → Prop} {W W' : World} {v : Value} {xs : List α} (h : d.R e W base ok v xs) {es : Array MapEntry} {cl : Nat} (hb : W.heap[b]? = some (.map es cl)) (hg : W.grownBy W' (some b)) : d.R e W' base ok v xs :=
  Kd.zba (Kd.ze2 (Kd.zcz h) hg (fun k hk e' => by
    obtain ⟨_, _, _, q, _, cs, hc⟩ := hk
    injection e' with e'
    rw [e', hb] at hc
    cases hc)) (fun _ hk => hk.1)
theorem zdm {α : Type} {d : Kd α} {e base : Nat} {ok : Nat → Prop} {W W' : World} {v : Value} {xs : List α} {row : Option Nat} (h : d.R e W base ok v xs) (h0 : ∀ k, row = some k → ∃ cs t fr, W.heap[k]? = some (.cells cs t fr) ∧ t ∉ e :: d.E) (hg : W.grownBy W' row) : d.R e W' base ok v xs :=
  Kd.zba (Kd.ze2 (Kd.zcz h) hg (fun k hk e' => by
    obtain ⟨_, _, _, q, hq, cs, hc⟩ := hk
    obtain ⟨cs', t, fr, hc', ht⟩ := h0 k e'.symm
    rw [hc] at hc'
    injection hc' with hc'
    injection hc' with _ hc'
    exact ht (hc' ▸ hq))) (fun _ hk => hk.1)
theorem blk_typed {W W' : World} {k : Nat} {cs : Array Value} {t : TypeId} {fr : Nat × Nat} {row : Option Nat} (h : W.heap[k]? = some (.cells cs t fr)) (h0 : ∀ k, row = some k → ∃ cs t' fr, W.heap[k]? = some (.cells cs t' fr) ∧ t' ≠ t) (hg : W.grownBy W' row) : W'.heap[k]? = some (.cells cs t fr) :=
  (hg.block k (zbk h) (fun e' => by
    obtain ⟨cs', t', fr', hc', ht⟩ := h0 k e'.symm
    rw [h] at hc'
    injection hc' with hc'
    injection hc' with _ hc'
    exact ht hc'.symm)).trans h
theorem map_typed {W W' : World} {k : Nat} {es : Array MapEntry} {cl : Nat} {row : Option Nat} (h : W.heap[k]? = some (.map es cl)) (h0 : ∀ k, row = some k → ∃ cs t' fr, W.heap[k]? = some (.cells cs t' fr)) (hg : W.grownBy W' row) : W'.heap[k]? = W.heap[k]? :=
  hg.block k (zbk h) (fun e' => by
    obtain ⟨cs', t', fr', hc'⟩ := h0 k e'.symm
    rw [h] at hc'
    cases hc')
theorem BY.typed {mb base : Nat} {all : List (List Lr)} {X X' : World} {row : Option Nat} (h : BY mb base all X) (h0 : ∀ k, row = some k → ∃ cs t fr, X.heap[k]? = some (.cells cs t fr) ∧ t ≠ TI) (hg : X.grownBy X' row) : BY mb base all X' := by
  obtain ⟨M, O, h1, h2, h3⟩ := h
  obtain ⟨es, cl, hm⟩ := h1.block
  refine ⟨M, O, h1.keep (map_typed hm (fun k hk => by obtain ⟨cs, t, fr, hc, _⟩ := h0 k hk; exact ⟨cs, t, fr, hc⟩) hg), h2, fun x hx => ⟨(h3 x hx).1, fun v hv => zdm ((h3 x hx).2 v hv) (fun k hk => ?_) hg⟩⟩
  obtain ⟨cs, t, fr, hc, ht⟩ := h0 k hk
  exact ⟨cs, t, fr, hc, fun hm => ht (by
    rcases List.mem_cons.1 hm with hm | hm
    · exact hm
    · exact nomatch (show t ∈ ([] : List Nat) from hm))⟩
theorem by_look {mb base : Nat} {all : List (List Lr)} {X : World} {x : Lr} (h : BY mb base all X) (hx : lrOk x) :
    ∃ A c, (Instr.lookup 61 (.map (some mb)) (lrV x) false).run Tryz.prog X = .ok (.slice A (hdF x 0 all).length c) X ∧ Kd.C (Kd.int .i64) X A (hdF x 0 all).length (hdF x 0 all) := by
  obtain ⟨M, O, h1, h2, h3⟩ := h
  have hlk := MapAt.look h1 Tryz.underlying61 (z := .slice none 0 0) rfl hx
  cases e : GMap.look M x with
  | none =>
    rw [e] at hlk
    rw [(h3 x hx).1 e]
    exact ⟨none, 0, hlk, rfl, by simp, fun h => absurd h (by simp)⟩
  | some v =>
    rw [e] at hlk
    obtain ⟨A, c, rfl, _, hC⟩ := Kd.zds ((h3 x hx).2 v e)
    exact ⟨A, c, hlk, hC⟩
theorem own_cells {w : World} {base n m : Nat} {e : TypeId} {v : Value} {xs : List Value} (h : w.ownsRow base e n v m xs) : ∀ k, v.ownBlock = some k → ∃ cs, w.heap[k]? = some (.cells cs e (0, 0)) := fun k hk => by
  rcases h.2 with ⟨hv, _⟩ | ⟨g, cap, cur, hv, _, hh, _⟩
  · rw [hv] at hk; simp [Value.ownBlock] at hk
  · rw [hv] at hk
    obtain rfl : g = k := by simpa [Value.ownBlock] using hk
    exact ⟨cur, hh⟩
theorem BY.push {mb base : Nat} {all : List (List Lr)} {l : List Lr} {x : Lr} {X : World} (h : BY mb base all X) (hx : lrOk x) (hh : l.head? = some x) (hlen : all.length < maxLen) :
    ∃ (v0 st : Value) (W1 : World), (Instr.mapEntry 61 (.map (some mb)) (lrV x)).run Tryz.prog X = .ok (.tuple #[v0, st]) W1 ∧ X.grownBy W1 (some mb) ∧ Kd.R (Kd.int .i64) TI W1 base (fun _ => True) v0 (hdF x 0 all) ∧ (∀ k, v0.ownBlock = some k → k < X.heap.size ∧ ∃ cs, X.heap[k]? = some (.cells cs TI (0, 0))) ∧
      ∀ (v1 : Value) (W2 : World), Kd.R (Kd.int .i64) TI W2 base (fun _ => True) v1 (hdF x 0 all ++ [(all.length : Int)]) → W1.grownBy W2 v0.ownBlock → (v1.ownBlock = v0.ownBlock ∨ ∃ b, v1.ownBlock = some b ∧ W1.heap.size ≤ b) →
        ∃ W3, (Instr.entryStore 61 (.map (some mb)) st v1).run Tryz.prog W2 = .ok () W3 ∧ W2.grownBy W3 (some mb) ∧ BY mb base (all ++ [l]) W3 ∧ ∃ es cl, W2.heap[mb]? = some (.map es cl) := by
  obtain ⟨M, O, h1, h2, h3⟩ := h
  obtain ⟨es, cl, hmo⟩ := h1.block
  obtain ⟨st, W1, r1, r2, ⟨es1, cl1, hmo1⟩, r3⟩ := MapAt.entry (K := keyL) lawK h1 Tryz.underlying61 (z := .slice none 0 0) (fun u => rfl) (by omega) hx
  obtain ⟨v0, hv0⟩ : ∃ v0, (GMap.look M x).getD (.slice none 0 0) = v0 := ⟨_, rfl⟩
  rw [hv0] at r1
  have hR0 : Kd.R (Kd.int .i64) TI X base (fun k => O k = x) v0 (hdF x 0 all) := by
    cases e : GMap.look M x with
    | none =>
      rw [e] at hv0
      rw [(h3 x hx).1 e, ← hv0]
      exact Kd.zdr _ _ _ _ _
    | some v =>
      rw [e] at hv0
      rw [← hv0]
      exact (h3 x hx).2 v e
  obtain ⟨inner, ho0⟩ := Kd.R_own hR0
  have hown := own_cells ho0
  refine ⟨v0, st, W1, r1, r2, Kd.zba (zei hR0 hmo r2) (fun _ _ => trivial), fun k hk => by obtain ⟨cs, hc⟩ := hown k hk; exact ⟨zbk hc, cs, hc⟩, fun v1 W2 hR1 hg2 hat => ?_⟩
  have hmne : v0.ownBlock ≠ some mb := fun e => by
    obtain ⟨cs, hc⟩ := hown mb e
    rw [hmo] at hc
    cases hc
  have hmb2 : W2.heap[mb]? = W1.heap[mb]? := hg2.block mb (zbk hmo1) (fun e => hmne e.symm)
  obtain ⟨W3, q1, q2, q3⟩ := r3 W2 v1 hmb2
  have hmo2 : W2.heap[mb]? = some (.map es1 cl1) := hmb2.trans hmo1
  refine ⟨W3, q1, q3, ⟨putM M x v1, fun k => if v1.ownBlock = some k then x else O k, q2, ?_, fun y hy => ?_⟩, es1, cl1, hmo2⟩
  · have := putM_le x v1 M
    rw [List.length_append, List.length_singleton]
    omega
  · rw [ze6, hdF_app]
    by_cases he : y = x
    · subst he
      rw [if_pos rfl, if_pos hh, Nat.zero_add]
      refine ⟨fun h => (nomatch h), fun v hv => ?_⟩
      injection hv with hv
      subst hv
      exact Kd.R_reok rfl (zei hR1 hmo2 q3) (fun k hk => if_pos hk)
    · have hh' : l.head? ≠ some y := fun e => he (Option.some.inj (e.symm.trans hh))
      rw [if_neg he, if_neg hh', List.append_nil]
      refine ⟨(h3 y hy).1, fun v hv => ?_⟩
      have hRy := zei ((h3 y hy).2 v hv) hmo r2
      have hRy2 : Kd.R (Kd.int .i64) TI W1 base (fun k => (if v1.ownBlock = some k then x else O k) = y ∧ some k ≠ v0.ownBlock) v (hdF y 0 all) := by
        refine Kd.zba (Kd.zcz hRy) (fun k hk => ?_)
        have hne : some k ≠ v0.ownBlock := fun e => he (hk.1.symm.trans (hR0.1 k e.symm))
        refine ⟨?_, hne⟩
        rw [if_neg, hk.1]
        intro e
        rcases hat with ha | ⟨b, ha, hlt⟩
        · exact hne (by rw [← ha, e])
        · rw [ha] at e
          injection e with e
          have := hk.2.2.1
          omega
      exact zei (Kd.zba (Kd.ze2 hRy2 hg2 (fun k hk => hk.2)) (fun k hk => hk.1)) hmo2 q3
theorem BY.one {mb base : Nat} {S0 : List Lr} {x : Lr} {X : World} {v : Value} (hm : MapAt keyL mb [(x, v)] X) (hh : S0.head? = some x) (hR : Kd.R (Kd.int .i64) TI X base (fun _ => True) v [0]) : BY mb base [S0] X := by
  refine ⟨_, fun _ => x, hm, Nat.le_refl _, fun y hy => ?_⟩
  by_cases he : y = x
  · subst he
    simp only [GMap.look, if_pos rfl, hdF, if_pos hh]
    exact ⟨fun h => (nomatch h), fun v' hv => by injection hv with hv; subst hv; simpa using hR⟩
  · simp only [GMap.look, hdF]
    rw [if_neg (fun e => he e.symm), if_neg (fun e => he (Option.some.inj (e.symm.trans hh)))]
    exact ⟨fun _ => rfl, fun v' hv => nomatch hv⟩
theorem zhs {n0 : Nat} {ps : List P} {em : List Bool} {Ss : List (List Int)} : ∀ (k : Nat) (S T r : List Lr), zb1 n0 ps em Ss k S T = some r → (∀ x ∈ S, fitV n0 ps x = true) → ∀ x ∈ r, fitV n0 ps x = true
  | 0, _, _, _, h, _ => nomatch h
  | k + 1, S, T, r, h, hS => by
    rcases snoc T with rfl | ⟨T0, x, rfl⟩
    · obtain ⟨rfl, _⟩ := zfh h
      exact hS
    · obtain ⟨m, hm, _, h'⟩ := zev h
      obtain rfl : m = k := by omega
      refine zhs m _ _ r h' (fun y hy => ?_)
      unfold putS at hy
      split at hy
      · rename_i hn
        rcases List.mem_append.1 hy with hy | hy
        · exact hS y hy
        · obtain rfl := List.mem_singleton.1 hy
          simp only [newV, Bool.and_eq_true] at hn
          exact hn.2
      · exact hS y hy
theorem zhf {n0 : Nat} {ps : List P} {em : List Bool} {Ss : List (List Int)} : ∀ (k : Nat) (S T r : List Lr), zb1 n0 ps em Ss k S T = some r → r.length ≤ 1000000000
  | 0, _, _, _, h => nomatch h
  | k + 1, S, T, r, h => by
    rcases snoc T with rfl | ⟨T0, x, rfl⟩
    · obtain ⟨rfl, h1⟩ := zfh h
      exact h1
    · obtain ⟨m, hm, _, h'⟩ := zev h
      obtain rfl : m = k := by omega
      exact zhf m _ _ r h'
def OKs (al : List (List Lr)) : Prop := ∀ a ∈ al, a.length ≤ 1000000000 ∧ ∀ x ∈ a, lrOk x
structure AS (u : World) (mb b5 : Nat) (al : List (List Lr)) (X : World) : Prop where
  b : Below u.heap.size u X
  box : ∃ A c, Boxed X b5 28 (.slice A al.length c) ∧ Kd.R kLs TLs X u.heap.size (fun _ => True) (.slice A al.length c) al
  by_ : BY mb u.heap.size al X
  lt : mb < X.heap.size ∧ u.heap.size ≤ mb ∧ u.heap.size ≤ b5
theorem AS.keep {u : World} {mb b5 : Nat} {al : List (List Lr)} {X X' : World} (h : AS u mb b5 al X) (hb : Below X.heap.size X X') : AS u mb b5 al X' := by
  obtain ⟨A, c, h1, h2⟩ := h.box
  exact ⟨h.b.trans (hb.mono h.b.size), ⟨A, c, zat h1 hb, Kd.zbc h2 hb⟩, h.by_.keep hb, by have := h.lt; have := hb.size; omega⟩
theorem has_calls {u : World} {mb b5 b9 : Nat} {al : List (List Lr)} {X : World} {A9 Av : Option Addr} {c9 : Nat} {L : List Lr} {x : Lr} (h : AS u mb b5 al X) (b9' : X.heap[b9]? = some (.cells #[.slice A9 L.length c9] 45 (0, 0))) (hC : Kd.C kLr X A9 L.length L) (hh : L.head? = some x) (hCv : Kd.C (Kd.int .i64) X Av (hdF x 0 al).length (hdF x 0 al)) (cv : Nat) :
    Calls Tryz.prog 30 #[.slice Av (hdF x 0 al).length cv, .func (.func 31) #[] #[.pointer (some ⟨b5, 0, none⟩), .pointer (some ⟨b9, 0, none⟩)]] X fun e w' => e = .returned (.bool (decide (L ∈ al))) ∧ Below X.heap.size X w' := by
  obtain ⟨A5, c5, hbx, hR⟩ := h.box
  obtain ⟨_, _, hC5⟩ := Kd.R_reads' hR
  have hc := zjf 31 #[.pointer (some ⟨b5, 0, none⟩), .pointer (some ⟨b9, 0, none⟩)] (enters_of Tryz.func31 (by kernel_rfl) rfl) (fun k => decide (al.getD k.toNat [] = L)) Av _ cv (hdF x 0 al) X hCv
    (fun y hy W hb => by
      obtain ⟨j, rfl, l', hj, _⟩ := (zh8 x y 0 al).1 hy
      rw [Nat.zero_add, Int.toNat_natCast]
      exact all1_calls b5 b9 A5 c5 al A9 c9 L j W (zat hbx hb) (zat b9' hb) (Kd.zak hC5 hb) (Kd.zak hC hb) (List.getElem?_eq_some_iff.1 hj).1)
  rw [hdF_any hh] at hc
  exact hc
def errV (res : Option (List (List Lr))) : Int := if res.isSome = true then 0 else 15
theorem allF_calls (F : FG) (w : World) (hK : F.K w) (k : Nat) (em : List Bool) (Ss : List (List Int)) (hr : Rdy F k em Ss) (N : Nat) (hN : F.ts.length + F.ns.length = N) (S0 : List Lr) (hS0 : zez F.ts.length F.ps em Ss k = some S0) (hne : S0 ≠ []) (res : Option (List (List Lr))) (h : allV (zen F.ts.length F.ps em Ss k) N k 0 [S0] = some res) :
    Calls Tryz.prog 8 #[F.val] w fun e w' => ∃ v n, e = .returned (.tuple #[v, .int .i64 n]) ∧ n = errV res ∧ Kd.R kLs TLs w' w.heap.size (fun _ => True) v (res.getD []) ∧ Below w.heap.size w w' := by
  have hN6 : N ≤ 999999 := by have := hr.n6; omega
  have hl0 : F.ts.length ≤ 999999 := by omega
  have hl1 : F.ns.length ≤ 999999 := by omega
  obtain ⟨Wf, hWf⟩ : ∃ X, w.alloc (.cells #[.slice F.A0 F.ts.length F.c0, .slice F.A1 F.ns.length F.c1, .slice F.A2 F.ps.length F.c2] 25) = X := ⟨_, rfl⟩
  have bf : Wf.heap[w.heap.size]? = some (.cells #[.slice F.A0 F.ts.length F.c0, .slice F.A1 F.ns.length F.c1, .slice F.A2 F.ps.length F.c2] 25 (0, 0)) := by rw [← hWf]; exact za9 w _
  have hbf : Below w.heap.size w Wf := by rw [← hWf]; exact (Below.refl _ _).alloc (Nat.le_refl _) _
  have hly := zfw F Wf (hK.below hbf) k em Ss hr
  obtain ⟨r0, hr0, hS0'⟩ := Option.map_eq_some_iff.1 hS0
  have hst := fun (G : SG) W (hG : G.At em Ss W) (hF : G.F = F) => ziu G em Ss W hG k r0 (by rw [hF]; exact hr0)
  have cf0 : Wf.cell? ⟨w.heap.size, 0, none⟩ = some (.slice F.A0 F.ts.length F.c0) := zab bf 0
  have cf1 : Wf.cell? ⟨w.heap.size, 1, none⟩ = some (.slice F.A1 F.ns.length F.c1) := zab bf 1
  have cf2 : Wf.cell? ⟨w.heap.size, 2, none⟩ = some (.slice F.A2 F.ps.length F.c2) := zab bf 2
  have HH := Lib.hid h
  have hmm := @run_makeMap Tryz.prog
  have hokS : ∀ x ∈ S0, lrOk x := fun x hx => by
    rw [← hS0', zfa] at hx
    have := zgr (n0 := F.ts.length) hr.ps x.1
    exact fit_ok (zhs k _ _ _ hr0 (fun _ h => nomatch h) x hx) hr.pl (by omega) (by omega)
  have HS0 := Lib.hid hS0'
  have HR0 := Lib.hid hr0
  clear h hS0 hr0 hS0'
  obtain ⟨x0, S1, rfl⟩ : ∃ x S1, S0 = x :: S1 := by
    cases S0 with
    | nil => exact absurd rfl hne
    | cons x t => exact ⟨x, t, rfl⟩
  simp only [FG.val, FG.row] at hly ⊢
  obtain ⟨LS, hLS⟩ : ∃ LS, x0 :: S1 = LS := ⟨_, rfl⟩
  have HLS := Lib.hid hLS
  rw [hLS] at HS0 HH hokS
  clear hne hLS
  go_enter Tryz.func8, Tryz.ntmps8
  go_wp2_with (first
    | (go_at_call 27; refine hly.mono ?_; rintro e u ⟨G, rfl, hGF, hGN, hG, hBu⟩; have hst2 := hst G u hG hGF)
    | (go_at_call 28
       refine hst2.mono ?_
       rintro e W2 ⟨v2, rfl, R2, hB2⟩
       rw [HS0.out] at R2
       obtain ⟨A2, c2, rfl⟩ := Kd.zbj R2
       obtain ⟨_, _, hC2⟩ := Kd.R_reads' R2
       obtain ⟨ad2, x0', rfl, hx0, f0', f1', f2'⟩ := atLr hC2 0 (by rw [← HLS.out]; simp)
       obtain rfl : x0' = x0 := by { rw [← HLS.out] at hx0; simpa using hx0.symm }
       have hl2 : LS.length ≤ 9223372036854775807 := hC2.2.1
       have hlp : 0 < LS.length := by { rw [← HLS.out]; simp }
       obtain ⟨X1, hX1⟩ : ∃ X, W2.alloc (.cells #[.slice (some ad2) LS.length c2] 45) = X := ⟨_, rfl⟩
       obtain ⟨b5, hb5⟩ : ∃ b, X1.heap.size = b := ⟨_, rfl⟩
       obtain ⟨X2, hX2⟩ : ∃ X, X1.alloc (.cells #[.slice (some ⟨W2.heap.size, 0, none⟩) 1 1] 28) = X := ⟨_, rfl⟩
       obtain ⟨mb, hmb⟩ : ∃ b, X2.heap.size = b := ⟨_, rfl⟩
       obtain ⟨X3, hX3⟩ : ∃ X, X2.alloc (.map #[] 0) = X := ⟨_, rfl⟩
       obtain ⟨X4, hX4⟩ : ∃ X, X3.alloc (.cells #[.int .i64 0] 3) = X := ⟨_, rfl⟩
       have bb1 : X1.heap[W2.heap.size]? = some (.cells #[.slice (some ad2) LS.length c2] 45 (0, 0)) := by { rw [← hX1]; exact za9 _ _ }
       have bb2 : X2.heap[b5]? = some (.cells #[.slice (some ⟨W2.heap.size, 0, none⟩) 1 1] 28 (0, 0)) := by { rw [← hX2, ← hb5]; exact za9 _ _ }
       have bb3 : MapAt keyL mb [] X3 := by { rw [← hX3, ← hmb]; exact MapAt.new _ }
       have bb4 : X4.heap[X3.heap.size]? = some (.cells #[.int .i64 0] 3 (0, 0)) := by { rw [← hX4]; exact za9 _ _ }
       have e1 : Below W2.heap.size W2 X1 := by { rw [← hX1]; exact (Below.refl _ _).alloc (Nat.le_refl _) _ }
       have e2 : Below X1.heap.size X1 X2 := by { rw [← hX2]; exact (Below.refl _ _).alloc (Nat.le_refl _) _ }
       have e3 : Below X2.heap.size X2 X3 := by { rw [← hX3]; exact (Below.refl _ _).alloc (Nat.le_refl _) _ }
       have e4 : Below X3.heap.size X3 X4 := by { rw [← hX4]; exact (Below.refl _ _).alloc (Nat.le_refl _) _ }
       have h23 := (e1.trans (e2.mono e1.size)).trans (e3.mono (e1.trans (e2.mono e1.size)).size)
       have f0 : X3.cell? ad2 = some (.int .i64 x0'.1) := by { have := zad h23 f0'; simpa [Addr.add] using this }
       have f1 : X3.cell? ⟨ad2.block, ad2.off + 1, none⟩ = some (.int .i64 x0'.2.1) := by { have := zad h23 f1'; simpa [Addr.add] using this }
       have f2 : X3.cell? ⟨ad2.block, ad2.off + 2, none⟩ = some (.int .i64 x0'.2.2) := by { have := zad h23 f2'; simpa [Addr.add] using this }
       have b53 : X3.cell? ⟨b5, 0, none⟩ = some (.slice (some ⟨W2.heap.size, 0, none⟩) 1 1) := zab (zat bb2 e3) 0
       have b23 : X3.cell? ⟨W2.heap.size, 0, none⟩ = some (.slice (some ad2) LS.length c2) := zab (zat (zat bb1 e2) e3) 0
       have hx0ok : lrOk x0' := hokS x0' (by { rw [← HLS.out]; simp })
       have m4 := bb3.keep (e4.block _ bb3.lt)
       obtain ⟨X5, hup, m5, g5⟩ := MapAt.put m4 Tryz.underlying61 (by decide) hx0ok (.slice (some ⟨X3.heap.size, 0, none⟩) 1 1)
       have hup' : (Instr.mapUpdate 61 (.map (some mb)) (.agg #[.int .i64 x0'.1, .int .i64 x0'.2.1, .int .i64 x0'.2.2]) (.slice (some ⟨X3.heap.size, 0, none⟩) 1 1)).run Tryz.prog X4 = .ok () X5 := hup
       clear f0' f1' f2' hx0 hC2))
  obtain ⟨es4, cl4, hmo4⟩ := m4.block
  have hB24 : Below W2.heap.size W2 X4 := h23.trans (e4.mono h23.size)
  have hu4 : Below u.heap.size u X4 := hB2.trans (hB24.mono hB2.size)
  have hum : u.heap.size ≤ mb := by rw [← hmb]; exact (hB2.trans ((e1.trans (e2.mono e1.size)).mono hB2.size)).size
  have hub : u.heap.size ≤ b5 := by rw [← hb5]; exact (hB2.trans (e1.mono hB2.size)).size
  have hu5 : Below u.heap.size u X5 := hu4.grown g5 hu4.size (fun k hk => by cases hk; exact hum)
  have hRL : Kd.R kLs TLs X4 u.heap.size (fun _ => True) (.slice (some ⟨W2.heap.size, 0, none⟩) 1 1) [LS] := by
    have hR4 := Kd.zbc R2 hB24
    refine R_one (okp := fun k => k < W2.heap.size) (cs := [.slice (some ad2) LS.length c2]) (zat (zat (zat bb1 e2) e3) e4) hB2.size ⟨_, rfl, ?_⟩ (fun k hk => by omega)
    exact Kd.zbc (Kd.zba (Kd.zcz R2) (fun k hk => hk.2.2.1)) hB24
  have as5 : AS u mb b5 [LS] X5 := by
    refine ⟨hu5, ⟨_, 1, LLay.zdl (zat (zat bb2 e3) e4) hmo4 g5, zei hRL hmo4 g5⟩, BY.one m5 (by rw [← HLS.out]; rfl) ?_, m5.lt, hum, hub⟩
    refine zei (R_one (okp := fun _ => False) (cs := [.int .i64 0]) bb4 ?_ ?_ (fun _ h => h.elim)) hmo4 g5
    · exact (hB2.trans (h23.mono hB2.size)).size
    · rfl
  have hok5 : OKs [LS] := by
    intro a ha
    obtain rfl := List.mem_singleton.1 ha
    refine ⟨?_, hokS⟩
    rw [← HS0.out, zgj]
    exact zhf k _ _ _ HR0.out
  have fu0 : u.cell? ⟨w.heap.size, 0, none⟩ = some (.slice F.A0 F.ts.length F.c0) := zad hBu cf0
  have fu1 : u.cell? ⟨w.heap.size, 1, none⟩ = some (.slice F.A1 F.ns.length F.c1) := zad hBu cf1
  have hwu : Below w.heap.size w u := hbf.trans (hBu.mono hbf.size)
  have hwrN : IntKind.i64.wrap ((F.ts.length : Int) + (F.ns.length : Int)) = (N : Int) := by rw [IntKind.wrap_i64]; omega
  have HU := Lib.hid (And.intro fu0 fu1)
  clear hst hst2 hly hmm cf0 cf1 cf2 bf hWf hbf hRL hu4 hu5 hmo4 g5 m5 m4 hup hup' hx0ok b23 b53 f0 f1 f2 h23 e1 e2 e3 e4 bb1 bb2 bb3 bb4 hX1 hX2 hX3 hX4 hb5 hmb hB24 R2 hB2 HLS hokS fu0 fu1
  go_loopw [7] (fun i wr => ∃ (i' : Nat) (al : List (List Lr)) (k' : Nat), i = .int .i64 (i' : Int) ∧ i' ≤ al.length ∧ al.length ≤ 600 ∧ AS u mb b5 al wr ∧ Hid (OKs al) ∧ Hid (allV (zen F.ts.length F.ps em Ss k) N k' i' al = some res)) (fun i _ => 601 - (Go.RowKit.intOf i).toNat)
  case atStart => exact ⟨0, [LS], k, rfl, Nat.zero_le _, by simp, as5, Lib.hid hok5, HH⟩
  case round =>
    clear as5 hok5 HH
    obtain ⟨i', al, k', rfl, hi, hal6, has, HO, HA⟩ := hrel
    obtain ⟨A5, c5, hbx5, hR5⟩ := has.box
    have cv5 := hbx5.cell
    have hA := HA.out
    obtain ⟨kk, rfl⟩ : ∃ m, k' = m + 1 := by
      cases k' with
      | zero => cases hA
      | succ m => exact ⟨m, rfl⟩
    simp only [allV] at hA
    by_cases hlt : i' < al.length
    · rw [if_pos hlt] at hA
      obtain ⟨r1, hsy, hA⟩ := Option.bind_eq_some_iff.1 hA
      obtain ⟨row, hrow⟩ : ∃ row, al.getD i' [] = row := ⟨_, rfl⟩
      rw [hrow] at hsy
      have g0 : wr.cell? ⟨w.heap.size, 0, none⟩ = some (.slice F.A0 F.ts.length F.c0) := zad has.b HU.out.1
      have g1 : wr.cell? ⟨w.heap.size, 1, none⟩ = some (.slice F.A1 F.ns.length F.c1) := zad has.b HU.out.2
      have hrl : row.length ≤ 1000000000 := by
        rw [← hrow, List.getD_eq_getElem?_getD, List.getElem?_eq_getElem hlt]
        exact (HO.out _ (List.getElem_mem _)).1
      have HSY := Lib.hid (show symsV (zen F.ts.length F.ps em Ss k row) (N - 0) 0 al = some r1 from hsy)
      have HA1 := Lib.hid hA
      have HROW := Lib.hid hrow
      clear hsy hA hrow HA hR5 hbx5;go_wp2
      go_loopw [36] (fun q wx => ∃ (q' : Nat) (al2 : List (List Lr)), q = .int .i64 (q' : Int) ∧ q' ≤ N ∧ AS u mb b5 al2 wx ∧ al2.length ≤ 600 ∧ i' < al2.length ∧ Hid (OKs al2) ∧ Hid (al2.getD i' [] = row) ∧ Hid (symsV (zen F.ts.length F.ps em Ss k row) (N - q') q' al2 = some r1)) (fun q _ => N - (Go.RowKit.intOf q).toNat)
      case atStart => exact ⟨0, al, rfl, Nat.zero_le _, has, hal6, hlt, HO, HROW, HSY⟩
      case round =>
        clear has HO HROW HSY hi hal6 hlt g0 g1 cv5
        obtain ⟨q, al2, rfl, hq, has, hal6, hi2, HO, HROW, HSY⟩ := hrel
        by_cases hqN : q < N
        · obtain ⟨A5, c5, hbx5, hR5⟩ := has.box
          have cv5 := hbx5.cell
          obtain ⟨_, _, hC5⟩ := Kd.R_reads' hR5
          obtain ⟨ad5, row', A1, c1, rfl, hrw, hl1, fr, hCr⟩ := atLs hC5 i' hi2
          obtain rfl : row' = row := by rw [← HROW.out, List.getD_eq_getElem?_getD, hrw]; rfl
          have hsy := HSY.out
          rw [show N - q = (N - (q + 1)) + 1 by omega] at hsy
          simp only [symsV] at hsy
          obtain ⟨L, hL, hsy⟩ := Option.bind_eq_some_iff.1 hsy
          obtain ⟨rr, hrr, hLs⟩ := Option.map_eq_some_iff.1 hL
          have hGx := hG.below has.b
          have hst := zjq G em Ss row' A1 c1 (q : Int) wr hGx hCr hrl k rr (by rw [hGF]; exact hrr)
          have hLok : L.length ≤ 1000000000 ∧ ∀ x ∈ L, lrOk x := by
            rw [← hLs]
            refine ⟨by rw [zgj]; exact zhf k _ _ _ hrr, fun x hx => ?_⟩
            rw [zfa] at hx
            have := zgr (n0 := F.ts.length) hr.ps x.1
            exact fit_ok (zhs k _ _ _ hrr (fun _ h => nomatch h) x hx) hr.pl (by omega) (by omega)
          rw [hLs] at hst
          have hil : al2.length ≤ 9223372036854775807 := by omega
          have HSY2 := Lib.hid hsy
          clear hsy hL hrr hLs HSY hrw hGx hC5
          by_cases hLn : L = []
          · subst hLn
            have hsy := HSY2.out
            rw [if_pos (.inl rfl)] at hsy
            have HS := Lib.hid hsy
            clear hsy
            go_wp2_with (go_at_call 29; refine hst.mono ?_; rintro e W4 ⟨v9, rfl, R9, B9⟩; obtain ⟨A9, c9, rfl⟩ := Kd.zbj R9; obtain ⟨X6, hX6⟩ : ∃ X, W4.alloc (.cells #[.slice A9 ([] : List Lr).length c9] 45) = X := ⟨_, rfl⟩; have bb9 : X6.heap[W4.heap.size]? = some (.cells #[.slice A9 ([] : List Lr).length c9] 45 (0, 0)) := (by rw [← hX6]; exact za9 _ _); have hB6 : Below W4.heap.size W4 X6 := (by rw [← hX6]; exact (Below.refl _ _).alloc (Nat.le_refl _) _); have cL9 : X6.cell? ⟨W4.heap.size, 0, none⟩ = some (.slice A9 ([] : List Lr).length c9) := zab bb9 0)
            go_roundw
            case rel => exact ⟨q + 1, al2, by first | rfl | go_num, by omega, has.keep (by have := B9.trans (hB6.mono B9.size); rw [← hX6] at this; exact this), hal6, hi2, HO, HROW, HS⟩
            case measure => simp [Go.RowKit.intOf]; omega
          · obtain ⟨x, Lt, hLx⟩ : ∃ x t, L = x :: t := by
              cases L with
              | nil => exact absurd rfl hLn
              | cons x t => exact ⟨x, t, rfl⟩
            have hLl : 0 < L.length := by rw [hLx]; simp
            have hh9 : L.head? = some x := by rw [hLx]; rfl
            have hx9 : lrOk x := hLok.2 x (by rw [hLx]; simp)
            have hL9 : L.length ≤ 1000000000 := hLok.1
            have hL0 : ((L.length : Int) == 0) = false := by simp; omega
            have HLX := Lib.hid hLx
            have HLOK := Lib.hid hLok
            clear hLx hLok
            by_cases hm : L ∈ al2
            · have hdm : decide (L ∈ al2) = true := decide_eq_true hm
              have hsy := HSY2.out
              rw [if_pos (.inr hm)] at hsy
              have HS := Lib.hid hsy
              have HDM := Lib.hid hdm
              clear hsy hm
              go_wp2_with (first
              | (go_at_call 29
                 refine hst.mono ?_
                 rintro e W4 ⟨v9, rfl, R9, B9⟩
                 obtain ⟨A9, c9, rfl⟩ := Kd.zbj R9
                 obtain ⟨_, _, hC9⟩ := Kd.R_reads' R9
                 obtain ⟨ad9, x9, rfl, hx9', f0', f1', f2'⟩ := atLr hC9 0 hLl
                 obtain rfl : x = x9 := by { rw [HLX.out] at hx9'; simpa using hx9' }
                 obtain ⟨X6, hX6⟩ : ∃ X, W4.alloc (.cells #[.slice (some ad9) L.length c9] 45) = X := ⟨_, rfl⟩
                 obtain ⟨b9, hb9⟩ : ∃ b, W4.heap.size = b := ⟨_, rfl⟩
                 have bb9 : X6.heap[b9]? = some (.cells #[.slice (some ad9) L.length c9] 45 (0, 0)) := by { rw [← hX6, ← hb9]; exact za9 _ _ }
                 have hB6 : Below W4.heap.size W4 X6 := by { rw [← hX6]; exact (Below.refl _ _).alloc (Nat.le_refl _) _ }
                 have cL9 : X6.cell? ⟨b9, 0, none⟩ = some (.slice (some ad9) L.length c9) := zab bb9 0
                 have f0 : X6.cell? ad9 = some (.int .i64 x.1) := by { have := zad hB6 f0'; simpa [Addr.add] using this }
                 have f1 : X6.cell? ⟨ad9.block, ad9.off + 1, none⟩ = some (.int .i64 x.2.1) := by { have := zad hB6 f1'; simpa [Addr.add] using this }
                 have f2 : X6.cell? ⟨ad9.block, ad9.off + 2, none⟩ = some (.int .i64 x.2.2) := by { have := zad hB6 f2'; simpa [Addr.add] using this }
                 have B96 := B9.trans (hB6.mono B9.size)
                 have has6 := has.keep B96
                 obtain ⟨Av, cv, hlk, hCv⟩ := by_look has6.by_ hx9
                 have hlk' : (Instr.lookup 61 (.map (some mb)) (.agg #[.int .i64 x.1, .int .i64 x.2.1, .int .i64 x.2.2]) false).run Tryz.prog X6 = .ok (.slice Av (hdF x 0 al2).length cv) X6 := hlk
                 have hct := has_calls has6 bb9 (Kd.zak hC9 hB6) hh9 hCv cv
                 rw [hdm] at hct
                 clear f0' f1' f2' hx9' hlk hC9 hCv)
              | (go_at_call 30
                 refine hct.mono ?_
                 rintro e X7 ⟨rfl, hB7⟩))
              go_roundw
              case rel => exact ⟨q + 1, al2, by first | rfl | go_num, by omega, has6.keep hB7, hal6, hi2, HO, HROW, HS⟩
              case measure => simp [Go.RowKit.intOf]; omega
            · have hdm : decide (L ∈ al2) = false := decide_eq_false hm
              have hsy := HSY2.out
              rw [if_neg (fun h => h.elim hLn hm)] at hsy
              have HS := Lib.hid hsy
              clear hsy hm
              go_wp2_with (first
              | (go_at_call 29
                 refine hst.mono ?_
                 rintro e W4 ⟨v9, rfl, R9, B9⟩
                 obtain ⟨A9, c9, rfl⟩ := Kd.zbj R9
                 obtain ⟨_, _, hC9⟩ := Kd.R_reads' R9
                 obtain ⟨ad9, x9, rfl, hx9', f0', f1', f2'⟩ := atLr hC9 0 hLl
                 obtain rfl : x = x9 := by { rw [HLX.out] at hx9'; simpa using hx9' }
                 obtain ⟨X6, hX6⟩ : ∃ X, W4.alloc (.cells #[.slice (some ad9) L.length c9] 45) = X := ⟨_, rfl⟩
                 obtain ⟨b9, hb9⟩ : ∃ b, W4.heap.size = b := ⟨_, rfl⟩
                 have bb9 : X6.heap[b9]? = some (.cells #[.slice (some ad9) L.length c9] 45 (0, 0)) := by { rw [← hX6, ← hb9]; exact za9 _ _ }
                 have hB6 : Below W4.heap.size W4 X6 := by { rw [← hX6]; exact (Below.refl _ _).alloc (Nat.le_refl _) _ }
                 have cL9 : X6.cell? ⟨b9, 0, none⟩ = some (.slice (some ad9) L.length c9) := zab bb9 0
                 have f0 : X6.cell? ad9 = some (.int .i64 x.1) := by { have := zad hB6 f0'; simpa [Addr.add] using this }
                 have f1 : X6.cell? ⟨ad9.block, ad9.off + 1, none⟩ = some (.int .i64 x.2.1) := by { have := zad hB6 f1'; simpa [Addr.add] using this }
                 have f2 : X6.cell? ⟨ad9.block, ad9.off + 2, none⟩ = some (.int .i64 x.2.2) := by { have := zad hB6 f2'; simpa [Addr.add] using this }
                 have B96 := B9.trans (hB6.mono B9.size)
                 have has6 := has.keep B96
                 obtain ⟨Av, cv, hlk, hCv⟩ := by_look has6.by_ hx9
                 have hlk' : (Instr.lookup 61 (.map (some mb)) (.agg #[.int .i64 x.1, .int .i64 x.2.1, .int .i64 x.2.2]) false).run Tryz.prog X6 = .ok (.slice Av (hdF x 0 al2).length cv) X6 := hlk
                 have hct := has_calls has6 bb9 (Kd.zak hC9 hB6) hh9 hCv cv
                 rw [hdm] at hct
                 clear f0' f1' f2' hx9' hlk hC9 hCv)
              | (go_at_call 30
                 refine hct.mono ?_
                 rintro e X7 ⟨rfl, hB7⟩))
              rename_i K12 hK12
              (try rw [hX6])
              (try rw [hb9])
              obtain ⟨Xd, hXd⟩ : ∃ X, X7.drew = X := ⟨_, rfl⟩
              have hB7d : Below X6.heap.size X6 Xd := by rw [← hXd]; exact za4 hB7
              have hasd : AS u mb b5 al2 Xd := has6.keep hB7d
              have hbyd := hasd.by_
              obtain ⟨A5', c5', hbx5d, hR5d⟩ := hasd.box
              have hR9d : Kd.R kLr TL Xd u.heap.size (fun k => wr.heap.size ≤ k) (.slice (some ad9) L.length c9) L := by
                refine Kd.zbc ?_ hB7d
                refine Kd.zbc ?_ hB6
                exact Kd.zbz (Kd.zba (Kd.zcz R9) (fun k hk => hk.2.1)) has.b.size
              have b9d := zat bb9 hB7d
              have hHeld : (fun X => X.cell? ⟨b9, 0, none⟩ = some (.slice (some ad9) L.length c9) ∧ X.cell? ad9 = some (.int .i64 x.1) ∧ X.cell? ⟨ad9.block, ad9.off + 1, none⟩ = some (.int .i64 x.2.1) ∧ X.cell? ⟨ad9.block, ad9.off + 2, none⟩ = some (.int .i64 x.2.2) ∧ X.cell? ⟨b5, 0, none⟩ = some (.slice A5' al2.length c5')) Xd := ⟨zab b9d 0, zad hB7d f0, zad hB7d f1, zad hB7d f2, hbx5d.cell⟩
              have hHeldX : (fun X => X.cell? ⟨b9, 0, none⟩ = some (.slice (some ad9) L.length c9) ∧ X.cell? ad9 = some (.int .i64 x.1) ∧ X.cell? ⟨ad9.block, ad9.off + 1, none⟩ = some (.int .i64 x.2.1) ∧ X.cell? ⟨ad9.block, ad9.off + 2, none⟩ = some (.int .i64 x.2.2) ∧ X.cell? ⟨b5, 0, none⟩ = some (.slice A5' al2.length c5')) X7.drew := by rw [hXd]; exact hHeld
              have keep12 : ∀ X Y : World, Below X.heap.size X Y → (fun X => X.cell? ⟨b9, 0, none⟩ = some (.slice (some ad9) L.length c9) ∧ X.cell? ad9 = some (.int .i64 x.1) ∧ X.cell? ⟨ad9.block, ad9.off + 1, none⟩ = some (.int .i64 x.2.1) ∧ X.cell? ⟨ad9.block, ad9.off + 2, none⟩ = some (.int .i64 x.2.2) ∧ X.cell? ⟨b5, 0, none⟩ = some (.slice A5' al2.length c5')) X → (fun X => X.cell? ⟨b9, 0, none⟩ = some (.slice (some ad9) L.length c9) ∧ X.cell? ad9 = some (.int .i64 x.1) ∧ X.cell? ⟨ad9.block, ad9.off + 1, none⟩ = some (.int .i64 x.2.1) ∧ X.cell? ⟨ad9.block, ad9.off + 2, none⟩ = some (.int .i64 x.2.2) ∧ X.cell? ⟨b5, 0, none⟩ = some (.slice A5' al2.length c5')) Y := fun X Y h hh => ⟨zad h hh.1, zad h hh.2.1, zad h hh.2.2.1, zad h hh.2.2.2.1, zad h hh.2.2.2.2⟩
              have hlw : wr.heap.size ≤ b9 := by rw [← hb9]; exact B9.size
              have hlo5 : ∀ k, (Value.slice A5' al2.length c5').ownBlock = some k → k < wr.heap.size := by
                obtain ⟨A', c', hbx', hR'⟩ := has.box
                have e1 := zat hbx' (B96.trans (hB7d.mono B96.size))
                rw [hbx5d] at e1
                injection e1 with e1
                injection e1 with e1
                have e2 : Value.slice A5' al2.length c5' = .slice A' al2.length c' := by simpa using e1
                rw [e2]
                exact Kd.R_lt hR'
              clear R9 B9 hB6 hB7 hX6 hb9 bb9 cL9 f0 f1 f2 hct hlk' has6 has hst cv5 fr hbx5 hR5 hB7d B96 hCr
              refine Ahd.zcy (zbl (S := (fun X => X.cell? ⟨b9, 0, none⟩ = some (.slice (some ad9) L.length c9) ∧ X.cell? ad9 = some (.int .i64 x.1) ∧ X.cell? ⟨ad9.block, ad9.off + 1, none⟩ = some (.int .i64 x.2.1) ∧ X.cell? ⟨ad9.block, ad9.off + 2, none⟩ = some (.int .i64 x.2.2) ∧ X.cell? ⟨b5, 0, none⟩ = some (.slice A5' al2.length c5'))) (ds := [7, 9, 11]) (Ymk 12 0) (by kernel_rfl) rfl rfl hHeldX (fun h0_ => ?_))
              rw [hXd]
              clear h0_
              refine Ypk 0 58 12 1 ?_
              refine Ytk 1 59 12 3 hHeld ?_
              refine Ypk 2 60 12 7 ?_
              refine Ytk 3 61 12 15 hHeld ?_
              refine Ytk 4 63 12 31 hHeld ?_
              refine Ypk 5 64 12 63 ?_
              refine Yok 6 65 12 127 (fun K hK => ?_)
              refine zcm (w1 := Xd.alloc (.cells #[.int .i64 (al2.length : Int)] 3)) (v := .slice (some ⟨Xd.heap.size, 0, none⟩) 1 1) (by rfl) rfl ?_ ?_
              · go_simp
              obtain ⟨X1, hX1⟩ : ∃ X, Xd.alloc (.cells #[.int .i64 (al2.length : Int)] 3) = X := ⟨_, rfl⟩
              have bi1 : X1.heap[Xd.heap.size]? = some (.cells #[.int .i64 (al2.length : Int)] 3 (0, 0)) := by rw [← hX1]; exact za9 _ _
              have hB1 : Below Xd.heap.size Xd X1 := by rw [← hX1]; exact (Below.refl _ _).alloc (Nat.le_refl _) _
              rw [hX1]
              clear hX1
              have hh1 := keep12 _ _ hB1 hHeld
              obtain ⟨es1, cl1, hmo1⟩ : ∃ es cl, X1.heap[mb]? = some (.map es cl) := by
                obtain ⟨M1, _, hM1, _⟩ := BY.keep hbyd hB1
                exact hM1.block
              obtain ⟨v0, st, W1, r1_, g1, R0, o0, hpush⟩ := BY.push (BY.keep hbyd hB1) hx9 hh9 (by simp [maxLen]; omega)
              obtain ⟨A0, c0, rfl⟩ := Kd.zbj R0
              have r1' : (Instr.mapEntry 61 (.map (some mb)) (.agg #[.int .i64 x.1, .int .i64 x.2.1, .int .i64 x.2.2])).run Tryz.prog X1 = .ok (.tuple #[.slice A0 (hdF x 0 al2).length c0, st]) W1 := r1_
              clear r1_
              refine hK.out _ _ hh1 (fun h0_ => ?_)
              clear hK K h0_
              refine Ynm 65 ?_
              refine Ylk 7 66 12 255 (fun K hK => ?_)
              refine zcm (w1 := W1) (v := .tuple #[.slice A0 (hdF x 0 al2).length c0, st]) (by rfl) rfl ?_ ?_
              · go_simp
              refine hK.out _ _ ?_
              clear hK K
              refine Ynm 66 ?_
              refine Ypk 8 62 12 511 ?_
              refine Ypk 10 68 12 1535 ?_
              refine Ylk 9 67 12 2047 (fun K hK => ?_)
              refine Kd.zhq (Kd.int .i64) (Rr := fun y cs => cs = [Value.int .i64 y]) (w0 := u) u.heap.size (by rfl) (.tmp 62) (.tmp 65) 35 TI (.int .i64 0) 8 rfl Tryz.underlying35 infoI rfl (by decide) (by decide) _ (hdF x 0 al2) [(al2.length : Int)] (some ⟨Xd.heap.size, 0, none⟩) 1 1 (fun _ => True) (fun _ => False) rfl rfl R0 ?aR (fun y cs h => h) (fun _ h => h.elim) (fun _ _ => trivial) ?aB ?aS ?aL ?_
              rotate_right
              intro v1 W2 R2_ hB2_ g2 hat2
              obtain ⟨W3, r3, g3, hby3, es3, cl3, hmo3⟩ := hpush v1 W2 R2_ g2 hat2
              obtain ⟨Av1, cv1, rfl⟩ := Kd.zbj R2_
              simp only [List.length_append, List.length_cons, List.length_nil, Nat.zero_add] at r3
              refine hK.out _ _ ?_
              clear hK K
              refine zfv (i := 11) (N := none) (Ymk 12 4095) rfl rfl (by kernel_rfl) (by decide) (fun K hK0 => ?_)
              refine skip_ (w1 := W3) (by rfl) rfl ?_ ?_
              · go_simp
              refine hK0.out _ _ ?_
              refine zbq (by kernel_rfl) ?_
              case aR =>
                refine ⟨rfl, by simp, fun _ => ⟨⟨Xd.heap.size, 0, none⟩, rfl, fun j p hj => ?_⟩⟩
                obtain rfl : j = 0 := by
                  cases j with
                  | zero => rfl
                  | succ j => simp at hj
                obtain rfl : (al2.length : Int) = p := by simpa using hj
                refine ⟨[.int .i64 (al2.length : Int)], rfl, rfl, fun i v hv => ?_⟩
                have hi0 : i = 0 := by
                  cases i with
                  | zero => rfl
                  | succ i => simp at hv
                subst hi0
                have hbi := LLay.zdl bi1 hmo1 g1
                have e := zab hbi 0
                show W1.cell? ((⟨Xd.heap.size, 0, none⟩ : Addr).add (0 * 1 + 0)) = _
                rw [add_plain]
                exact e.trans hv
              case aB => exact (hasd.b.trans (hB1.mono hasd.b.size)).grown g1 (hasd.b.trans (hB1.mono hasd.b.size)).size (fun k hk => by cases hk; exact hum)
              case aS => have := g1.size; have := hB1.size; have := hasd.b.size; omega
              case aL => have := hdF_len x 0 al2; omega
              refine hK12 _ _ ?_
              have o1 : ∀ k, (Value.slice A0 (hdF x 0 al2).length c0).ownBlock = some k → ∃ cs fr, W1.heap[k]? = some (.cells cs TI fr) := fun k hk => by
                obtain ⟨_, cs, hc⟩ := o0 k hk
                exact ⟨cs, (0, 0), LLay.zdl hc hmo1 g1⟩
              have hbu3 : Below u.heap.size u W3 := hB2_.grown g3 hB2_.size (fun k hk => by cases hk; exact hum)
              have hb53 : Boxed W3 b5 28 (.slice A5' al2.length c5') := LLay.zdl (blk_typed (LLay.zdl (zat hbx5d hB1) hmo1 g1) (fun k hk => by obtain ⟨cs, fr, hc⟩ := o1 k hk; exact ⟨cs, TI, fr, hc, by decide⟩) g2) hmo3 g3
              have hb93 := LLay.zdl (blk_typed (LLay.zdl (zat b9d hB1) hmo1 g1) (fun k hk => by obtain ⟨cs, fr, hc⟩ := o1 k hk; exact ⟨cs, TI, fr, hc, by decide⟩) g2) hmo3 g3
              have R53 := zei (zdm (zei (Kd.zbc hR5d hB1) hmo1 g1) (fun k hk => by obtain ⟨cs, fr, hc⟩ := o1 k hk; exact ⟨cs, TI, fr, hc, by decide⟩) g2) hmo3 g3
              have R93 := zei (zdm (zei (Kd.zbc hR9d hB1) hmo1 g1) (fun k hk => by obtain ⟨cs, fr, hc⟩ := o1 k hk; exact ⟨cs, TI, fr, hc, by decide⟩) g2) hmo3 g3
              obtain ⟨in5, ho53⟩ := Kd.R_own R53
              have cb5 := hb53.cell
              have cb9 : W3.cell? ⟨b9, 0, none⟩ = some (.slice (some ad9) L.length c9) := zab hb93 0
              clear hK12 hHeld hHeldX keep12 hasd hbyd hbx5d hR5d hR9d b9d hXd hh1 bi1 hB1 hpush R0 o0 g1 r1' hmo1 R2_ hB2_ g2 hat2 r3 g3 hmo3 o1 hb93
              by_cases hmany : al2.length + 1 > 600
              · have hgt : (600 : Int) < (al2.length : Int) + 1 := by omega
                have hS := HS.out
                rw [if_pos hmany] at hS
                have HR1 := Lib.hid (Option.some.inj hS)
                clear hS HS
                go_wp2_with (first
                | (at_builtin
                   refine Kd.zdd kLs (w0 := u) u.heap.size rfl (.tmp 69) (.tmp 71) 28 45 (.slice none 0 0) 24 rfl Tryz.underlying28 infoLs rfl (by decide) (by decide) (.slice A5' al2.length c5') al2 L [.slice (some ad9) L.length c9] (fun _ => True) (fun k => wr.heap.size ≤ k) rfl rfl ⟨_, rfl, R93⟩ (fun k hk => ⟨trivial, fun e => by have := hlo5 k e.symm; omega⟩) (fun _ _ => trivial) R53 hbu3 hbu3.size (by omega) ?_
                   intro v1 W4' R4 hB4 g4 _
                   obtain ⟨Ax, cx, rfl⟩ := Kd.zbj R4
                   have hb54 := hb53.kept g4 (own_ne ho53 hb53 (by decide))
                   have cW4 := hb54.cell
                   have fW4 := hb54.frozen
                   have hlA : (al2 ++ [L]).length = al2.length + 1 := by { simp }
                   rw [hlA] at R4
                   obtain ⟨W5, hW5⟩ : ∃ X, W4'.setCell ⟨b5, 0, none⟩ (.slice Ax (al2.length + 1) cx) = X := ⟨_, rfl⟩
                   have hb55 : Boxed W5 b5 28 (.slice Ax (al2.length + 1) cx) := by { rw [← hW5]; exact hb54.set _ }
                   have cW5 := hb55.cell))
                have hres : res = none := by
                  have := HA1.out
                  rw [← HR1.out] at this
                  simpa using this.symm
                subst hres
                go_ret2
                refine ⟨_, _, rfl, rfl, Kd.zdr _ _ _ _ _, ?_⟩
                have h5 : Below u.heap.size u W5 := by rw [← hW5]; exact hB4.setCell (p := ⟨b5, 0, none⟩) hub _
                exact hwu.trans (h5.mono hwu.size)
              · have hgt : ¬ (600 : Int) < (al2.length : Int) + 1 := by omega
                have hS := HS.out
                rw [if_neg hmany] at hS
                have HS' := Lib.hid hS
                clear hS HS
                go_wp2_with (first
                | (at_builtin
                   refine Kd.zdd kLs (w0 := u) u.heap.size rfl (.tmp 69) (.tmp 71) 28 45 (.slice none 0 0) 24 rfl Tryz.underlying28 infoLs rfl (by decide) (by decide) (.slice A5' al2.length c5') al2 L [.slice (some ad9) L.length c9] (fun _ => True) (fun k => wr.heap.size ≤ k) rfl rfl ⟨_, rfl, R93⟩ (fun k hk => ⟨trivial, fun e => by have := hlo5 k e.symm; omega⟩) (fun _ _ => trivial) R53 hbu3 hbu3.size (by omega) ?_
                   intro v1 W4' R4 hB4 g4 _
                   obtain ⟨Ax, cx, rfl⟩ := Kd.zbj R4
                   have hb54 := hb53.kept g4 (own_ne ho53 hb53 (by decide))
                   have cW4 := hb54.cell
                   have fW4 := hb54.frozen
                   have hlA : (al2 ++ [L]).length = al2.length + 1 := by { simp }
                   rw [hlA] at R4
                   obtain ⟨W5, hW5⟩ : ∃ X, W4'.setCell ⟨b5, 0, none⟩ (.slice Ax (al2.length + 1) cx) = X := ⟨_, rfl⟩
                   have hb55 : Boxed W5 b5 28 (.slice Ax (al2.length + 1) cx) := by { rw [← hW5]; exact hb54.set _ }
                   have cW5 := hb55.cell))
                have hg5 : W4'.grownBy W5 (some b5) := by rw [← hW5]; exact grownBy_setCell' _ _ _
                have h5 : Below u.heap.size u W5 := by rw [← hW5]; exact hB4.setCell (p := ⟨b5, 0, none⟩) hub _
                have o5 := own_cells ho53
                have hby5 : BY mb u.heap.size (al2 ++ [L]) W5 := (BY.typed (BY.typed hby3 (fun k hk => by obtain ⟨cs, hc⟩ := o5 k hk; exact ⟨cs, TLs, (0, 0), hc, by decide⟩) g4) (fun k hk => by cases hk; exact ⟨_, _, _, hb54, by decide⟩) hg5)
                have R55 : Kd.R kLs TLs W5 u.heap.size (fun _ => True) (.slice Ax (al2 ++ [L]).length cx) (al2 ++ [L]) := by
                  rw [hlA]
                  exact zdm R4 (fun k hk => by cases hk; exact ⟨_, _, _, hb54, by decide⟩) hg5
                have hmb5 : mb < W5.heap.size := by
                  obtain ⟨_, _, h, _⟩ := hby5
                  exact h.lt
                have as5 : AS u mb b5 (al2 ++ [L]) W5 := ⟨h5, ⟨Ax, cx, by rw [hlA]; exact hb55, R55⟩, hby5, hmb5, hum, hub⟩
                have hok5 : OKs (al2 ++ [L]) := fun a ha => by
                  rcases List.mem_append.1 ha with ha | ha
                  · exact HO.out a ha
                  · obtain rfl := List.mem_singleton.1 ha
                    exact HLOK.out
                go_roundw
                case rel => exact ⟨q + 1, al2 ++ [L], by first | rfl | go_num, by omega, as5, by rw [hlA]; omega, by rw [hlA]; omega, Lib.hid hok5, Lib.hid (by rw [List.getD_eq_getElem?_getD, List.getElem?_append_left hi2, ← List.getD_eq_getElem?_getD]; exact HROW.out), HS'⟩
                case measure => simp [Go.RowKit.intOf]; omega
        · obtain rfl : q = N := by omega
          have hsy := HSY.out
          rw [Nat.sub_self] at hsy
          have HR1 := Lib.hid (Option.some.inj hsy)
          have hA := HA1.out
          rw [← HR1.out] at hA
          simp only [Bool.false_eq_true, if_false] at hA
          have HA2 := Lib.hid hA
          clear hA hsy HSY;go_wp2
          go_roundw
          case rel => exact ⟨i' + 1, al2, kk, by first | rfl | go_num, by omega, hal6, has, HO, HA2⟩
          case measure => simp [Go.RowKit.intOf]; omega
    · rw [if_neg hlt] at hA
      obtain rfl := Option.some.inj hA
      have hil : al.length ≤ 9223372036854775807 := by omega
      have HB := Lib.hid (hwu.trans (has.b.mono hwu.size))
      have HRR := Lib.hid (Kd.zbz hR5 hwu.size)
      clear hR5 has hbx5 HA;go_wp2
      go_ret2
      exact ⟨.slice A5 al.length c5, 0, rfl, rfl, HRR.out, HB.out⟩
end Go.Proofs.ZZ.LAll
end
section
namespace Go.Proofs.ZZ.LGiv
open Go Go.RowKit Go.Shelf Go.Maps Go.Proofs.ZW.PrintWords Go.Proofs.ZW.PrintLast Go.Proofs.ZZ.Fl Go.Proofs.ZZ.Grow Go.Proofs.ZZ.Deri Go.Proofs.ZZ.Begin Go.Proofs.ZZ.Begun Go.Proofs.ZZ.LrK Go.Proofs.ZZ.LSeq Go.Proofs.ZZ.LLex Go.Proofs.ZZ.LSort Go.Proofs.ZZ.LFlat Go.Proofs.ZZ.LClos Go.Proofs.ZZ.LStep Go.Proofs.ZZ.LAll
theorem R_map {α β : Type} {d : Kd α} {d' : Kd β} {g : α → β} {e : Nat} {w : World} {base : Nat} {ok : Nat → Prop} {v : Value} {xs : List α} (hz : d'.sz = d.sz) (hM : ∀ ok x cs, d.M w base ok x cs → d'.M w base ok (g x) cs) (h : Kd.R d e w base ok v xs) : Kd.R d' e w base ok v (xs.map g) := by
 obtain ⟨h0, inner, ho, hr⟩ := h
 refine ⟨h0, inner, by rw [List.length_map, hz]; exact ho, by rw [List.length_map, hz]; exact hr.1, fun j p hj => ?_⟩
 rw [List.getElem?_map] at hj
 cases hx : xs[j]? with
 | none => rw [hx] at hj; cases hj
 | some x =>
  rw [hx] at hj
  obtain rfl : g x = p := by simpa using hj
  rw [hz]
  exact hM _ _ _ (hr.2 j x hx)
theorem zhg {n0 : Nat} {ps : List P} {em : List Bool} {Ss : List (List Int)} : ∀ (k : Nat) (S T : List Lr), LeO (zb1 n0 ps em Ss k S T) (zb1 n0 ps em Ss (k + 1) S T)
 | 0, _, _ => LeO.none _
 | k + 1, S, T => by
  intro r h
  rcases snoc T with rfl | ⟨T0, x, rfl⟩
  ·obtain ⟨rfl, h1⟩ := zfh h
   unfold zb1
   rw [if_pos (by simpa using h1)]
   rfl
  ·obtain ⟨m, hm, hlen, h'⟩ := zev h
   obtain rfl : m = k := by omega
   have ih := zhg m _ _ r h'
   have hg : (T0 ++ [x]).length + S.length ≤ 1000000000 := by
    unfold zb1 at h
    split at h
    ·assumption
    ·cases h
   show zb1 n0 ps em Ss (m + 1 + 1) S (T0 ++ [x]) = some r
   rw [zb1, if_pos hg]
   simp only [List.getLast?_concat, List.dropLast_concat]
   exact ih
end Go.Proofs.ZZ.LGiv
end
section
namespace Go.Proofs.ZZ.PSame
open Go.RowKit Go.Proofs.ZW.PrintWords Go.Proofs.ZW.PrintLast Go.Proofs.ZW.PrintMore
section
end
structure S50 where
 f0 : Int
 f1 : Int
 f2 : Int
def z50 : S50 := ⟨(0 : Int), (0 : Int), (0 : Int)⟩
def k50 : Kd S50 := Kd.iso (Kd.pair (Kd.int .i64) (Kd.pair (Kd.int .i64) (Kd.int .i64))) (fun x : S50 => (x.f0, x.f1, x.f2))
theorem zi6 {w : World} {x : S50} {cs : List Value} (h : k50.K w x cs) : cs = [.int .i64 x.f0, .int .i64 x.f1, .int .i64 x.f2] := by
 obtain ⟨_, _, rfl, rfl, ⟨_, _, rfl, rfl, rfl⟩⟩ := h
 exact rfl
def zae (xs : List S50) (i : Int) : S50 := xs.getD i.toNat z50
theorem zcv {w : World} {A : Option Addr} {n : Nat} {xs : List S50} (h : Kd.C k50 w A n xs) (i : Int) (h0 : 0 ≤ i) (h1 : i < n) : ∃ ad , A = some ad ∧ w.cell? (ad.add (i.toNat * 3)) = some (.int .i64 (zae xs i).f0) ∧ w.cell? ⟨(ad.add (i.toNat * 3)).block, (ad.add (i.toNat * 3)).off + 1, none⟩ = some (.int .i64 (zae xs i).f1) ∧ w.cell? ⟨(ad.add (i.toNat * 3)).block, (ad.add (i.toNat * 3)).off + 2, none⟩ = some (.int .i64 (zae xs i).f2) := by
 obtain ⟨ad, c, e, _, hK, hc0⟩ := Kd.zeu h z50 i h0 h1
 have hc : ∀ j u, c[j]? = some u → w.cell? (ad.add (i.toNat * 3 + j)) = some u := hc0
 obtain rfl := zi6 hK
 exact ⟨ad, e, hc 0 _ rfl, by rw [← zb5 _ _ 1 (by omega)]; exact hc 1 _ rfl, by rw [← zb5 _ _ 2 (by omega)]; exact hc 2 _ rfl⟩
section
end
theorem eqA50 (d : Nat) (w : World) (x0 y0 : Int) (x1 y1 : Int) (x2 y2 : Int) :
  (Op.equalIn (d + 2) 50 (.agg #[.int .i64 x0, .int .i64 x1, .int .i64 x2]) (.agg #[.int .i64 y0, .int .i64 y1, .int .i64 y2])).run Tryz.prog w = .ok (x0 == y0 && (x1 == y1 && (x2 == y2))) w := by
 refine eqA_of Tryz.underlying50 (by kernel_rfl) ?_
 refine ze4 (by rfl) (by go_simp; rfl) (by go_simp; rfl) (by go_simp) ?_
 refine ze4 (by rfl) (by go_simp; rfl) (by go_simp; rfl) (by go_simp) ?_
 exact ziz (by rfl) (by go_simp; rfl) (by go_simp; rfl) (by go_simp)
section
end
attribute [local go_sem high] eqA50
def zaq.l0 : Nat → List (S50) → List (S50) → Int → Option (Bool)
 | 0, _, _, _ => none
 | k + 1, x0, x1, x5 => if x5 < (x0.length : Int) then (if 0 ≤ x5 then (if x5 < (x1.length : Int) then (if (!(((zae x0 x5).f0) == ((zae x1 x5).f0)) || (!(((zae x0 x5).f1) == ((zae x1 x5).f1)) || (!(((zae x0 x5).f2) == ((zae x1 x5).f2))))) = true then (some false) else (zaq.l0 k x0 x1 (wrap64 (x5 + 1)))) else (none)) else (none)) else (some true)
def zaq.f (k : Nat) (l0 : List (S50)) (l1 : List (S50)) : Option (Bool) := if (l0.length : Int) = (l1.length : Int) then (zaq.l0 k l0 l1 0) else (some false)
theorem zaq.calls (k : Nat) (A0 : Option Addr) (c0 : Nat) (l0 : List (S50)) (A1 : Option Addr) (c1 : Nat) (l1 : List (S50)) (r : Bool) (w : World) (hr0 : Kd.C k50 w A0 l0.length l0) (hc0 : l0.length ≤ c0) (hr1 : Kd.C k50 w A1 l1.length l1) (hc1 : l1.length ≤ c1) (h : zaq.f k l0 l1 = some r) :
  Calls Tryz.prog 19 #[.slice A0 l0.length c0, .slice A1 l1.length c1] w fun e w' => e = .returned (.bool r) ∧ za5 w w' := by
 have hu50 := Tryz.underlying50
 have HR0 := zaa.mk hr0;have HC0 := zaa.mk hc0;clear hr0 hc0;have HR1 := zaa.mk hr1;have HC1 := zaa.mk hc1;clear hr1 hc1
 have H : (if (l0.length : Int) = (l1.length : Int) then (zaq.l0 k l0 l1 0) else (some false)) = some r := h
 clear h
 by_cases c3 : (l0.length : Int) = (l1.length : Int)
 ·rw [if_pos c3] at H
  have c3b0 : ((l0.length : Int) == (l1.length : Int)) = true := beq_iff_eq.mpr c3
  have c3b1 : ((l0.length : Int) != (l1.length : Int)) = false := bne_eq_false_iff_eq.mpr c3
  have c3b2 : (l0.length == l1.length) = true := by first | simpa using c3 | (simp at c3 ⊢; omega)
  clear c3
  have H' := zaa.mk H
  clear H
  go_enter Tryz.func19, Tryz.ntmps19
  go_wp2
  repeat (go_quiet (fail); try go_wp2)
  go_loopg [5] k (fun kq v5 w' => ∃ (x5_1 : Int), v5 = .int .i64 x5_1 ∧ zaa (zaq.l0 kq l0 l1 x5_1 = some r) ∧ zaa (kq ≤ k) ∧ za5 w w')
  case atStart => exact ⟨(0), Yfs, H', ⟨Nat.le_refl _⟩, by repeat (first | exact za5.refl _ | apply za5.step)⟩
  case round =>
   clear H'
   obtain ⟨x5_1, rfl, HA, HK1, ⟨m1, rfl⟩⟩ := hrel
   cases gk with
   | zero => exact absurd HA.out (by simp [zaq.l0])
   | succ k1 =>
    have H := HA.out;clear HA
    simp only [zaq.l0] at H
    by_cases c4 : x5_1 < (l0.length : Int)
    ·rw [if_pos c4] at H
     have c4b0 := decide_eq_true c4
     clear c4
     by_cases c5 : 0 ≤ x5_1
     ·rw [if_pos c5] at H
      have c5b0 := decide_eq_true c5
      clear c5
      by_cases c6 : x5_1 < (l1.length : Int)
      ·rw [if_pos c6] at H
       have c6b0 := decide_eq_true c6
       clear c6
       by_cases c7 : (!(((zae l0 x5_1).f0) == ((zae l1 x5_1).f0)) || (!(((zae l0 x5_1).f1) == ((zae l1 x5_1).f1)) || (!(((zae l0 x5_1).f2) == ((zae l1 x5_1).f2))))) = true
       ·rw [if_pos c7] at H
        have c7b0 : (!(((zae l0 x5_1).f0) == ((zae l1 x5_1).f0)) || (!(((zae l0 x5_1).f1) == ((zae l1 x5_1).f1)) || (!(((zae l0 x5_1).f2) == ((zae l1 x5_1).f2))))) = true := c7
        clear c7;obtain rfl := Option.some.inj H
        have p101 : 0 ≤ (x5_1 : Int) := Yod
        have q101 : x5_1 < (l0.length : Int) := Yod
        obtain ⟨ad101, e101, hx101_0, hx101_1, hx101_2⟩ := zcv HR0.out x5_1 p101 q101
        cases e101
        replace p101 := eq_true p101
        replace q101 := eq_true q101
        have p102 : 0 ≤ (x5_1 : Int) := Yod
        have q102 : x5_1 < (l1.length : Int) := Yod
        obtain ⟨ad102, e102, hx102_0, hx102_1, hx102_2⟩ := zcv HR1.out x5_1 p102 q102
        cases e102
        replace p102 := eq_true p102
        replace q102 := eq_true q102
        go_wp2
        repeat (go_quiet (fail); try go_wp2)
        go_ret
        exact ⟨Yfs, by repeat (first | exact za5.refl _ | apply za5.step)⟩
       ·rw [if_neg c7] at H
        have c7b0 : (!(((zae l0 x5_1).f0) == ((zae l1 x5_1).f0)) || (!(((zae l0 x5_1).f1) == ((zae l1 x5_1).f1)) || (!(((zae l0 x5_1).f2) == ((zae l1 x5_1).f2))))) = false := by simpa using c7
        clear c7
        have H' := zaa.mk H
        clear H
        have p101 : 0 ≤ (x5_1 : Int) := Yod
        have q101 : x5_1 < (l0.length : Int) := Yod
        obtain ⟨ad101, e101, hx101_0, hx101_1, hx101_2⟩ := zcv HR0.out x5_1 p101 q101
        cases e101
        replace p101 := eq_true p101
        replace q101 := eq_true q101
        have p102 : 0 ≤ (x5_1 : Int) := Yod
        have q102 : x5_1 < (l1.length : Int) := Yod
        obtain ⟨ad102, e102, hx102_0, hx102_1, hx102_2⟩ := zcv HR1.out x5_1 p102 q102
        cases e102
        replace p102 := eq_true p102
        replace q102 := eq_true q102
        go_wp2
        repeat (go_quiet (fail); try go_wp2)
        go_roundg k1
        case measure => have := HK1.out; omega
        case rel => exact ⟨(wrap64 (x5_1 + 1)), Yfs, H', ⟨by have := HK1.out; omega⟩, by repeat (first | exact za5.refl _ | apply za5.step)⟩
      ·rw [if_neg c6] at H
       exact absurd H (by simp)
     ·rw [if_neg c5] at H
      exact absurd H (by simp)
    ·rw [if_neg c4] at H
     have c4b0 := decide_eq_false c4
     clear c4;obtain rfl := Option.some.inj H;go_wp2
     repeat (go_quiet (fail); try go_wp2)
     go_ret
     exact ⟨Yfs, by repeat (first | exact za5.refl _ | apply za5.step)⟩
 ·rw [if_neg c3] at H
  have c3b0 : ((l0.length : Int) == (l1.length : Int)) = false := beq_eq_false_iff_ne.mpr c3
  have c3b1 : ((l0.length : Int) != (l1.length : Int)) = true := bne_iff_ne.mpr c3
  have c3b2 : (l0.length == l1.length) = false := by first | simpa using c3 | (simp at c3 ⊢; omega)
  obtain rfl := Option.some.inj H
  go_enter Tryz.func19, Tryz.ntmps19
  go_wp2
  repeat (go_quiet (fail); try go_wp2)
  go_ret
  exact ⟨Yfs, by repeat (first | exact za5.refl _ | apply za5.step)⟩
end Go.Proofs.ZZ.PSame
end
section
namespace Go.Proofs.ZZ.LAwake
open Go Go.RowKit Go.Shelf Go.Maps Go.Proofs.ZW.PrintWords Go.Proofs.ZW.PrintLast Go.Proofs.ZZ.Fl Go.Proofs.ZZ.Grow Go.Proofs.ZZ.Deri Go.Proofs.ZZ.Begin Go.Proofs.ZZ.Begun Go.Proofs.ZZ.LrK Go.Proofs.ZZ.LSeq Go.Proofs.ZZ.LLex Go.Proofs.ZZ.LFlat Go.Proofs.ZZ.LClos Go.Proofs.ZZ.LInv Go.Proofs.ZZ.LStep Go.Proofs.ZZ.LEq Go.Proofs.ZZ.LAll
def ex0 : List ByteArray := [⟨#[120]⟩, ⟨#[121]⟩]
def ex1 : List ByteArray := [⟨#[97]⟩]
def exI (n : Int) : I := (n, ⟨#[]⟩, ⟨#[]⟩)
def exP : List P := [(2, [exI 0, exI 2], 0), (2, [exI 1], 0)]
def exE : List Bool := [false, false, false]
def exF : List (List Int) := [[0], [1], [0, 1]]
def exS0 : List Lr := [(-1, 0, 2), (0, 0, 2), (1, 0, 2)]
def exC : List Lr := [(-1, 0, 2), (1, 0, 2), (0, 0, 2)]
def exA : List (List Lr) := match allV (zen 2 exP exE exF 20) 3 20 0 [exS0] with | some (some l) => l | _ => []
def exR : List Lr := match zb1 2 exP exE exF 20 [] (zcr 2 exP 2 exS0) with | some l => l | _ => []
theorem ex_e : zb2 zb7 exP 20 (List.replicate 3 false) = some exE := by decide +kernel
theorem ex_f : zb2 (zcg 3 exE) exP 20 (zcq 3 2) = some exF := by decide +kernel
theorem ex_c : zb1 2 exP exE exF 20 [] [(-1, 0, 2)] = some exC := by decide +kernel
theorem ex_s : srtL exC = exS0 := by decide +kernel
theorem ex_a : allV (zen 2 exP exE exF 20) 3 20 0 [exS0] = some (some exA) := by decide +kernel
theorem exA_len : exA.length = 5 := by decide +kernel
theorem exA_0 : exA[0]? = some exS0 := by decide +kernel
theorem ex_r : zb1 2 exP exE exF 20 [] (zcr 2 exP 2 exS0) = some exR := by decide +kernel
theorem exG_len : (srtL exR).length = 1 := by decide +kernel
theorem ex_ps : ∀ p ∈ exP, PrOk 3 p ∧ p.2.1.length ≤ 1000 := by
 intro p hp
 simp only [exP, List.mem_cons, List.not_mem_nil, or_false] at hp
 rcases hp with rfl | rfl
 ·refine ⟨⟨by decide, by decide, ?_⟩, by decide⟩
  intro i hi
  simp only [exI, List.mem_cons, List.not_mem_nil, or_false] at hi
  rcases hi with rfl | rfl <;> exact ⟨by decide, by decide⟩
 ·refine ⟨⟨by decide, by decide, ?_⟩, by decide⟩
  intro i hi
  simp only [exI, List.mem_cons, List.not_mem_nil, or_false] at hi
  subst hi
  exact ⟨by decide, by decide⟩
theorem exC2 {α : Type} {d : Kd α} {W : World} {g : Nat} {t : TypeId} {cs1 cs2 : List Value} {a b : α} (hs1 : cs1.length = d.sz) (hs2 : cs2.length = d.sz) (hb : W.heap[g]? = some (.cells (cs1 ++ cs2).toArray t (0, 0))) (h1 : d.K W a cs1) (h2 : d.K W b cs2) : Kd.C d W (some ⟨g, 0, none⟩) 2 [a, b] := by
 refine ⟨rfl, by decide, fun _ => ⟨_, rfl, fun j p hj => ?_⟩⟩
 match j, hj with
 | 0, hj =>
  cases hj
  refine ⟨cs1, hs1, h1, fun i u hu => ?_⟩
  rw [add_plain, zab hb]
  have hi := (List.getElem?_eq_some_iff.1 hu).1
  rw [List.getElem?_toArray, List.getElem?_append_left (by omega)]
  simpa using hu
 | 1, hj =>
  cases hj
  refine ⟨cs2, hs2, h2, fun i u hu => ?_⟩
  rw [add_plain, zab hb, List.getElem?_toArray, List.getElem?_append_right (by omega), Nat.one_mul, hs1]
  simpa using hu
 | j + 2, hj => simp at hj
theorem exC1 {α : Type} {d : Kd α} {W : World} {g : Nat} {t : TypeId} {cs1 : List Value} {a : α} (hs1 : cs1.length = d.sz) (hb : W.heap[g]? = some (.cells cs1.toArray t (0, 0))) (h1 : d.K W a cs1) : Kd.C d W (some ⟨g, 0, none⟩) 1 [a] := by
 refine ⟨rfl, by decide, fun _ => ⟨_, rfl, fun j p hj => ?_⟩⟩
 match j, hj with
 | 0, hj =>
  cases hj
  refine ⟨cs1, hs1, h1, fun i u hu => ?_⟩
  rw [add_plain, zab hb, List.getElem?_toArray]
  simpa using hu
 | j + 1, hj => simp at hj
theorem exC3 {α : Type} {d : Kd α} {W : World} {g : Nat} {t : TypeId} {cs1 cs2 cs3 : List Value} {a b c : α} (hs1 : cs1.length = d.sz) (hs2 : cs2.length = d.sz) (hs3 : cs3.length = d.sz) (hb : W.heap[g]? = some (.cells (cs1 ++ (cs2 ++ cs3)).toArray t (0, 0))) (h1 : d.K W a cs1) (h2 : d.K W b cs2) (h3 : d.K W c cs3) : Kd.C d W (some ⟨g, 0, none⟩) 3 [a, b, c] := by
 refine ⟨rfl, by decide, fun _ => ⟨_, rfl, fun j p hj => ?_⟩⟩
 match j, hj with
 | 0, hj =>
  cases hj
  refine ⟨cs1, hs1, h1, fun i u hu => ?_⟩
  have hi := (List.getElem?_eq_some_iff.1 hu).1
  rw [add_plain, zab hb, List.getElem?_toArray, List.getElem?_append_left (by omega)]
  simpa using hu
 | 1, hj =>
  cases hj
  refine ⟨cs2, hs2, h2, fun i u hu => ?_⟩
  have hi := (List.getElem?_eq_some_iff.1 hu).1
  rw [add_plain, zab hb, List.getElem?_toArray, List.getElem?_append_right (by omega), List.getElem?_append_left (by omega), Nat.one_mul, hs1]
  simpa using hu
 | 2, hj =>
  cases hj
  refine ⟨cs3, hs3, h3, fun i u hu => ?_⟩
  rw [add_plain, zab hb, List.getElem?_toArray, List.getElem?_append_right (by omega), List.getElem?_append_right (by omega)]
  have e : 2 * d.sz + i - cs1.length - cs2.length = i := by omega
  rw [e]
  exact hu
 | j + 3, hj => simp at hj
theorem C_nine {W : World} {g : Nat} (h : W.heap[g]? = some (.cells #[.int .i64 (-1), .int .i64 0, .int .i64 2, .int .i64 0, .int .i64 0, .int .i64 2, .int .i64 1, .int .i64 0, .int .i64 2] 50 (0, 0))) : Kd.C kLr W (some ⟨g, 0, none⟩) 3 exS0 := by
 have hK : ∀ a b c : Int, kLr.K W ((a, b, c) : Lr) [.int .i64 a, .int .i64 b, .int .i64 c] := fun a b c => ⟨[.int .i64 a], [.int .i64 b, .int .i64 c], rfl, rfl, ⟨[.int .i64 b], [.int .i64 c], rfl, rfl, rfl⟩⟩
 exact exC3 (d := kLr) (cs1 := [.int .i64 (-1), .int .i64 0, .int .i64 2]) (cs2 := [.int .i64 0, .int .i64 0, .int .i64 2]) (cs3 := [.int .i64 1, .int .i64 0, .int .i64 2]) rfl rfl rfl h (hK _ _ _) (hK _ _ _) (hK _ _ _)
def smS (x : Lr) : PSame.S50 := ⟨x.1, x.2.1, x.2.2⟩
theorem ex_same : PSame.zaq.f 10 (exS0.map smS) (exS0.map smS) = some true := by decide +kernel
theorem same_calls (A : Option Addr) (c : Nat) (B : Option Addr) (d : Nat) (w : World) (hA : Kd.C kLr w A exS0.length exS0) (hc : exS0.length ≤ c) (hB : Kd.C kLr w B 3 exS0) (hd : 3 ≤ d := by decide) :
  Calls Tryz.prog 19 #[.slice A exS0.length c, .slice B 3 d] w fun e w' => e = .returned (.bool true) ∧ Below w.heap.size w w' := by
 have h1 := C_of (e := PSame.k50) (f := smS) rfl (fun _ _ _ h => h) hA
 have h2 := C_of (e := PSame.k50) (f := smS) rfl (fun _ _ _ h => h) hB
 refine (PSame.zaq.calls 10 A c (exS0.map smS) B d (exS0.map smS) true w h1 hc h2 hd ex_same).mono ?_
 rintro e w' ⟨rfl, ⟨nd, rfl⟩⟩
 exact ⟨rfl, zav (Below.refl _ _) nd⟩
theorem awake_calls (w : World) : Calls Tryz.prog 7 #[] w fun e w' => e = .returned (.bool true) ∧ Below w.heap.size w w' := by
 obtain ⟨W1, hW1⟩ : ∃ X, w.alloc (.cells #[.string ⟨#[120]⟩, .string ⟨#[121]⟩] 9) = X := ⟨_, rfl⟩
 obtain ⟨g1, hg1⟩ : ∃ b, W1.heap.size = b := ⟨_, rfl⟩
 obtain ⟨W2, hW2⟩ : ∃ X, W1.alloc (.cells #[.string ⟨#[97]⟩] 9) = X := ⟨_, rfl⟩
 obtain ⟨g2, hg2⟩ : ∃ b, W2.heap.size = b := ⟨_, rfl⟩
 obtain ⟨W3, hW3⟩ : ∃ X, W2.alloc (.cells #[.int .i64 0, .string ⟨#[]⟩, .string ⟨#[]⟩, .int .i64 2, .string ⟨#[]⟩, .string ⟨#[]⟩] 44) = X := ⟨_, rfl⟩
 obtain ⟨g3, hg3⟩ : ∃ b, W3.heap.size = b := ⟨_, rfl⟩
 obtain ⟨W4, hW4⟩ : ∃ X, W3.alloc (.cells #[.int .i64 1, .string ⟨#[]⟩, .string ⟨#[]⟩] 44) = X := ⟨_, rfl⟩
 obtain ⟨g4, hg4⟩ : ∃ b, W4.heap.size = b := ⟨_, rfl⟩
 obtain ⟨W5, hW5⟩ : ∃ X, W4.alloc (.cells #[.int .i64 2, .slice (some ⟨g2, 0, none⟩) 2 2, .int .i64 0, .int .i64 2, .slice (some ⟨g3, 0, none⟩) 1 1, .int .i64 0] 42) = X := ⟨_, rfl⟩
 obtain ⟨b5, hb5⟩ : ∃ b, W5.heap.size = b := ⟨_, rfl⟩
 obtain ⟨W6, hW6⟩ : ∃ X, W5.alloc (.cells #[.slice (some ⟨w.heap.size, 0, none⟩) 2 2, .slice (some ⟨g1, 0, none⟩) 1 1, .slice (some ⟨g4, 0, none⟩) 2 2] 25) = X := ⟨_, rfl⟩
 have k1 : W1.heap[w.heap.size]? = some (.cells #[.string ⟨#[120]⟩, .string ⟨#[121]⟩] 9 (0, 0)) := by rw [← hW1]; exact za9 _ _
 have k2 : W2.heap[g1]? = some (.cells #[.string ⟨#[97]⟩] 9 (0, 0)) := by rw [← hW2, ← hg1]; exact za9 _ _
 have k3 : W3.heap[g2]? = some (.cells #[.int .i64 0, .string ⟨#[]⟩, .string ⟨#[]⟩, .int .i64 2, .string ⟨#[]⟩, .string ⟨#[]⟩] 44 (0, 0)) := by rw [← hW3, ← hg2]; exact za9 _ _
 have k4 : W4.heap[g3]? = some (.cells #[.int .i64 1, .string ⟨#[]⟩, .string ⟨#[]⟩] 44 (0, 0)) := by rw [← hW4, ← hg3]; exact za9 _ _
 have k5 : W5.heap[g4]? = some (.cells #[.int .i64 2, .slice (some ⟨g2, 0, none⟩) 2 2, .int .i64 0, .int .i64 2, .slice (some ⟨g3, 0, none⟩) 1 1, .int .i64 0] 42 (0, 0)) := by rw [← hW5, ← hg4]; exact za9 _ _
 have k6 : W6.heap[b5]? = some (.cells #[.slice (some ⟨w.heap.size, 0, none⟩) 2 2, .slice (some ⟨g1, 0, none⟩) 1 1, .slice (some ⟨g4, 0, none⟩) 2 2] 25 (0, 0)) := by rw [← hW6, ← hb5]; exact za9 _ _
 have e1 : Below w.heap.size w W1 := by rw [← hW1]; exact (Below.refl _ _).alloc (Nat.le_refl _) _
 have e2 : Below W1.heap.size W1 W2 := by rw [← hW2]; exact (Below.refl _ _).alloc (Nat.le_refl _) _
 have e3 : Below W2.heap.size W2 W3 := by rw [← hW3]; exact (Below.refl _ _).alloc (Nat.le_refl _) _
 have e4 : Below W3.heap.size W3 W4 := by rw [← hW4]; exact (Below.refl _ _).alloc (Nat.le_refl _) _
 have e5 : Below W4.heap.size W4 W5 := by rw [← hW5]; exact (Below.refl _ _).alloc (Nat.le_refl _) _
 have e6 : Below W5.heap.size W5 W6 := by rw [← hW6]; exact (Below.refl _ _).alloc (Nat.le_refl _) _
 have kI : ∀ n : Int, ∀ W, Fl.kI.K W (exI n) [.int .i64 n, .string ⟨#[]⟩, .string ⟨#[]⟩] := fun n W => ⟨[.int .i64 n], [.string ⟨#[]⟩, .string ⟨#[]⟩], rfl, rfl, ⟨[.string ⟨#[]⟩], [.string ⟨#[]⟩], rfl, rfl, rfl⟩⟩
 have hK : (⟨some ⟨w.heap.size, 0, none⟩, some ⟨g1, 0, none⟩, some ⟨g4, 0, none⟩, 2, 1, 2, ex0, ex1, exP⟩ : FG).K W6 := by
  refine ⟨exC2 (cs1 := [.string ⟨#[120]⟩]) (cs2 := [.string ⟨#[121]⟩]) rfl rfl (zat (zat (zat (zat (zat k1 e2) e3) e4) e5) e6) rfl rfl, Nat.le_refl _, exC1 (cs1 := [.string ⟨#[97]⟩]) rfl (zat (zat (zat (zat k2 e3) e4) e5) e6) rfl, Nat.le_refl _, ?_, Nat.le_refl _⟩
  refine exC2 (d := kP) (cs1 := [.int .i64 2, .slice (some ⟨g2, 0, none⟩) 2 2, .int .i64 0]) (cs2 := [.int .i64 2, .slice (some ⟨g3, 0, none⟩) 1 1, .int .i64 0]) rfl rfl (zat k5 e6) ?_ ?_
  ·exact ⟨[.int .i64 2], [.slice (some ⟨g2, 0, none⟩) 2 2, .int .i64 0], rfl, rfl, ⟨[.slice (some ⟨g2, 0, none⟩) 2 2], [.int .i64 0], rfl, ⟨_, 2, rfl, Nat.le_refl _, exC2 (d := Fl.kI) (cs1 := [.int .i64 0, .string ⟨#[]⟩, .string ⟨#[]⟩]) (cs2 := [.int .i64 2, .string ⟨#[]⟩, .string ⟨#[]⟩]) rfl rfl (zat (zat (zat k3 e4) e5) e6) (kI 0 _) (kI 2 _)⟩, rfl⟩⟩
  ·exact ⟨[.int .i64 2], [.slice (some ⟨g3, 0, none⟩) 1 1, .int .i64 0], rfl, rfl, ⟨[.slice (some ⟨g3, 0, none⟩) 1 1], [.int .i64 0], rfl, ⟨_, 1, rfl, Nat.le_refl _, exC1 (d := Fl.kI) (cs1 := [.int .i64 1, .string ⟨#[]⟩, .string ⟨#[]⟩]) rfl (zat (zat k4 e5) e6) (kI 1 _)⟩, rfl⟩⟩
 have hr : Rdy (⟨some ⟨w.heap.size, 0, none⟩, some ⟨g1, 0, none⟩, some ⟨g4, 0, none⟩, 2, 1, 2, ex0, ex1, exP⟩ : FG) 20 exE exF := ⟨by show (2 : Nat) + 1 ≤ 999999; decide, by show (1 : Nat) ≤ ex1.length; decide, by show exP.length ≤ 1000000; decide, ex_ps, ex_e, ex_f⟩
 have hs0 : zez 2 exP exE exF 20 = some exS0 := by unfold zez; rw [show ((2 : Nat) : Int) = 2 from rfl, ex_c, Option.map_some, ex_s]
 have hall := allF_calls _ W6 hK 20 exE exF hr 3 rfl exS0 hs0 (by decide) (some exA) ex_a
 have hfirst := fun W (hb : Below W6.heap.size W6 W) => zhu _ W (hK.below hb) 20 exE exF hr exC ex_c
 have hgt := fun A c W (hb : Below W6.heap.size W6 W) (hC : Kd.C kLr W A exS0.length exS0) => zil _ W (hK.below hb) 20 exE exF hr exS0 A c 2 hC (by decide) exR ex_r
 have h6w : Below w.heap.size w W6 := by
  have h2 := e1.trans (e2.mono e1.size)
  have h3 := h2.trans (e3.mono h2.size)
  have h4 := h3.trans (e4.mono h3.size)
  have h5 := h4.trans (e5.mono h4.size)
  exact h5.trans (e6.mono h5.size)
 rw [ex_s] at hfirst
 have c0 : W6.cell? ⟨b5, 0, none⟩ = some (.slice (some ⟨w.heap.size, 0, none⟩) 2 2) := zab k6 0
 have c1 : W6.cell? ⟨b5, 1, none⟩ = some (.slice (some ⟨g1, 0, none⟩) 1 1) := zab k6 1
 have c2 : W6.cell? ⟨b5, 2, none⟩ = some (.slice (some ⟨g4, 0, none⟩) 2 2) := zab k6 2
 have K6 := Lib.hid k6
 simp only [FG.val, FG.row, show ex0.length = 2 from rfl, show ex1.length = 1 from rfl, show exP.length = 2 from rfl] at hall hfirst hgt
 clear hK hr hs0 k1 k2 k3 k4 k5 k6 e1 e2 e3 e4 e5 e6 kI
 go_enter Tryz.func7, Tryz.ntmps7
 go_wp2_with (go_at_call 8; refine hall.mono ?_; rintro e W7 ⟨v7, n7, rfl, rfl, hR7, hB7⟩; obtain ⟨A7, c7, rfl⟩ := Kd.zbj hR7; obtain ⟨_, _, hC7⟩ := Kd.R_reads' hR7; rw [show (some exA).getD [] = exA from rfl, exA_len] at hC7; rw [show (some exA).getD [] = exA from rfl, exA_len]; rw [show errV (some exA) = 0 from rfl])
 rename_i K3 hK3
 obtain ⟨ad7', a0, A70, c70, rfl, ha0, hl70, f70, hC70⟩ := atLs hC7 0 (by decide)
 rw [exA_0] at ha0
 obtain rfl := Option.some.inj ha0
 obtain ⟨ad7, h7⟩ : ∃ a, ad7' = a := ⟨_, rfl⟩
 subst h7
 have f7 : W7.cell? ad7' = some (.slice A70 exS0.length c70) := by simpa [Addr.add] using f70
 obtain ⟨Wd, hWd⟩ : ∃ X, W7.drew = X := ⟨_, rfl⟩
 have hb7d : Below W7.heap.size W7 Wd := by rw [← hWd]; exact za4 (Below.refl _ _)
 have hbd : Below W6.heap.size W6 Wd := hB7.trans (hb7d.mono hB7.size)
 have hHeld : (fun X => X.cell? ⟨b5, 0, none⟩ = some (.slice (some ⟨w.heap.size, 0, none⟩) 2 2) ∧ X.cell? ⟨b5, 1, none⟩ = some (.slice (some ⟨g1, 0, none⟩) 1 1) ∧ X.cell? ⟨b5, 2, none⟩ = some (.slice (some ⟨g4, 0, none⟩) 2 2) ∧ X.cell? ad7' = some (.slice A70 exS0.length c70)) Wd := ⟨zad hbd c0, zad hbd c1, zad hbd c2, zad hb7d f7⟩
 have hb0 : Below Wd.heap.size Wd Wd := Below.refl _ _
 have hHeldX : (fun X => X.cell? ⟨b5, 0, none⟩ = some (.slice (some ⟨w.heap.size, 0, none⟩) 2 2) ∧ X.cell? ⟨b5, 1, none⟩ = some (.slice (some ⟨g1, 0, none⟩) 1 1) ∧ X.cell? ⟨b5, 2, none⟩ = some (.slice (some ⟨g4, 0, none⟩) 2 2) ∧ X.cell? ad7' = some (.slice A70 exS0.length c70)) W7.drew := by rw [hWd]; exact hHeld
 have keep3 : ∀ X Y : World, Below X.heap.size X Y → (fun X => X.cell? ⟨b5, 0, none⟩ = some (.slice (some ⟨w.heap.size, 0, none⟩) 2 2) ∧ X.cell? ⟨b5, 1, none⟩ = some (.slice (some ⟨g1, 0, none⟩) 1 1) ∧ X.cell? ⟨b5, 2, none⟩ = some (.slice (some ⟨g4, 0, none⟩) 2 2) ∧ X.cell? ad7' = some (.slice A70 exS0.length c70)) X → (fun X => X.cell? ⟨b5, 0, none⟩ = some (.slice (some ⟨w.heap.size, 0, none⟩) 2 2) ∧ X.cell? ⟨b5, 1, none⟩ = some (.slice (some ⟨g1, 0, none⟩) 1 1) ∧ X.cell? ⟨b5, 2, none⟩ = some (.slice (some ⟨g4, 0, none⟩) 2 2) ∧ X.cell? ad7' = some (.slice A70 exS0.length c70)) Y := fun X Y h hh => ⟨zad h hh.1, zad h hh.2.1, zad h hh.2.2.1, zad h hh.2.2.2⟩
 have hfirst := fun W (hb : Below Wd.heap.size Wd W) => hfirst W (hbd.trans (hb.mono hbd.size))
 have hgoto := fun W (hb : Below Wd.heap.size Wd W) => hgt A70 c70 W (hbd.trans (hb.mono hbd.size)) (Kd.zak (Kd.zak hC70 hb7d) hb)
 refine Ahd.zcy (zbl (S := (fun X => X.cell? ⟨b5, 0, none⟩ = some (.slice (some ⟨w.heap.size, 0, none⟩) 2 2) ∧ X.cell? ⟨b5, 1, none⟩ = some (.slice (some ⟨g1, 0, none⟩) 1 1) ∧ X.cell? ⟨b5, 2, none⟩ = some (.slice (some ⟨g4, 0, none⟩) 2 2) ∧ X.cell? ad7' = some (.slice A70 exS0.length c70))) (ds := []) (Ymk 26 0) (by kernel_rfl) rfl rfl hHeldX (fun h0_ => ?_))
 clear h0_
 rw [hWd]
 refine Ytk 0 20 26 1 hHeld ?_
 refine Ypk 2 22 26 5 ?_
 refine Ypk 3 23 26 13 ?_
 refine Ypk 4 24 26 29 ?_
 refine join_ (σ := Option Addr × Nat × Nat) 20 #[true, true, true, true, true, true, false, false, false, false, false, false, false, false, false, false, false, false, false, false, false, false, false, false, false, false] (fun s => [(21, .slice s.1 exS0.length s.2.1), (25, .slice (some ⟨s.2.2, 0, none⟩) 3 3)]) (fun s w' => Below Wd.heap.size Wd w' ∧ Kd.C kLr w' s.1 exS0.length exS0 ∧ exS0.length ≤ s.2.1 ∧ w'.heap[s.2.2]? = some (.cells #[.int .i64 (-1), .int .i64 0, .int .i64 2, .int .i64 0, .int .i64 0, .int .i64 2, .int .i64 1, .int .i64 0, .int .i64 2] 50 (0, 0)) ∧ (fun X => X.cell? ⟨b5, 0, none⟩ = some (.slice (some ⟨w.heap.size, 0, none⟩) 2 2) ∧ X.cell? ⟨b5, 1, none⟩ = some (.slice (some ⟨g1, 0, none⟩) 1 1) ∧ X.cell? ⟨b5, 2, none⟩ = some (.slice (some ⟨g4, 0, none⟩) 2 2) ∧ X.cell? ad7' = some (.slice A70 exS0.length c70)) w') ?_ ?_
 rotate_left
 ·intro hCont
  refine two_ (i := 1) (j := 5) (Ni := (some 21)) (Nj := (some 25)) #[true, true, true, true, true, false, false, false, false, false, false, false, false, false, false, false, false, false, false, false, false, false, false, false, false, false] #[true, false, true, true, true, true, false, false, false, false, false, false, false, false, false, false, false, false, false, false, false, false, false, false, false, false] rfl rfl rfl rfl (by kernel_rfl) (by decide) (by decide) (fun K hK => ?_) (fun K hK => ?_)
  ·skip
   refine Ygh Tryz.func13 #[.agg #[.slice (some ⟨w.heap.size, 0, none⟩) 2 2, .slice (some ⟨g1, 0, none⟩) 1 1, .slice (some ⟨g4, 0, none⟩) 2 2]] ?_
   refine (hfirst Wd hb0).mono ?_
   rintro e W8 ⟨v8, rfl, hR8, hB8⟩
   obtain ⟨A8, c8, rfl, hl8, hC8⟩ := Kd.zds hR8
   refine ⟨_, rfl, ?_⟩
   have hb8 := hb0.trans (hB8.mono hb0.size)
   have hh8 := keep3 _ _ hB8 hHeld
   refine hK.out _ _ hh8 (fun h0_ => ?_)
   clear hK K h0_
   refine Ynm 21 ?_
   refine Yok 5 25 26 63 (fun K hK => ?_)
   refine zcm (w1 := W8.alloc (.cells #[.int .i64 (-1), .int .i64 0, .int .i64 2, .int .i64 0, .int .i64 0, .int .i64 2, .int .i64 1, .int .i64 0, .int .i64 2] 50)) (v := .slice (some ⟨W8.heap.size, 0, none⟩) 3 3) (by rfl) rfl ?_ ?_
   ·go_simp
   obtain ⟨W9, hW9⟩ : ∃ X, W8.alloc (.cells #[.int .i64 (-1), .int .i64 0, .int .i64 2, .int .i64 0, .int .i64 0, .int .i64 2, .int .i64 1, .int .i64 0, .int .i64 2] 50) = X := ⟨_, rfl⟩
   have bb9 : W9.heap[W8.heap.size]? = some (.cells #[.int .i64 (-1), .int .i64 0, .int .i64 2, .int .i64 0, .int .i64 0, .int .i64 2, .int .i64 1, .int .i64 0, .int .i64 2] 50 (0, 0)) := by rw [← hW9]; exact za9 _ _
   have hB9 : Below W8.heap.size W8 W9 := by rw [← hW9]; exact (Below.refl _ _).alloc (Nat.le_refl _) _
   rw [hW9]
   clear hW9
   have hb9 := hb8.trans (hB9.mono hb8.size)
   have hh9 := keep3 _ _ hB9 hh8
   refine hK.out _ _ hh9 (fun h0_ => ?_)
   clear hK K h0_
   refine Ynm 25 ?_
   exact zep (by first | (simp only [zc1, Act.put, Y1, Y2, Y3]; done) | (simp only [zc1, Act.put, Y1, Y2, Y3]; rfl)) (hCont (A8, c8, W8.heap.size) _ ⟨hb9, Kd.zak hC8 hB9, hl8, bb9, hh9⟩)
  ·skip
   refine zcm (w1 := Wd.alloc (.cells #[.int .i64 (-1), .int .i64 0, .int .i64 2, .int .i64 0, .int .i64 0, .int .i64 2, .int .i64 1, .int .i64 0, .int .i64 2] 50)) (v := .slice (some ⟨Wd.heap.size, 0, none⟩) 3 3) (by rfl) rfl ?_ ?_
   ·go_simp
   obtain ⟨W9, hW9⟩ : ∃ X, Wd.alloc (.cells #[.int .i64 (-1), .int .i64 0, .int .i64 2, .int .i64 0, .int .i64 0, .int .i64 2, .int .i64 1, .int .i64 0, .int .i64 2] 50) = X := ⟨_, rfl⟩
   have bb9 : W9.heap[Wd.heap.size]? = some (.cells #[.int .i64 (-1), .int .i64 0, .int .i64 2, .int .i64 0, .int .i64 0, .int .i64 2, .int .i64 1, .int .i64 0, .int .i64 2] 50 (0, 0)) := by rw [← hW9]; exact za9 _ _
   have hB9 : Below Wd.heap.size Wd W9 := by rw [← hW9]; exact (Below.refl _ _).alloc (Nat.le_refl _) _
   rw [hW9]
   clear hW9
   have hb9 := hb0.trans (hB9.mono hb0.size)
   have hh9 := keep3 _ _ hB9 hHeld
   refine hK.out _ _ hh9 (fun h0_ => ?_)
   clear hK K h0_
   refine Ynm 25 ?_
   refine Yok 1 21 26 63 (fun K hK => ?_)
   refine Ygh Tryz.func13 #[.agg #[.slice (some ⟨w.heap.size, 0, none⟩) 2 2, .slice (some ⟨g1, 0, none⟩) 1 1, .slice (some ⟨g4, 0, none⟩) 2 2]] ?_
   refine (hfirst W9 hb9).mono ?_
   rintro e W8 ⟨v8, rfl, hR8, hB8⟩
   obtain ⟨A8, c8, rfl, hl8, hC8⟩ := Kd.zds hR8
   refine ⟨_, rfl, ?_⟩
   have hb8 := hb9.trans (hB8.mono hb9.size)
   have hh8 := keep3 _ _ hB8 hh9
   refine hK.out _ _ hh8 (fun h0_ => ?_)
   clear hK K h0_
   refine Ynm 21 ?_
   exact zep (by first | (simp only [zc1, Act.put, Y1, Y2, Y3]; done) | (simp only [zc1, Act.put, Y1, Y2, Y3]; rfl)) (hCont (A8, c8, Wd.heap.size) _ ⟨hb8, hC8, hl8, zat bb9 hB8, hh8⟩)
 rintro ⟨A8, c8, g9⟩ W10 ⟨hb10, hC8, hl8, hg9, hh10⟩
 refine zep (a' := ?_) ?_ ?_
 rotate_left
 ·simp only [zc1, Act.put, Y1, Y2, Y3]
  rfl
 refine Yok 6 26 26 127 (fun K hK => ?_)
 refine Ygh Tryz.func19 #[.slice A8 exS0.length c8, .slice (some ⟨g9, 0, none⟩) 3 3] ?_
 refine (same_calls A8 c8 (some ⟨g9, 0, none⟩) 3 W10 hC8 hl8 (C_nine hg9)).mono ?_
 rintro e W11 ⟨rfl, hB11⟩
 refine ⟨_, rfl, ?_⟩
 have hb11 := hb10.trans (hB11.mono hb10.size)
 have hh11 := keep3 _ _ hB11 hh10
 refine hK.out _ _ hh11 (fun h0_ => ?_)
 clear hK K h0_
 refine Ypk 7 27 26 255 ?_
 refine Ypk 8 28 26 511 ?_
 refine Ypk 9 29 26 1023 ?_
 refine Ypk 10 30 26 2047 ?_
 refine Ypk 11 31 26 4095 ?_
 refine Ypk 12 32 26 8191 ?_
 refine Ypk 13 33 26 16383 ?_
 refine Ypk 14 34 26 32767 ?_
 refine Ypk 15 35 26 65535 ?_
 refine Ypk 16 36 26 131071 ?_
 refine Ytk 17 37 26 262143 hh11 ?_
 refine Ypk 18 38 26 524287 ?_
 refine Ypk 19 39 26 1048575 ?_
 refine Ytk 20 40 26 2097151 hh11 ?_
 refine Yok 21 41 26 4194303 (fun K hK => ?_)
 refine Ygh Tryz.func14 #[.agg #[.slice (some ⟨w.heap.size, 0, none⟩) 2 2, .slice (some ⟨g1, 0, none⟩) 1 1, .slice (some ⟨g4, 0, none⟩) 2 2], .slice A70 exS0.length c70, .int .i64 2] ?_
 refine (hgoto W11 hb11).mono ?_
 rintro e W12 ⟨v12, rfl, hR12, hB12⟩
 obtain ⟨A12, c12, rfl⟩ := Kd.zbj hR12
 rw [exG_len]
 refine ⟨_, rfl, ?_⟩
 have hb12 := hb11.trans (hB12.mono hb11.size)
 have hh12 := keep3 _ _ hB12 hh11
 refine hK.out _ _ hh12 (fun h0_ => ?_)
 clear hK K h0_
 refine Ypk 22 42 26 8388607 ?_
 refine Ypk 23 43 26 16777215 ?_
 refine Ypk 24 44 26 33554431 ?_
 refine Ypk 25 0 26 67108863 ?_
 refine zbq (by kernel_rfl) ?_
 refine hK3 _ _ ?_
 go_wp2;go_ret
 have h6d := h6w.trans (hbd.mono h6w.size)
 exact ⟨rfl, h6d.trans (hb12.mono h6d.size)⟩
end Go.Proofs.ZZ.LAwake
end
