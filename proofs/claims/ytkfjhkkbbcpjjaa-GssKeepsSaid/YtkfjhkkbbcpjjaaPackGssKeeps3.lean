import Derived.Test.YtkfjhkkbbcpjjaaProg
import Derived.Below
import Derived.Deep.Draws
import Derived.Deep.AppendLies
import Derived.Maps.AppendAt
import Derived.OwnWalk
import Derived.Laws.BytesArg
import Derived.Laws.MakeOwn
import Derived.Laws.OwnMore
import Derived.Deep.OwnRows
import Derived.Tactics
import Derived.Lib.ConvBytes
import Derived.Laws.Slices
import Derived.WalkKit
import Derived.KernelRfl
import Derived.RowKit3
import Derived.Deep.LoopGhost
import Derived.Deep.QuietTactic
import Derived.BigQuiet
import Derived.WideLaws
import Derived.Deep.DeepCutAuto
import Derived.Deep.CutBlock
import Derived.Deep.RegionHeld3
import Derived.Laws.Rows
import Derived.Lib.AppendStr
import Derived.ArgAppend
import Derived.Laws.IdiomCopy
import Derived.OrdersHeld
import Derived.Laws.BitsLemmas
import Derived.RowKit
import Derived.Lib.Strings
import Derived.Lib.Bytealg
import Derived.Lib.Slices
import Derived.Lib.Walk
import Derived.ChangeArms
import Derived.DataReads
import Derived.DataElems
import Derived.SizedLaws
import Derived.Carry
import Derived.WideShapes
import Derived.Test.YtkfjhkkbbcpjjaaRows
import Derived.ProofKit
import Derived.OpenShut
import Derived.ShutString
import Derived.ChangeOld
import Derived.Test.YtkfjhkkbbcpjjaaPackGssKeeps2
set_option linter.unusedVariables false
set_option linter.unusedSimpArgs false
set_option maxRecDepth 100000
set_option maxHeartbeats 8000000
section
namespace Go.Proofs.ZZ.GAwake
open Go Go.RowKit Go.Shelf Go.Maps Go.Proofs.ZW.PrintWords Go.Proofs.ZW.PrintLast Go.Proofs.ZZ.RangeG Go.Proofs.ZZ.GMap Go.Proofs.ZZ.GK Go.Proofs.ZZ.G16 Go.Proofs.ZZ.GGr Go.Proofs.ZZ.GAdd Go.Proofs.ZZ.GTop Go.Proofs.ZZ.GStk Go.Proofs.ZZ.GPush Go.Proofs.ZZ.GBack Go.Proofs.ZZ.GCount Go.Proofs.ZZ.GSeq Go.Proofs.ZZ.GRow Go.Proofs.ZZ.GPaths
theorem zea {g : List Nd} (h1 : g.length ≤ 4096) (h2 : (marks g).Pairwise mlt) (h3 : ∀ x ∈ g, NdOk g.length x) (h4 : ∀ x ∈ g, ∀ k ∈ x.2.2, (g.getD k.toNat (0, 0, [])).2.1 ≤ x.2.1) : FitG g := by
 refine ⟨h1, h2, h3, ?_⟩
 rintro m m' ⟨x, hx, rfl, k, hk, k0, hk'⟩
 have := h4 x hx k hk
 obtain ⟨y, hy, rfl⟩ : ∃ y, g[k.toNat]? = some y ∧ mrk y = m' := by
  unfold marks at hk'
  rw [List.getElem?_map] at hk'
  obtain ⟨y, hy, he⟩ := Option.map_eq_some_iff.1 hk'
  exact ⟨y, hy, he⟩
 rw [List.getD_eq_getElem?_getD, hy] at this
 exact this
def X0 : List Nd := [(0, 0, [])]
def X1 : List Nd := [(0, 0, []), (1, 1, [0])]
def X2 : List Nd := [(0, 0, []), (1, 1, [0]), (2, 1, [0])]
def X3 : List Nd := [(0, 0, []), (1, 1, [0]), (2, 1, [0]), (3, 2, [1])]
def X4 : List Nd := [(0, 0, []), (1, 1, [0]), (2, 1, [0]), (3, 2, [1, 2])]
theorem nd_ok {n : Nat} {x : Nd} (h : 0 ≤ x.1 ∧ x.1 ≤ 65535 ∧ 0 ≤ x.2.1 ∧ x.2.1 ≤ 65535 ∧ x.2.2.Pairwise (· < ·) ∧ ∀ k ∈ x.2.2, 0 ≤ k ∧ k < (n : Int)) : NdOk n x := ⟨h.1, h.2.1, h.2.2.1, h.2.2.2.1, h.2.2.2.2.1, h.2.2.2.2.2⟩
theorem fit0 : FitG X0 := zea (by decide) (by unfold X0 marks; simp) (fun x hx => nd_ok (by unfold X0 at *; simp at hx; subst hx; simp)) (fun x hx k hk => by unfold X0 at *; simp at hx; subst hx; simp at hk)
theorem fit1 : FitG X1 := zea (by decide) (by unfold X1 marks mlt mrk; simp) (fun x hx => nd_ok (by unfold X1 at *; simp at hx; rcases hx with rfl | rfl <;> simp)) (fun x hx k hk => by unfold X1 at *; simp at hx; rcases hx with rfl | rfl <;> simp at hk <;> subst hk <;> simp)
theorem fit2 : FitG X2 := zea (by decide) (by unfold X2 marks mlt mrk; simp) (fun x hx => nd_ok (by unfold X2 at *; simp at hx; rcases hx with rfl | rfl | rfl <;> simp)) (fun x hx k hk => by unfold X2 at *; simp at hx; rcases hx with rfl | rfl | rfl <;> simp at hk <;> subst hk <;> simp)
theorem fit3 : FitG X3 := zea (by decide) (by unfold X3 marks mlt mrk; simp) (fun x hx => nd_ok (by unfold X3 at *; simp at hx; rcases hx with rfl | rfl | rfl | rfl <;> simp)) (fun x hx k hk => by unfold X3 at *; simp at hx; rcases hx with rfl | rfl | rfl | rfl <;> simp at hk <;> subst hk <;> simp)
theorem fit4 : FitG X4 := zea (by decide) (by unfold X4 marks mlt mrk; simp) (fun x hx => nd_ok (by unfold X4 at *; simp at hx; rcases hx with rfl | rfl | rfl | rfl <;> simp)) (fun x hx k hk => by unfold X4 at *; simp at hx; rcases hx with rfl | rfl | rfl | rfl <;> simp at hk <;> (try rcases hk with rfl | rfl) <;> (try subst hk) <;> simp)
theorem back1 : zb4 X4 3 1 = [1, 2] := by
 have h := zdl fit4 (node := 3) (by decide) (by decide) 1
 have e : zb3 X4 3 1 = [1, 2] := zdd (lt := (· < ·)) (fun a => by omega) (fun h1 h2 => Int.lt_trans h1 h2) h.1 (by simp) (fun z => by rw [zcp]; simp [Bk, lnk, X4]; try omega)
 exact e
theorem back2 : zb4 X4 3 2 = [0] := by
 have h := zdl fit4 (node := 3) (by decide) (by decide) 2
 have e : zb3 X4 3 2 = [0] := zdd (lt := (· < ·)) (fun a => by omega) (fun h1 h2 => Int.lt_trans h1 h2) h.1 (by simp) (fun z => by rw [zcp]; simp [Bk, lnk, X4]; try omega)
 exact e
theorem g1 : za6 X0 0 1 1 = (X1, 1, true) := by rfl
theorem g2 : za6 X1 0 2 1 = (X2, 2, true) := by rfl
theorem g3 : za6 X2 1 3 2 = (X3, 3, true) := by rfl
theorem g4 : za6 X3 2 3 2 = (X4, 3, true) := by rfl
theorem p4 : zb9 X4 3 2 = [[3, 1, 0], [3, 2, 0]] := by rfl
theorem f4 : PFit.zal.f 30 [⟨0, 0, []⟩, ⟨1, 1, [0]⟩, ⟨2, 1, [0]⟩, ⟨3, 2, [1, 2]⟩] = some true := by kernel_rfl
theorem i1 : PInts.zbp.f 9 [1, 2] [1, 2] = some true := by kernel_rfl
theorem i2 : PInts.zbp.f 9 [0] [0] = some true := by kernel_rfl
theorem n0 : PNew.zfo.f 0 = some [⟨0, 0, []⟩] := by rfl
theorem C_iso {α β : Type} {d : Kd α} {f : β → α} {w : World} {A : Option Addr} {n : Nat} {xs : List β} (h : Kd.C (Kd.iso d f) w A n xs) : Kd.C d w A n (xs.map f) := by
 obtain ⟨h1, h2, h3⟩ := h
 refine ⟨by simpa using h1, h2, fun h0 => ?_⟩
 obtain ⟨ad, e, hc⟩ := h3 h0
 refine ⟨ad, e, fun j p hj => ?_⟩
 rw [List.getElem?_map] at hj
 cases hx : xs[j]? with
 | none => rw [hx] at hj; cases hj
 | some x =>
  rw [hx] at hj
  obtain rfl : f x = p := by simpa using hj
  exact hc j x hx
theorem C_uniso {α β : Type} {d : Kd α} {f : β → α} {w : World} {A : Option Addr} {n : Nat} {xs : List β} (h : Kd.C d w A n (xs.map f)) : Kd.C (Kd.iso d f) w A n xs := by
 obtain ⟨h1, h2, h3⟩ := h
 refine ⟨by simpa using h1, h2, fun h0 => ?_⟩
 obtain ⟨ad, e, hc⟩ := h3 h0
 refine ⟨ad, e, fun j p hj => ?_⟩
 exact hc j (f p) (by rw [List.getElem?_map, hj]; rfl)
theorem new_calls (w : World) : Calls Try.prog 21 #[.int .i64 0] w fun e w' => ∃ A c, e = .returned (.agg #[.slice A 1 c]) ∧ 1 ≤ c ∧ Kd.C kN w' A 1 X0 ∧ Below w.heap.size w w' := by
 refine (PNew.zfo.calls 0 _ w n0).mono ?_
 rintro e w' ⟨v, rfl, hR, hB⟩
 obtain ⟨A, c, rfl, hc, h⟩ := Kd.zcl hR
 exact ⟨A, c, rfl, hc, C_iso h, hB⟩
theorem push1 (A : Option Addr) (c : Nat) (w : World) (hc : 1 ≤ c) (h : Kd.C kN w A 1 X0) : Calls Try.prog 13 #[.agg #[.slice A 1 c], .int .i64 0, .int .i64 1, .int .i64 1] w fun e w' => ∃ A' c', e = .returned (.tuple #[.agg #[.slice A' 2 c'], .int .i64 1, .bool true]) ∧ 2 ≤ c' ∧ Kd.C kN w' A' 2 X1 ∧ Below w.heap.size w w' := by
 have := zd2 A c X0 0 1 1 w h hc fit0 (by decide)
 rwa [g1] at this
theorem push2 (A : Option Addr) (c : Nat) (w : World) (hc : 2 ≤ c) (h : Kd.C kN w A 2 X1) : Calls Try.prog 13 #[.agg #[.slice A 2 c], .int .i64 0, .int .i64 2, .int .i64 1] w fun e w' => ∃ A' c', e = .returned (.tuple #[.agg #[.slice A' 3 c'], .int .i64 2, .bool true]) ∧ 3 ≤ c' ∧ Kd.C kN w' A' 3 X2 ∧ Below w.heap.size w w' := by
 have := zd2 A c X1 0 2 1 w h hc fit1 (by decide)
 rwa [g2] at this
theorem push3 (A : Option Addr) (c : Nat) (w : World) (hc : 3 ≤ c) (h : Kd.C kN w A 3 X2) : Calls Try.prog 13 #[.agg #[.slice A 3 c], .int .i64 1, .int .i64 3, .int .i64 2] w fun e w' => ∃ A' c', e = .returned (.tuple #[.agg #[.slice A' 4 c'], .int .i64 3, .bool true]) ∧ 4 ≤ c' ∧ Kd.C kN w' A' 4 X3 ∧ Below w.heap.size w w' := by
 have := zd2 A c X2 1 3 2 w h hc fit2 (by decide)
 rwa [g3] at this
theorem push4 (A : Option Addr) (c : Nat) (w : World) (hc : 4 ≤ c) (h : Kd.C kN w A 4 X3) : Calls Try.prog 13 #[.agg #[.slice A 4 c], .int .i64 2, .int .i64 3, .int .i64 2] w fun e w' => ∃ A' c', e = .returned (.tuple #[.agg #[.slice A' 4 c'], .int .i64 3, .bool true]) ∧ 4 ≤ c' ∧ Kd.C kN w' A' 4 X4 ∧ Below w.heap.size w w' := by
 have := zd2 A c X3 2 3 2 w h hc fit3 (by decide)
 rwa [g4] at this
theorem paths4 (A : Option Addr) (c : Nat) (w : World) (h : Kd.C kN w A 4 X4) : Calls Try.prog 10 #[.agg #[.slice A 4 c], .int .i64 3, .int .i64 2] w fun e w' => ∃ A' c' ec, e = .returned (.tuple #[.slice A' 2 c', .int .i64 ec]) ∧ ec = 0 ∧ Below w.heap.size w w' := by
 refine (zfu A c X4 3 2 w h fit4).mono ?_
 rintro e w' ⟨v, ys, ec, rfl, ho, _, hB, _, hs⟩
 have hs : ec = 0 ∧ ys.map (·.2) = zb9 X4 3 2 := by
  rcases hs with hs | ⟨_, _, hs⟩
  ·exact hs
  ·exact absurd hs (by decide)
 have hy : ys.length = 2 := by
  have := congrArg List.length hs.2
  rw [p4] at this
  simpa using this
 rw [hy] at ho
 rcases ho.2 with ⟨_, h0⟩ | ⟨g, cap, cur, hv, _⟩
 ·omega
 ·exact ⟨_, _, ec, by rw [hv], hs.1, hB⟩
theorem back4 (A : Option Addr) (c : Nat) (w : World) (n : Int) (l : List Int) (hl : zb4 X4 3 n = l) (h : Kd.C kN w A 4 X4) : Calls Try.prog 11 #[.agg #[.slice A 4 c], .int .i64 3, .int .i64 n] w fun e w' => ∃ A' c', e = .returned (.slice A' l.length c') ∧ l.length ≤ c' ∧ Kd.C (Kd.int .i64) w' A' l.length l ∧ Below w.heap.size w w' := by
 refine (zgd A c X4 3 n w h fit4).mono ?_
 rintro e w' ⟨v, rfl, hR, hB⟩
 rw [hl] at hR
 obtain ⟨A', c', rfl, hc, h⟩ := Kd.zcl hR
 exact ⟨A', c', rfl, hc, h, hB⟩
theorem fit4_calls (A : Option Addr) (c : Nat) (w : World) (hc : 4 ≤ c) (h : Kd.C kN w A 4 X4) : Calls Try.prog 19 #[.agg #[.slice A 4 c]] w fun e w' => e = .returned (.bool true) ∧ Below w.heap.size w w' :=
 PFit.zal.calls 30 A c [⟨0, 0, []⟩, ⟨1, 1, [0]⟩, ⟨2, 1, [0]⟩, ⟨3, 2, [1, 2]⟩] true w (C_uniso h) hc f4
theorem not_box {w : World} {b : Nat} {v : Value} {t : TypeId} {fr : Nat × Nat} (hb : w.heap[b]? = some (.cells #[v] t fr)) (hv : ∀ i, v ≠ .int .i64 i) {a : Addr} {x : Int} (h : w.cell? a = some (.int .i64 x)) : a.block ≠ b := by
 intro e
 unfold World.cell? at h
 rw [e, hb] at h
 simp at h
 obtain ⟨_, h⟩ := h
 cases ho : a.off with
 | zero => rw [ho] at h; simp at h; exact hv _ h
 | succ k => rw [ho] at h; simp at h
theorem add_block (a : Addr) (k : Nat) : (a.add k).block = a.block := by
 unfold Addr.add
 split <;> rfl
theorem rows_box {α : Type} {K : Kd α} {w w' : World} {b : Nat} (hk : ∀ (a : Addr) u, w.cell? a = some u → a.block ≠ b → w'.cell? a = some u) {A : Option Addr} {n : Nat} {xs : List α} (h : Kd.C K w A n xs) (hK : ∀ p cs, K.K w p cs → K.K w' p cs) (hne : ∀ ad, A = some ad → 0 < n → ad.block ≠ b) : Kd.C K w' A n xs := by
 obtain ⟨h1, h2, h3⟩ := h
 refine ⟨h1, h2, fun h0 => ?_⟩
 obtain ⟨ad, e, hc⟩ := h3 h0
 refine ⟨ad, e, fun j p hj => ?_⟩
 obtain ⟨cs, hl, hKp, hcs⟩ := hc j p hj
 exact ⟨cs, hl, hK _ _ hKp, fun i u hi => hk _ _ (hcs i u hi) (by rw [add_block]; exact hne ad e h0)⟩
theorem ints_box {w w' : World} {b : Nat} {v : Value} {t : TypeId} {fr : Nat × Nat} (hb : w.heap[b]? = some (.cells #[v] t fr)) (hv : ∀ i, v ≠ .int .i64 i) (hk : ∀ (a : Addr) u, w.cell? a = some u → a.block ≠ b → w'.cell? a = some u) {A : Option Addr} {l : List Int} (h : Kd.C (Kd.int .i64) w A l.length l) : Kd.C (Kd.int .i64) w' A l.length l :=
 rows_box hk h (fun _ _ h => h) (fun ad e h0 => by
  obtain ⟨ad2, e2, hc⟩ := atI h (List.getElem?_eq_getElem h0)
  rw [e] at e2
  injection e2 with e2
  subst e2
  have := not_box hb hv hc
  rwa [add_block] at this)
theorem nodes_box {w w' : World} {b : Nat} {v : Value} {t : TypeId} {fr : Nat × Nat} (hb : w.heap[b]? = some (.cells #[v] t fr)) (hv : ∀ i, v ≠ .int .i64 i) (hk : ∀ (a : Addr) u, w.cell? a = some u → a.block ≠ b → w'.cell? a = some u) {A : Option Addr} {xs : List Nd} (h : Kd.C kN w A xs.length xs) : Kd.C kN w' A xs.length xs :=
 rows_box hk h (fun p cs h => by
  obtain ⟨A, c, rfl, l, g⟩ := kN_open h
  exact kN_mk l (ints_box hb hv hk g)) (fun ad e h0 => by
  obtain ⟨ad2, A2, c2, e2, hc, _⟩ := zc2 h (List.getElem?_eq_getElem h0)
  rw [e] at e2
  injection e2 with e2
  subst e2
  have := not_box hb hv hc
  rwa [add_block] at this)
theorem set_cell_far {w : World} {b : Nat} {v : Value} (a : Addr) (u : Value) (h : w.cell? a = some u) (hne : a.block ≠ b) : (w.setCell ⟨b, 0, none⟩ v).cell? a = some u := by
 unfold World.cell? at h ⊢
 rw [Below.heap_setCell _ _ _ _ hne]
 exact h
theorem box_step {W V : World} {b n : Nat} {v : Value} {A : Option Addr} {c : Nat} {xs : List Nd} (hB : W.heap[b]? = some (.cells #[v] TG (0, 0))) (hv : ∀ i, v ≠ .int .i64 i) (hV : W.setCell ⟨b, 0, none⟩ (.slice A n c) = V) (hn : xs.length = n) (h : Kd.C kN W A n xs) : Kd.C kN V A n xs ∧ V.heap[b]? = some (.cells #[.slice A n c] TG (0, 0)) ∧ V.heap.size = W.heap.size := by
 subst hn;subst hV
 exact ⟨nodes_box hB hv set_cell_far h, Boxed.set _ hB, by simp⟩
theorem box_new {W V : World} {n : Nat} {A : Option Addr} {c : Nat} {xs : List Nd} (hV : W.alloc (.cells #[.slice A n c] TG) = V) (h : Kd.C kN W A n xs) : Kd.C kN V A n xs ∧ V.heap[W.heap.size]? = some (.cells #[.slice A n c] TG (0, 0)) ∧ Below W.heap.size W V := by
 subst hV
 exact ⟨Kd.zaz h ((Below.refl _ _).alloc (Nat.le_refl _) _), za3 _ _, (Below.refl _ _).alloc (Nat.le_refl _) _⟩
theorem zgg (A0 A1 : Option Addr) (c0 c1 : Nat) (l : List Int) (w : World) (h0 : Kd.C (Kd.int .i64) w A0 l.length l) (h1 : Kd.C (Kd.int .i64) w A1 l.length l) (hc0 : l.length ≤ c0) (hc1 : l.length ≤ c1) (h : PInts.zbp.f 9 l l = some true) : Calls Try.prog 24 #[.slice A0 l.length c0, .slice A1 l.length c1] w fun e w' => e = .returned (.bool true) ∧ Below w.heap.size w w' := by
 refine (PInts.zbp.calls 9 A0 c0 l A1 c1 l true w h0 hc0 h1 hc1 h).mono ?_
 rintro e w' ⟨rfl, hd⟩
 exact ⟨rfl, hd.below⟩
theorem ints_two (A0 A1 : Option Addr) (c0 : Nat) (w : World) (h0 : Kd.C (Kd.int .i64) w A0 2 [1, 2]) (h1 : Kd.C (Kd.int .i64) w A1 2 [1, 2]) (hc0 : 2 ≤ c0) : Calls Try.prog 24 #[.slice A0 2 c0, .slice A1 2 2] w fun e w' => e = .returned (.bool true) ∧ Below w.heap.size w w' := zgg A0 A1 c0 2 [1, 2] w h0 h1 hc0 (by decide) i1
theorem ints_one (A0 A1 : Option Addr) (c0 : Nat) (w : World) (h0 : Kd.C (Kd.int .i64) w A0 1 [0]) (h1 : Kd.C (Kd.int .i64) w A1 1 [0]) (hc0 : 1 ≤ c0) : Calls Try.prog 24 #[.slice A0 1 c0, .slice A1 1 1] w fun e w' => e = .returned (.bool true) ∧ Below w.heap.size w w' := zgg A0 A1 c0 1 [0] w h0 h1 hc0 (by decide) i2
theorem row_new (W : World) (l : List Int) (V : World) (hV : W.alloc (.cells ((l.map (Value.int .i64)).toArray) TI) = V) (hl : l.length ≤ 100) : Kd.C (Kd.int .i64) V (some ⟨W.heap.size, 0, none⟩) l.length l := by
 have ho : V.ownsRow W.heap.size TI 1 (.slice (some ⟨W.heap.size, 0, none⟩) l.length l.length) l.length (ints l) := by
  refine ⟨by rw [ints_len]; omega, .inr ⟨W.heap.size, l.length, (l.map (Value.int .i64)).toArray, rfl, Nat.le_refl _, by rw [← hV]; exact za3 W _, by omega, by unfold maxLen; omega, by simp, by rw [Nat.mul_one]; show List.take l.length (List.map (Value.int IntKind.i64) l) = List.map (Value.int IntKind.i64) l; exact List.take_of_length_le (by simp)⟩⟩
 obtain ⟨A, c, e, _, h⟩ := Kd.zcl (GSrt.own_R ho)
 injection e with e1 _ _
 rw [e1]
 exact h
theorem row_two {W V : World} (h : W.alloc (.cells #[.int .i64 1, .int .i64 2] TI) = V) : Kd.C (Kd.int .i64) V (some ⟨W.heap.size, 0, none⟩) [1, 2].length [1, 2] := row_new W [1, 2] V h (by decide)
theorem row_one' {W V : World} (h : W.alloc (.cells #[.int .i64 0] TI) = V) : Kd.C (Kd.int .i64) V (some ⟨W.heap.size, 0, none⟩) [0].length [0] := row_new W [0] V h (by decide)
theorem row_below {W V : World} {o : Obj} (h : W.alloc o = V) : Below W.heap.size W V := by
 rw [← h]
 exact (Below.refl _ _).alloc (Nat.le_refl _) _
theorem awake_calls (w : World) : Calls Try.prog 9 #[] w fun e w' => e = .returned (.bool true) ∧ Below w.heap.size w w' := by
 have hnew := new_calls w
 go_enter Try.func9, Try.ntmps9
 go_wp2_with (first
  | (go_at_call 21; refine hnew.mono ?_; rintro e W1 ⟨A1, c1, rfl, k1, h1, b1⟩)
  | (go_at_call 13; with_reducible refine (push1 A1 c1 W1 k1 h1).mono ?_; rintro e W2 ⟨A2, c2, rfl, k2, h2, b2⟩; clear hnew h1; obtain ⟨V2, hV2⟩ : ∃ X, W2.alloc (.cells #[.slice A2 2 c2] TG) = X := ⟨_, rfl⟩; obtain ⟨C2, B2, d2⟩ := box_new hV2 h2; have cc2 := zae B2 0)
  | (go_at_call 13; with_reducible refine (push2 A2 c2 V2 k2 C2).mono ?_; rintro e W3 ⟨A3, c3, rfl, k3, h3, b3⟩; clear C2 h2; have B3 := zaq B2 b3; have cc3 := zae B3 0; have ff3 := zbf B3 0; obtain ⟨V3, hV3⟩ : ∃ X, W3.setCell ⟨W2.heap.size, 0, none⟩ (.slice A3 3 c3) = X := ⟨_, rfl⟩; obtain ⟨C3, B4, z3⟩ := box_step B3 (fun i h => by cases h) hV3 rfl h3; have cc4 := zae B4 0; have Z3 := Lib.hid z3; clear z3)
  | (go_at_call 13; with_reducible refine (push3 A3 c3 V3 k3 C3).mono ?_; rintro e W4 ⟨A4, c4, rfl, k4, h4, b4⟩; clear C3 h3; obtain ⟨V4, hV4⟩ : ∃ X, W4.alloc (.cells #[.slice A4 4 c4] TG) = X := ⟨_, rfl⟩; obtain ⟨C4, B5, d4⟩ := box_new hV4 h4; have cc5 := zae B5 0)
  | (go_at_call 13; with_reducible refine (push4 A4 c4 V4 k4 C4).mono ?_; rintro e W5 ⟨A5, c5, rfl, k5, h5, b5⟩; clear C4 h4; have B6 := zaq B5 b5; have cc6 := zae B6 0; have ff6 := zbf B6 0; obtain ⟨V5, hV5⟩ : ∃ X, W5.setCell ⟨W4.heap.size, 0, none⟩ (.slice A5 4 c5) = X := ⟨_, rfl⟩; obtain ⟨C5, B7, z5⟩ := box_step B6 (fun i h => by cases h) hV5 rfl h5; have cc7 := zae B7 0; have Z5 := Lib.hid z5; clear z5)
  | (go_at_call 10; refine (paths4 A5 c5 V5 C5).mono ?_; rintro e W6 ⟨A6, c6, ec, rfl, rfl, b6⟩; have C6 := Kd.zaz C5 b6; have B8x := zaq B7 b6; have cc8 := zae B8x 0)
  | (go_at_call 11; with_reducible refine (back4 A5 c5 W6 1 [1, 2] back1 C6).mono ?_; rintro e W7 ⟨A7, c7, rfl, k7, h7, b7⟩; have C7 := Kd.zaz C6 b7; have B9x := zaq B8x b7; have cc9 := zae B9x 0; obtain ⟨V7, hV7⟩ : ∃ X, W7.alloc (.cells #[.int .i64 1, .int .i64 2] TI) = X := ⟨_, rfl⟩; have r7 := row_two hV7; have d7 := row_below hV7; have g7 := Kd.zaz h7 d7; have D7 := Kd.zaz C7 d7; have B10x := zaq B9x d7; have cc10 := zae B10x 0)
  | (go_at_call 24; have q7 := ints_two A7 _ c7 V7 g7 r7 k7; with_reducible refine q7.mono ?_; rintro e W8 ⟨rfl, b8⟩; have C8 := Kd.zaz D7 b8; have B11x := zaq B10x b8; have cc11 := zae B11x 0)
  | (go_at_call 11; with_reducible refine (back4 A5 c5 W8 2 [0] back2 C8).mono ?_; rintro e W9 ⟨A9, c9, rfl, k9, h9, b9⟩; have C9 := Kd.zaz C8 b9; have B12x := zaq B11x b9; have cc12 := zae B12x 0; obtain ⟨V9, hV9⟩ : ∃ X, W9.alloc (.cells #[.int .i64 0] TI) = X := ⟨_, rfl⟩; have r9 := row_one' hV9; have d9 := row_below hV9; have g9 := Kd.zaz h9 d9; have D9 := Kd.zaz C9 d9; have B13x := zaq B12x d9; have cc13 := zae B13x 0)
  | (go_at_call 24; have q9 := ints_one A9 _ c9 V9 g9 r9 k9; with_reducible refine q9.mono ?_; rintro e W10 ⟨rfl, b10⟩; have C10 := Kd.zaz D9 b10; have B14x := zaq B13x b10; have cc14 := zae B14x 0)
  | (go_at_call 19; refine (fit4_calls A5 c5 W10 k5 C10).mono ?_; rintro e W11 ⟨rfl, b11⟩)
  | go_in)
 go_ret
 refine ⟨rfl, ?_⟩
 have x2 := b1.trans (b2.mono b1.size)
 have y2 := x2.trans (d2.mono x2.size)
 have x3 := y2.trans (b3.mono y2.size)
 have y3 : Below w.heap.size w V3 := by rw [← hV3]; exact x3.setCell (p := ⟨W2.heap.size, 0, none⟩) x2.size _
 have x4 := y3.trans (b4.mono y3.size)
 have y4 := x4.trans (d4.mono x4.size)
 have x5 := y4.trans (b5.mono y4.size)
 have y5 : Below w.heap.size w V5 := by rw [← hV5]; exact x5.setCell (p := ⟨W4.heap.size, 0, none⟩) x4.size _
 have x6 := y5.trans (b6.mono y5.size)
 have x7 := x6.trans (b7.mono x6.size)
 have y7 := x7.trans (d7.mono x7.size)
 have x8 := y7.trans (b8.mono y7.size)
 have x9 := x8.trans (b9.mono x8.size)
 have y9 := x9.trans (d9.mono x9.size)
 have x10 := y9.trans (b10.mono y9.size)
 exact x10.trans (b11.mono x10.size)
end Go.Proofs.ZZ.GAwake
end
section
namespace Go.Proofs.ZZ.GGiv
open Go Go.RowKit Go.Shelf Go.Maps Go.Proofs.ZW.PrintWords Go.Proofs.ZW.PrintLast Go.Proofs.ZZ.GK Go.Proofs.ZZ.G16 Go.Proofs.ZZ.GGr Go.Proofs.ZZ.GAdd
instance mltDec (a b : Mk) : Decidable (mlt a b) := by unfold mlt; infer_instance
def fitB (g : List Nd) : Bool := decide (g.length ≤ 4096) && decide ((marks g).Pairwise mlt) && g.all fun x => decide (0 ≤ x.1) && decide (x.1 ≤ 65535) && decide (0 ≤ x.2.1) && decide (x.2.1 ≤ 65535) && decide (x.2.2.Pairwise (· < ·)) && x.2.2.all fun k => decide (0 ≤ k) && decide (k < (g.length : Int)) && decide ((g.getD k.toNat (0, 0, [])).2.1 ≤ x.2.1)
theorem fit_fit {g : List Nd} (h : fitB g = true) : FitG g := by
 unfold fitB at h
 simp only [Bool.and_eq_true, decide_eq_true_eq, List.all_eq_true] at h
 obtain ⟨⟨h1, h2⟩, h3⟩ := h
 refine GAwake.zea h1 h2 (fun x hx => ?_) (fun x hx k hk => ((h3 x hx).2 k hk).2)
 obtain ⟨⟨⟨⟨⟨a, b⟩, c⟩, d⟩, e⟩, f⟩ := h3 x hx
 exact ⟨a, b, c, d, e, fun k hk => (f k hk).1⟩
theorem zf3 {g : List Nd} (h : FitG g) : fitB g = true := by
 unfold fitB
 simp only [Bool.and_eq_true, decide_eq_true_eq, List.all_eq_true]
 refine ⟨⟨h.len, h.rise⟩, fun x hx => ?_⟩
 have o := h.ok x hx
 refine ⟨⟨⟨⟨⟨o.s0, o.s1⟩, o.a0⟩, o.a1⟩, o.up⟩, fun k hk => ⟨o.inn k hk, ?_⟩⟩
 obtain ⟨k0, k1⟩ := o.inn k hk
 have hl : k.toNat < g.length := by omega
 have := h.back (mrk x) (mrk g[k.toNat]) ⟨x, hx, rfl, k, hk, k0, by unfold marks; rw [List.getElem?_map, List.getElem?_eq_getElem hl]; rfl⟩
 rw [List.getD_eq_getElem?_getD, List.getElem?_eq_getElem hl]
 exact this
theorem R_map {α β : Type} {d : Kd α} {d' : Kd β} {g : α → β} {e : Nat} {w : World} {base : Nat} {ok : Nat → Prop} {v : Value} {xs : List α} (hz : d'.sz = d.sz) (hM : ∀ ok x cs, d.M w base ok x cs → d'.M w base ok (g x) cs) (h : Kd.R d e w base ok v xs) : Kd.R d' e w base ok v (xs.map g) := by
 obtain ⟨h0, inner, ho, hr⟩ := h
 refine ⟨h0, inner, by rw [List.length_map, hz]; exact ho, by rw [List.length_map, hz]; exact hr.1, fun j p hj => ?_⟩
 rw [List.getElem?_map] at hj
 cases hx : xs[j]? with
 | none => rw [hx] at hj; cases hj
 | some x =>
  rw [hx] at hj
  obtain rfl : g x = p := by simpa using hj
  rw [hz]
  exact hM _ _ _ (hr.2 j x hx)
end Go.Proofs.ZZ.GGiv
end
section
namespace Go.Proofs.ZZ.GGivK
open Go Go.RowKit Go.Shelf Go.Maps Go.Proofs.ZW.PrintWords Go.Proofs.ZW.PrintLast Go.Proofs.ZW.PrintMore Go.Proofs.ZZ.GK Go.Proofs.ZZ.G16 Go.Proofs.ZZ.GGr Go.Proofs.ZZ.GAdd Go.Proofs.ZZ.GRow
def zes (g : List Nd) (node n : Int) : List (List Int) × Int := if (GPaths.zb9 g node n).length ≤ 4000 then (GPaths.zb9 g node n, 0) else ([], 15)
theorem pathsE_of {g : List Nd} {node n ec : Int} {zs : List (List Int)} (hl : zs.length ≤ 4000) (h : ec = 0 ∧ zs = GPaths.zb9 g node n ∨ ec = 15 ∧ zs = [] ∧ 4000 < (GPaths.zb9 g node n).length) : zes g node n = (zs, ec) := by
 unfold zes
 rcases h with ⟨rfl, rfl⟩ | ⟨rfl, rfl, h⟩
 ·rw [if_pos hl]
 ·rw [if_neg (by omega)]
theorem own_ne {w : World} {b1 b2 e1 e2 s1 s2 n1 n2 : Nat} {u v : Value} {c1 c2 : List Value} (h : w.ownsRow b1 e1 s1 u n1 c1) (k : w.ownsRow b2 e2 s2 v n2 c2) (hne : e1 ≠ e2) : ∀ q, u.ownBlock = some q → some q ≠ v.ownBlock := by
 intro q hu hv
 rcases h.2 with ⟨rfl, _⟩ | ⟨g, cap, cur, rfl, _, hg, _⟩
 ·cases hu
 rcases k.2 with ⟨rfl, _⟩ | ⟨g', cap', cur', rfl, _, hg', _⟩
 ·cases hv
 obtain rfl : g = q := by injection hu
 obtain rfl : g = g' := by injection hv
 rw [hg] at hg'
 injection hg' with hg'
 injection hg' with _ hg' _
 exact hne hg'
theorem rows_R {w : World} {base : Nat} {v : Value} {ys : List (Value × List Int)} (ho : w.ownsRow base GPaths.TR 1 v ys.length (ys.map Prod.fst)) (hi : ∀ y ∈ ys, zb0 base w y.1 y.2) : Kd.R (Kd.slice 3 (Kd.int .i64)) GPaths.TR w base (fun _ => True) v (ys.map (·.2)) := by
 refine ⟨fun _ _ => trivial, ys.map Prod.fst, by rw [List.length_map]; exact ho, by rw [List.length_map, List.length_map]; exact (Nat.mul_one _).symm, fun j p hj => ?_⟩
 rw [List.getElem?_map] at hj
 obtain ⟨y, hy, rfl⟩ := Option.map_eq_some_iff.1 hj
 have hR := hi y (List.mem_of_getElem? hy)
 refine ⟨y.1, ?_, ?_⟩
 ·show ((ys.map Prod.fst).drop (j * 1)).take 1 = [y.1]
  obtain ⟨hjl, rfl⟩ := List.getElem?_eq_some_iff.1 hy
  rw [Nat.mul_one, List.drop_eq_getElem_cons (by rw [List.length_map]; exact hjl)]
  simp
 ·refine Kd.R_of_own (enc := Value.int .i64) (h1 := fun _ => rfl) hR (fun q hq => ⟨trivial, own_ne hR ho (by decide) q hq⟩)
theorem push_V {α : Type} {d : Kd α} {f : Nd → α} {P : Nat → Prop} {w' : World} {e base : Nat} {v : Value} {r : List Nd} (hR : Kd.R d e w' base (fun _ => True) v (r.map f)) : Kd.V d e w' base (fun k => P k ∨ base ≤ k) v (r.map f) := Kd.R_V (Kd.zbr (Kd.zcs hR) (fun k hk => .inr hk.2.1))
end Go.Proofs.ZZ.GGivK
end
section
namespace Go.Proofs.ZZ.PGssKeeps
open Go.RowKit Go.Proofs.ZW.PrintWords Go.Proofs.ZW.PrintLast Go.Proofs.ZW.PrintMore
attribute [local go_sem] zca zcg
def za0 (xs : List (List Int)) (i : Int) : (List Int) := xs.getD i.toNat ([] : List Int)
theorem at_L1 {w : World} {A : Option Addr} {n : Nat} {xs : List (List Int)} (h : Kd.C (Kd.slice 3 (Kd.int .i64)) w A n xs) (i : Int) (h0 : 0 ≤ i) (h1 : i < n) : ∃ ad A0 c0, A = some ad ∧ w.cell? (ad.add i.toNat) = some (.slice A0 (za0 xs i).length c0) ∧ (za0 xs i).length ≤ c0 ∧ (Kd.int .i64).C w A0 (za0 xs i).length (za0 xs i) := by
 obtain ⟨ad, c, e, _, hK, hc0⟩ := Kd.C_get h ([] : List Int) i h0 h1
 have hc : ∀ j u, c[j]? = some u → w.cell? (ad.add (i.toNat * 1 + j)) = some u := hc0
 obtain ⟨A0, c0, rfl, l0, g0⟩ := hK
 exact ⟨ad, A0, c0, e, by have hq := hc 0 _ rfl; rwa [Nat.mul_one, Nat.add_zero] at hq, l0, g0⟩
structure S38 where
 f0 : Int
 f1 : Int
 f2 : (List Int)
def z38 : S38 := ⟨(0 : Int), (0 : Int), ([] : List Int)⟩
def k38 : Kd S38 := Kd.iso (Kd.pair (Kd.int .i64) (Kd.pair (Kd.int .i64) (Kd.slice 3 (Kd.int .i64)))) (fun x : S38 => (x.f0, x.f1, x.f2))
theorem k38_heap : Kd.Heap k38 := Kd.heap_iso _ (Kd.heap_pair (Kd.zf6 .i64) (Kd.heap_pair (Kd.zf6 .i64) (Kd.heap_slice 3 (Kd.zf6 .i64))))
theorem zf8 {w : World} {x : S38} {cs : List Value} (h : k38.K w x cs) : ∃ A2 c2, cs = [.int .i64 x.f0, .int .i64 x.f1, .slice A2 x.f2.length c2] ∧ x.f2.length ≤ c2 ∧ (Kd.int .i64).C w A2 x.f2.length x.f2 := by
 obtain ⟨_, _, rfl, rfl, ⟨_, _, rfl, rfl, ⟨A2, c2, rfl, l2, g2⟩⟩⟩ := h
 exact ⟨A2, c2, rfl, l2, g2⟩
def zaa (xs : List S38) (i : Int) : S38 := xs.getD i.toNat z38
theorem zbx {w : World} {A : Option Addr} {n : Nat} {xs : List S38} (h : Kd.C k38 w A n xs) (i : Int) (h0 : 0 ≤ i) (h1 : i < n) : ∃ ad A2 c2, A = some ad ∧ w.cell? (ad.add (i.toNat * 3)) = some (.int .i64 (zaa xs i).f0) ∧ w.cell? ⟨(ad.add (i.toNat * 3)).block, (ad.add (i.toNat * 3)).off + 1, none⟩ = some (.int .i64 (zaa xs i).f1) ∧ w.cell? ⟨(ad.add (i.toNat * 3)).block, (ad.add (i.toNat * 3)).off + 2, none⟩ = some (.slice A2 (zaa xs i).f2.length c2) ∧ (zaa xs i).f2.length ≤ c2 ∧ (Kd.int .i64).C w A2 (zaa xs i).f2.length (zaa xs i).f2 := by
 obtain ⟨ad, c, e, _, hK, hc0⟩ := Kd.C_get h z38 i h0 h1
 have hc : ∀ j u, c[j]? = some u → w.cell? (ad.add (i.toNat * 3 + j)) = some u := hc0
 obtain ⟨A2, c2, rfl, l2, g2⟩ := zf8 hK
 exact ⟨ad, A2, c2, e, hc 0 _ rfl, by rw [← zde _ _ 1 (by omega)]; exact hc 1 _ rfl, by rw [← zde _ _ 2 (by omega)]; exact hc 2 _ rfl, l2, g2⟩
structure S24 where
 f0 : (List S38)
theorem Yb_PGssKeepsx1_0 {n : Nat} {w w' : World} (h : Below n w w' := by repeat (first | (with_reducible first | exact HB.out | apply za8 | apply za1 | apply zas | refine zbg ?_ GE101.out) | exact HB.out)) : Below n w w' := h
theorem Yb_PGssKeepsx1_1 {n : Nat} {w w' : World} (h : Below n w w' := by repeat (first | (with_reducible first | exact HB.out | apply za8 | apply za1 | apply zas | refine zbg ?_ GE103.out) | exact HB.out)) : Below n w w' := h
theorem Yb_PGssKeepsx1_2 {n : Nat} {w w' : World} (h : Below n w w' := by repeat (first | (with_reducible first | exact HB.out | apply za8 | apply za1 | apply zas | refine zbg ?_ GE103.out | refine zbg ?_ GE104.out) | exact HB.out)) : Below n w w' := h
def zav.l0 : Nat → Int → Int → List (S38) → Option (Bool)
 | 0, _, _, _ => none
 | k + 1, x3, x4, x102000 => if x4 < (x102000.length : Int) then (if x3 ≥ 0 then (if 0 ≤ x4 then (zav.l0 k (wrap64 ((wrap64 (x3 - 1)) - (((zaa x102000 x4).f2).length : Int))) (wrap64 (x4 + 1)) x102000) else (none)) else (some false)) else (if x3 ≥ 0 then (some (decide ((x102000.length : Int) ≤ 120))) else (some false))
def zav.f (k : Nat) (l0_0 : List (S38)) : Option (Bool) := zav.l0 k 3000 0 l0_0
theorem zav.calls (k : Nat) (A0_0 : Option Addr) (c0_0 : Nat) (l0_0 : List (S38)) (r : Bool) (w : World) (hr0_0 : Kd.C k38 w A0_0 l0_0.length l0_0) (hc0_0 : l0_0.length ≤ c0_0) (h : zav.f k l0_0 = some r) :
  Calls Try.prog 7 #[.agg #[.slice A0_0 l0_0.length c0_0]] w fun e w' => e = .returned (.bool r) ∧ Below w.heap.size w w' := by
 have hu24 := Try.underlying24
 have HR0_0 := zac.mk hr0_0;have HC0_0 := zac.mk hc0_0;clear hr0_0 hc0_0
 have HB := zac.mk (Below.refl w.heap.size w)
 have H : (zav.l0 k 3000 0 l0_0) = some r := h
 clear h
 have H' := zac.mk H
 clear H
 go_enter Try.func7, Try.ntmps7
 go_wp2_with (first | ((with_reducible refine zbj (N := 1) rfl ?_); (try (refine zc7 (by rfl) ?_; dsimp only)); refine Ybx 1 #[.slice A0_0 l0_0.length c0_0] 24 ?_; intro gb101 hg w2 hbox hb; obtain ⟨BK101, GW101, GE101, HB⟩ := Yb4 hbox hg hb Ybe; clear hb hbox hg))
 go_loopg [3, 4] k (fun kq v3 v4 w' => ∃ (x3_1 : Int) (x4_1 : Int), v3 = .int .i64 x3_1 ∧ v4 = .int .i64 x4_1 ∧ zac (zav.l0 kq x3_1 x4_1 l0_0 = some r) ∧ zac (kq ≤ k) ∧ zac (w'.heap[gb101]? = some (.cells #[(.slice A0_0 l0_0.length c0_0)] 24 (0, 0))) ∧ zac (Below w.heap.size w w'))
 case atStart => exact ⟨(3000), (0), Yfs, Yfs, H', ⟨Nat.le_refl _⟩, ⟨Yg BK101⟩, ⟨Yb_PGssKeepsx1_0⟩⟩
 case round =>
  clear H'
  obtain ⟨x3_1, x4_1, rfl, rfl, HA, HK1, BK101, HB⟩ := hrel
  cases gk with
  | zero => exact absurd HA.out (by simp [zav.l0])
  | succ k1 =>
   have H := HA.out;clear HA
   simp only [zav.l0] at H
   by_cases c3 : x4_1 < (l0_0.length : Int)
   ·rw [if_pos c3] at H
    have c3b0 := decide_eq_true c3
    clear c3
    by_cases c4 : x3_1 ≥ 0
    ·rw [if_pos c4] at H
     have c4b0 := decide_eq_true c4
     clear c4
     by_cases c5 : 0 ≤ x4_1
     ·rw [if_pos c5] at H
      have c5b0 := decide_eq_true c5
      clear c5
      have H' := zac.mk H
      clear H
      obtain ⟨hcz6_0, hfz6_0⟩ := Yc1 BK101.out
      have p102 : 0 ≤ (x4_1 : Int) := Yod
      have q102 : x4_1 < (l0_0.length : Int) := Yod
      obtain ⟨ad102, A102_2, c102_2, e102, hx102_0, hx102_1, hx102_2, hl102_2, hi102_2⟩ := zbx HR0_0.out x4_1 p102 q102
      cases e102
      replace hx102_0 := zaf HB.out hx102_0
      replace hx102_1 := zaf HB.out hx102_1
      replace hx102_2 := zaf HB.out hx102_2
      have HR102_2 := zac.mk hi102_2;have HC102_2 := zac.mk hl102_2;clear hi102_2 hl102_2
      replace p102 := eq_true p102
      replace q102 := eq_true q102
      go_wp2
      go_roundg k1
      case measure => have := HK1.out; omega
      case rel => exact ⟨(wrap64 ((wrap64 (x3_1 - 1)) - (((zaa l0_0 x4_1).f2).length : Int))), (wrap64 (x4_1 + 1)), Yfs, Yfs, H', ⟨by have := HK1.out; omega⟩, ⟨Yg BK101⟩, ⟨Yb_PGssKeepsx1_0⟩⟩
     ·rw [if_neg c5] at H
      exact absurd H (by simp)
    ·rw [if_neg c4] at H
     have c4b0 := decide_eq_false c4
     clear c4;obtain rfl := Option.some.inj H
     obtain ⟨hcz7_0, hfz7_0⟩ := Yc1 BK101.out
     go_wp2;go_ret
     exact ⟨Yfi, Yb_PGssKeepsx1_0⟩
   ·rw [if_neg c3] at H
    have c3b0 := decide_eq_false c3
    clear c3
    by_cases c8 : x3_1 ≥ 0
    ·rw [if_pos c8] at H
     have c8b0 := decide_eq_true c8
     clear c8;obtain rfl := Option.some.inj H
     obtain ⟨hcz9_0, hfz9_0⟩ := Yc1 BK101.out
     go_wp2;go_ret
     exact ⟨Yfi, Yb_PGssKeepsx1_0⟩
    ·rw [if_neg c8] at H
     have c8b0 := decide_eq_false c8
     clear c8;obtain rfl := Option.some.inj H
     obtain ⟨hcz10_0, hfz10_0⟩ := Yc1 BK101.out
     go_wp2;go_ret
     exact ⟨Yfi, Yb_PGssKeepsx1_0⟩
def zay.f (a0 : Int) : Option (Bool) := if a0 ≥ 0 then (some (decide (a0 ≤ 65535))) else (some false)
theorem zay.calls (a0 : Int) (r : Bool) (w : World) (h : zay.f a0 = some r) :
  Calls Try.prog 30 #[.int .i64 a0] w fun e w' => e = .returned (.bool r) ∧ zam w w' := by
 have H : (if a0 ≥ 0 then (some (decide (a0 ≤ 65535))) else (some false)) = some r := h
 clear h
 by_cases c2 : a0 ≥ 0
 ·rw [if_pos c2] at H
  have c2b0 := decide_eq_true c2
  clear c2;obtain rfl := Option.some.inj H
  go_enter Try.func30, Try.ntmps30
  go_wp2;go_ret
  exact ⟨Yfs, by repeat (first | exact zam.refl _ | apply zam.step)⟩
 ·rw [if_neg c2] at H
  have c2b0 := decide_eq_false c2
  clear c2;obtain rfl := Option.some.inj H
  go_enter Try.func30, Try.ntmps30
  go_wp2;go_ret
  exact ⟨Yfs, by repeat (first | exact zam.refl _ | apply zam.step)⟩
def za2.f (a0_0 : Int) (a0_1 : Int) (l0_2 : List Int) (a1_0 : Int) (a1_1 : Int) (l1_2 : List Int) : Option (Bool) := if a0_1 < a1_1 then (some true) else (if a0_1 = a1_1 then (some (decide (a0_0 < a1_0))) else (some false))
theorem za2.calls (a0_0 : Int) (a0_1 : Int) (A0_2 : Option Addr) (c0_2 : Nat) (l0_2 : List Int) (a1_0 : Int) (a1_1 : Int) (A1_2 : Option Addr) (c1_2 : Nat) (l1_2 : List Int) (r : Bool) (w : World) (hr0_2 : Kd.C (Kd.int .i64) w A0_2 l0_2.length l0_2) (hc0_2 : l0_2.length ≤ c0_2) (hr1_2 : Kd.C (Kd.int .i64) w A1_2 l1_2.length l1_2) (hc1_2 : l1_2.length ≤ c1_2) (h : za2.f a0_0 a0_1 l0_2 a1_0 a1_1 l1_2 = some r) :
  Calls Try.prog 31 #[.agg #[.int .i64 a0_0, .int .i64 a0_1, .slice A0_2 l0_2.length c0_2], .agg #[.int .i64 a1_0, .int .i64 a1_1, .slice A1_2 l1_2.length c1_2]] w fun e w' => e = .returned (.bool r) ∧ Below w.heap.size w w' := by
 have hu38 := Try.underlying38
 have HR0_2 := zac.mk hr0_2;have HC0_2 := zac.mk hc0_2;clear hr0_2 hc0_2;have HR1_2 := zac.mk hr1_2;have HC1_2 := zac.mk hc1_2;clear hr1_2 hc1_2
 have HB := zac.mk (Below.refl w.heap.size w)
 have H : (if a0_1 < a1_1 then (some true) else (if a0_1 = a1_1 then (some (decide (a0_0 < a1_0))) else (some false))) = some r := h
 clear h
 by_cases c3 : a0_1 < a1_1
 ·rw [if_pos c3] at H
  have c3b0 := decide_eq_true c3
  clear c3;obtain rfl := Option.some.inj H
  go_enter Try.func31, Try.ntmps31
  go_wp2_with (first | ((with_reducible refine zbj (N := 2) rfl ?_); refine Ybx 2 #[.int .i64 a0_0, .int .i64 a0_1, .slice A0_2 l0_2.length c0_2] 38 ?_; intro gb103 hg w4 hbox hb; obtain ⟨BK103, GW103, GE103, HB⟩ := Yb4 hbox hg hb Ybe; clear hb hbox hg) | ((with_reducible refine zbj (N := 3) rfl ?_); refine Ybx 3 #[.int .i64 a1_0, .int .i64 a1_1, .slice A1_2 l1_2.length c1_2] 38 ?_; intro gb104 hg w5 hbox hb; obtain ⟨BK104, GW104, GE104, HB⟩ := Yb4 hbox hg hb Yb_PGssKeepsx1_1; have NB103_104 := Ynl BK103 hg; have NB104_103 := Yng BK103 hg; replace BK103 := Ykb BK103 hb; clear hb hbox hg; have hnb6 := NB103_104.out; have hnc6 := NB104_103.out; obtain ⟨hcz7_0, hfz7_0, hcz7_1, hfz7_1, hcz7_2, hfz7_2⟩ := Yc3 BK103.out; obtain ⟨hcz8_0, hfz8_0, hcz8_1, hfz8_1, hcz8_2, hfz8_2⟩ := Yc3 BK104.out))
  go_ret
  exact ⟨Yfi, Yb_PGssKeepsx1_2⟩
 ·rw [if_neg c3] at H
  have c3b0 := decide_eq_false c3
  clear c3
  by_cases c9 : a0_1 = a1_1
  ·rw [if_pos c9] at H
   have c9b0 : (a0_1 == a1_1) = true := beq_iff_eq.mpr c9
   have c9b1 : (a0_1 != a1_1) = false := bne_eq_false_iff_eq.mpr c9
   clear c9;obtain rfl := Option.some.inj H
   go_enter Try.func31, Try.ntmps31
   go_wp2_with (first | ((with_reducible refine zbj (N := 2) rfl ?_); refine Ybx 2 #[.int .i64 a0_0, .int .i64 a0_1, .slice A0_2 l0_2.length c0_2] 38 ?_; intro gb103 hg w10 hbox hb; obtain ⟨BK103, GW103, GE103, HB⟩ := Yb4 hbox hg hb Ybe; clear hb hbox hg) | ((with_reducible refine zbj (N := 3) rfl ?_); refine Ybx 3 #[.int .i64 a1_0, .int .i64 a1_1, .slice A1_2 l1_2.length c1_2] 38 ?_; intro gb104 hg w11 hbox hb; obtain ⟨BK104, GW104, GE104, HB⟩ := Yb4 hbox hg hb Yb_PGssKeepsx1_1; have NB103_104 := Ynl BK103 hg; have NB104_103 := Yng BK103 hg; replace BK103 := Ykb BK103 hb; clear hb hbox hg; have hnb12 := NB103_104.out; have hnc12 := NB104_103.out; obtain ⟨hcz13_0, hfz13_0, hcz13_1, hfz13_1, hcz13_2, hfz13_2⟩ := Yc3 BK103.out; obtain ⟨hcz14_0, hfz14_0, hcz14_1, hfz14_1, hcz14_2, hfz14_2⟩ := Yc3 BK104.out))
   go_ret
   exact ⟨Yfi, Yb_PGssKeepsx1_2⟩
  ·rw [if_neg c9] at H
   have c9b0 : (a0_1 == a1_1) = false := beq_eq_false_iff_ne.mpr c9
   have c9b1 : (a0_1 != a1_1) = true := bne_iff_ne.mpr c9
   obtain rfl := Option.some.inj H
   go_enter Try.func31, Try.ntmps31
   go_wp2_with (first | ((with_reducible refine zbj (N := 2) rfl ?_); refine Ybx 2 #[.int .i64 a0_0, .int .i64 a0_1, .slice A0_2 l0_2.length c0_2] 38 ?_; intro gb103 hg w15 hbox hb; obtain ⟨BK103, GW103, GE103, HB⟩ := Yb4 hbox hg hb Ybe; clear hb hbox hg) | ((with_reducible refine zbj (N := 3) rfl ?_); refine Ybx 3 #[.int .i64 a1_0, .int .i64 a1_1, .slice A1_2 l1_2.length c1_2] 38 ?_; intro gb104 hg w16 hbox hb; obtain ⟨BK104, GW104, GE104, HB⟩ := Yb4 hbox hg hb Yb_PGssKeepsx1_1; have NB103_104 := Ynl BK103 hg; have NB104_103 := Yng BK103 hg; replace BK103 := Ykb BK103 hb; clear hb hbox hg; have hnb17 := NB103_104.out; have hnc17 := NB104_103.out; obtain ⟨hcz18_0, hfz18_0, hcz18_1, hfz18_1, hcz18_2, hfz18_2⟩ := Yc3 BK103.out; obtain ⟨hcz19_0, hfz19_0, hcz19_1, hfz19_1, hcz19_2, hfz19_2⟩ := Yc3 BK104.out))
   go_ret
   exact ⟨Yfi, Yb_PGssKeepsx1_2⟩
theorem Yb_PGssKeepsx2_0 {n : Nat} {w w' : World} (h : Below n w w' := by repeat (first | (with_reducible first | exact HB.out | apply za8 | apply za1 | apply zas | refine zbg ?_ GE105.out) | exact HB.out)) : Below n w w' := h
theorem Yb_PGssKeepsx2_1 {n : Nat} {w w' : World} (h : Below n w w' := by repeat (first | (with_reducible first | exact HB.out | apply za8 | apply za1 | apply zas | refine zbg ?_ GE105.out | refine zbg ?_ GE107.out) | exact HB.out)) : Below n w w' := h
mutual
def zad.l0 : Nat → Int → Int → List (S38) → Option (Bool)
 | 0, _, _, _ => none
 | k + 1, x3, x4, x106000 => if x4 < x3 then (zad.j1 k x3 x4 (decide (x3 ≤ 4096)) x106000) else (zad.j1 k x3 x4 false x106000)
def zad.j1 : Nat → Int → Int → Bool → List (S38) → Option (Bool)
 | 0, _, _, _, _ => none
 | k + 1, x3, x4, x17, x106000 => if x17 = true then (if 0 ≤ x4 then (if x4 < (x106000.length : Int) then ((zay.f ((zaa x106000 x4).f0)).bind fun t108 => (if t108 = true then ((zay.f ((zaa x106000 x4).f1)).bind fun t109 => (if t109 = true then (if x4 > 0 then (if 0 ≤ (wrap64 (x4 - 1)) then (if (wrap64 (x4 - 1)) < (x106000.length : Int) then ((za2.f ((zaa x106000 (wrap64 (x4 - 1))).f0) ((zaa x106000 (wrap64 (x4 - 1))).f1) ((zaa x106000 (wrap64 (x4 - 1))).f2) ((zaa x106000 x4).f0) ((zaa x106000 x4).f1) ((zaa x106000 x4).f2)).bind fun t111 => (zad.j2 k x3 x4 (!t111) x106000 ((zaa x106000 x4).f0) ((zaa x106000 x4).f1) ((zaa x106000 x4).f2))) else (none)) else (none)) else (zad.j2 k x3 x4 false x106000 ((zaa x106000 x4).f0) ((zaa x106000 x4).f1) ((zaa x106000 x4).f2))) else (zad.j2 k x3 x4 true x106000 ((zaa x106000 x4).f0) ((zaa x106000 x4).f1) ((zaa x106000 x4).f2)))) else (zad.j2 k x3 x4 true x106000 ((zaa x106000 x4).f0) ((zaa x106000 x4).f1) ((zaa x106000 x4).f2)))) else (none)) else (none)) else (some (decide (x3 ≤ 4096)))
def zad.j2 : Nat → Int → Int → Bool → List (S38) → Int → Int → List Int → Option (Bool)
 | 0, _, _, _, _, _, _, _ => none
 | k + 1, x3, x4, x49, x106000, x108000, x108001, x108002 => if x49 = true then (some false) else (zad.l1 k x3 x4 0 x106000 x108000 x108001 x108002)
def zad.l1 : Nat → Int → Int → Int → List (S38) → Int → Int → List Int → Option (Bool)
 | 0, _, _, _, _, _, _, _ => none
 | k + 1, x3, x4, x6, x106000, x108000, x108001, x108002 => if x6 < (x108002.length : Int) then (if 0 ≤ x6 then (if (rd x108002 x6) < 0 then (some false) else (if (rd x108002 x6) ≥ x3 then (some false) else (if 0 ≤ (rd x108002 x6) then (if (rd x108002 x6) < (x106000.length : Int) then (if ((zaa x106000 (rd x108002 x6)).f1) > x108001 then (some false) else (if x6 > 0 then (if 0 ≤ (wrap64 (x6 - 1)) then (if (wrap64 (x6 - 1)) < (x108002.length : Int) then (if (rd x108002 (wrap64 (x6 - 1))) ≥ (rd x108002 x6) then (some false) else (zad.l1 k x3 x4 (wrap64 (x6 + 1)) x106000 x108000 x108001 x108002)) else (none)) else (none)) else (zad.l1 k x3 x4 (wrap64 (x6 + 1)) x106000 x108000 x108001 x108002))) else (none)) else (none)))) else (none)) else (zad.l0 k x3 (wrap64 (x4 + 1)) x106000)
end
def zad.f (k : Nat) (l0_0 : List (S38)) : Option (Bool) := zad.l0 k (l0_0.length : Int) 0 l0_0
def zad.T6 : Bool × List (List Nat × List Nat) := (true, [([], []), ([0], [0]), ([1], [1]), ([2], [2]), ([3, 2], [3]), ([4], [4]), ([5, 4], [4, 5]), ([6, 4, 4], [4, 6]), ([7, 4], [4, 7]), ([4, 8], [4, 8]), ([9, 7], [9]), ([10], [10]), ([11, 10], [10, 11]), ([12, 10, 10], [10, 12]), ([13], [13]), ([14, 13], [13, 14]), ([13], [13]), ([16, 13], [13, 16]), ([15, 17, 13], [13, 15, 17]), ([18, 13], [13, 18]), ([13], [13]), ([19, 20, 13, 13], [13, 19, 20]), ([21, 13], [13, 21]), ([13, 22, 10], [10, 13, 22]), ([10, 23], [10, 23])])
def zad.B6 : List Nat := [0, 1, 3, 7, 15, 31, 63, 127, 255, 511, 1023, 2047, 4095, 8191, 16383, 32767, 16383, 81919, 262143, 524287, 16383, 2097151, 4194303, 8388607, 16777215]
theorem zad.tab6 : rtab .any (opsOf Try.f8 6) = zad.T6 := by kernel_rfl
theorem zad.zdw : zcn zad.T6.2 zad.B6 = true := by kernel_rfl
def zad.T12 : Bool × List (List Nat × List Nat) := (true, [([], []), ([0], [0]), ([1], [1]), ([2], [2]), ([2], [2]), ([3, 4, 2], [2, 3, 4]), ([2, 5], [2, 5]), ([6, 2], [6]), ([7], [7]), ([8, 7], [7, 8]), ([7], [7]), ([9, 10, 7], [7, 9, 10]), ([11, 7], [7, 11]), ([12, 7], [7, 12]), ([7], [7]), ([14, 7], [7, 14]), ([13, 15, 7], [7, 13, 15]), ([7, 16], [7, 16]), ([17, 7], [17]), ([18], [18]), ([19, 18], [18, 19]), ([20, 18, 18], [18, 20]), ([21], [21]), ([22, 21], [21, 22]), ([21], [21]), ([24, 21], [21, 24]), ([23, 25, 21], [21, 23, 25]), ([26, 21], [21, 26]), ([21], [21]), ([27, 28, 21], [21, 27, 28]), ([21, 29, 18], [18, 21, 29]), ([18, 30], [18, 30])])
def zad.B12 : List Nat := [0, 1, 3, 7, 7, 31, 63, 127, 255, 511, 255, 2047, 4095, 8191, 255, 16639, 65535, 131071, 262143, 524287, 1048575, 2097151, 4194303, 8388607, 4194303, 20971519, 67108863, 134217727, 4194303, 536870911, 1073741823, 2147483647]
theorem zad.zdk : rtab .any (opsOf Try.f8 12) = zad.T12 := by kernel_rfl
theorem zad.zc4 : zcn zad.T12.2 zad.B12 = true := by kernel_rfl
theorem zad.calls (k : Nat) (A0_0 : Option Addr) (c0_0 : Nat) (l0_0 : List (S38)) (r : Bool) (w : World) (hr0_0 : Kd.C k38 w A0_0 l0_0.length l0_0) (hc0_0 : l0_0.length ≤ c0_0) (h : zad.f k l0_0 = some r) :
  Calls Try.prog 8 #[.agg #[.slice A0_0 l0_0.length c0_0]] w fun e w' => e = .returned (.bool r) ∧ Below w.heap.size w w' := by
 have hu24 := Try.underlying24
 have hu38 := Try.underlying38
 have HR0_0 := zac.mk hr0_0;have HC0_0 := zac.mk hc0_0;clear hr0_0 hc0_0
 have HB := zac.mk (Below.refl w.heap.size w)
 have H : (zad.l0 k (l0_0.length : Int) 0 l0_0) = some r := h
 clear h
 have H' := zac.mk H
 clear H
 go_enter Try.func8, Try.ntmps8
 go_wp2_with (first | ((with_reducible refine zbj (N := 1) rfl ?_); refine Ybx 1 #[.slice A0_0 l0_0.length c0_0] 24 ?_; intro gb105 hg w2 hbox hb; obtain ⟨BK105, GW105, GE105, HB⟩ := Yb4 hbox hg hb Ybe; clear hb hbox hg; obtain ⟨hcz3_0, hfz3_0⟩ := Yc1 BK105.out))
 go_loopg [4] k (fun kq v4 w' => ∃ (x4_1 : Int), v4 = .int .i64 x4_1 ∧ zac (zad.l0 kq (l0_0.length : Int) x4_1 l0_0 = some r) ∧ zac (kq ≤ k) ∧ zac (w'.heap[gb105]? = some (.cells #[(.slice A0_0 l0_0.length c0_0)] 24 (0, 0))) ∧ zac (Below w.heap.size w w'))
 case atStart => exact ⟨(0), Yfs, H', ⟨Nat.le_refl _⟩, ⟨Yg BK105⟩, ⟨Yb_PGssKeepsx2_0⟩⟩
 case round =>
  clear H'
  obtain ⟨x4_1, rfl, HA, HK1, BK105, HB⟩ := hrel
  cases gk with
  | zero => exact absurd HA.out (by simp [zad.l0])
  | succ k1 =>
   have H := HA.out;clear HA
   simp only [zad.l0] at H
   have HC4 := zac.mk H;clear H
   go_upto_region 3 with (fail)
   go_cut [17] (fun v17 wc => ∃ (kq : Nat) (x17_3 : Bool), v17 = .bool x17_3 ∧ zac (zad.j1 kq (l0_0.length : Int) x4_1 x17_3 l0_0 = some r) ∧ zac (kq ≤ k1) ∧ zac (wc.heap[gb105]? = some (.cells #[(.slice A0_0 l0_0.length c0_0)] 24 (0, 0))) ∧ zac (Below w.heap.size w wc))
   case first =>
    have H := HC4.out;clear HC4
    by_cases c5 : x4_1 < (l0_0.length : Int)
    ·rw [if_pos c5] at H
     have c5b0 := decide_eq_true c5
     clear c5
     (first | rw [c5b0] | (simp only [zcj, zcw]; rw [c5b0]) | skip)
     have H' := zac.mk H
     clear H;go_wp2
     go_meet
     case rel => exact ⟨_, (decide ((l0_0.length : Int) ≤ 4096)), Yfs, H', ⟨by have := HK1.out; first | omega | exact Nat.le_refl _⟩, ⟨Yg BK105⟩, ⟨Yb_PGssKeepsx2_0⟩⟩
    ·rw [if_neg c5] at H
     have c5b0 := decide_eq_false c5
     clear c5
     (first | rw [c5b0] | (simp only [zcj, zcw]; rw [c5b0]) | skip)
     have H' := zac.mk H
     clear H;go_wp2
     go_meet
     case rel => exact ⟨_, (false), Yfs, H', ⟨by have := HK1.out; first | omega | exact Nat.le_refl _⟩, ⟨Yg BK105⟩, ⟨Yb_PGssKeepsx2_0⟩⟩
   case rest =>
    clear HC4
    obtain ⟨kq, x17_3, rfl, HA, HJ3, BK105, HB⟩ := hcut
    cases kq with
    | zero => exact absurd HA.out (by simp [zad.j1])
    | succ kj3 =>
     have H := HA.out;clear HA
     simp only [zad.j1] at H
     by_cases c6 : x17_3 = true
     ·subst c6
      have H1 : (if 0 ≤ x4_1 then (if x4_1 < (l0_0.length : Int) then ((zay.f ((zaa l0_0 x4_1).f0)).bind fun t108 => (if t108 = true then ((zay.f ((zaa l0_0 x4_1).f1)).bind fun t109 => (if t109 = true then (if x4_1 > 0 then (if 0 ≤ (wrap64 (x4_1 - 1)) then (if (wrap64 (x4_1 - 1)) < (l0_0.length : Int) then ((za2.f ((zaa l0_0 (wrap64 (x4_1 - 1))).f0) ((zaa l0_0 (wrap64 (x4_1 - 1))).f1) ((zaa l0_0 (wrap64 (x4_1 - 1))).f2) ((zaa l0_0 x4_1).f0) ((zaa l0_0 x4_1).f1) ((zaa l0_0 x4_1).f2)).bind fun t111 => (zad.j2 kj3 (l0_0.length : Int) x4_1 (!t111) l0_0 ((zaa l0_0 x4_1).f0) ((zaa l0_0 x4_1).f1) ((zaa l0_0 x4_1).f2))) else (none)) else (none)) else (zad.j2 kj3 (l0_0.length : Int) x4_1 false l0_0 ((zaa l0_0 x4_1).f0) ((zaa l0_0 x4_1).f1) ((zaa l0_0 x4_1).f2))) else (zad.j2 kj3 (l0_0.length : Int) x4_1 true l0_0 ((zaa l0_0 x4_1).f0) ((zaa l0_0 x4_1).f1) ((zaa l0_0 x4_1).f2)))) else (zad.j2 kj3 (l0_0.length : Int) x4_1 true l0_0 ((zaa l0_0 x4_1).f0) ((zaa l0_0 x4_1).f1) ((zaa l0_0 x4_1).f2)))) else (none)) else (none)) = some r := by rw [if_pos rfl] at H; exact H
      clear H;have H := H1;clear H1
      by_cases c7 : 0 ≤ x4_1
      ·rw [if_pos c7] at H
       have c7b0 := decide_eq_true c7
       clear c7
       by_cases c8 : x4_1 < (l0_0.length : Int)
       ·rw [if_pos c8] at H
        have c8b0 := decide_eq_true c8
        clear c8;have HC9 := zac.mk H;clear H
        obtain ⟨hcz10_0, hfz10_0⟩ := Yc1 BK105.out
        have p106 : 0 ≤ (x4_1 : Int) := Yod
        have q106 : x4_1 < (l0_0.length : Int) := Yod
        obtain ⟨ad106, A106_2, c106_2, e106, hx106_0, hx106_1, hx106_2, hl106_2, hi106_2⟩ := zbx HR0_0.out x4_1 p106 q106
        cases e106
        replace hx106_0 := zaf HB.out hx106_0
        replace hx106_1 := zaf HB.out hx106_1
        replace hx106_2 := zaf HB.out hx106_2
        have HR106_2 := zac.mk hi106_2;have HC106_2 := zac.mk hl106_2;clear hi106_2 hl106_2
        replace p106 := eq_true p106
        replace q106 := eq_true q106
        go_upto_region 6 with (first | ((with_reducible refine zbj (N := 5) rfl ?_); refine Ybx 5 #[.int .i64 0, .int .i64 0, .slice none 0 0] 38 ?_; intro gb107 hg w11 hbox hb; obtain ⟨BK107, GW107, GE107, HB⟩ := Yb4 hbox hg hb Yb_PGssKeepsx2_0; have NB105_107 := Ynl BK105 hg; have NB107_105 := Yng BK105 hg; replace BK105 := Ykb BK105 hb; clear hb hbox hg; have hnb12 := NB107_105.out; have hnc12 := NB105_107.out; obtain ⟨hcz13_0, hfz13_0, hcz13_1, hfz13_1, hcz13_2, hfz13_2⟩ := Yc3 BK107.out))
        (try simp only [Act.put, Y1, Y2, Y3])
        go_cut [49] (fun v49 wc => ∃ (kq : Nat) (x49_8 : Bool), v49 = .bool x49_8 ∧ zac (zad.j2 kq (l0_0.length : Int) x4_1 x49_8 l0_0 ((zaa l0_0 x4_1).f0) ((zaa l0_0 x4_1).f1) ((zaa l0_0 x4_1).f2) = some r) ∧ zac (kq ≤ kj3) ∧ zac (wc.heap[gb105]? = some (.cells #[(.slice (some ad106) l0_0.length c0_0)] 24 (0, 0))) ∧ zac (wc.heap[gb107]? = some (.cells #[.int .i64 ((zaa l0_0 x4_1).f0), .int .i64 ((zaa l0_0 x4_1).f1), (.slice A106_2 ((zaa l0_0 x4_1).f2).length c106_2)] 38 (0, 0))) ∧ zac (Below w.heap.size w wc))
        case first =>
         have H := HC9.out;clear HC9;replace H := Option.bind_eq_some_iff.mp H
         obtain ⟨t108, A140, H⟩ := H
         replace H : (if t108 = true then ((zay.f ((zaa l0_0 x4_1).f1)).bind fun t109 => (if t109 = true then (if x4_1 > 0 then (if 0 ≤ (wrap64 (x4_1 - 1)) then (if (wrap64 (x4_1 - 1)) < (l0_0.length : Int) then ((za2.f ((zaa l0_0 (wrap64 (x4_1 - 1))).f0) ((zaa l0_0 (wrap64 (x4_1 - 1))).f1) ((zaa l0_0 (wrap64 (x4_1 - 1))).f2) ((zaa l0_0 x4_1).f0) ((zaa l0_0 x4_1).f1) ((zaa l0_0 x4_1).f2)).bind fun t111 => (zad.j2 kj3 (l0_0.length : Int) x4_1 (!t111) l0_0 ((zaa l0_0 x4_1).f0) ((zaa l0_0 x4_1).f1) ((zaa l0_0 x4_1).f2))) else (none)) else (none)) else (zad.j2 kj3 (l0_0.length : Int) x4_1 false l0_0 ((zaa l0_0 x4_1).f0) ((zaa l0_0 x4_1).f1) ((zaa l0_0 x4_1).f2))) else (zad.j2 kj3 (l0_0.length : Int) x4_1 true l0_0 ((zaa l0_0 x4_1).f0) ((zaa l0_0 x4_1).f1) ((zaa l0_0 x4_1).f2)))) else (zad.j2 kj3 (l0_0.length : Int) x4_1 true l0_0 ((zaa l0_0 x4_1).f0) ((zaa l0_0 x4_1).f1) ((zaa l0_0 x4_1).f2))) = some r := H
         have A14 := zac.mk A140;clear A140
         by_cases c15 : t108 = true
         ·subst c15
          have H1 : ((zay.f ((zaa l0_0 x4_1).f1)).bind fun t109 => (if t109 = true then (if x4_1 > 0 then (if 0 ≤ (wrap64 (x4_1 - 1)) then (if (wrap64 (x4_1 - 1)) < (l0_0.length : Int) then ((za2.f ((zaa l0_0 (wrap64 (x4_1 - 1))).f0) ((zaa l0_0 (wrap64 (x4_1 - 1))).f1) ((zaa l0_0 (wrap64 (x4_1 - 1))).f2) ((zaa l0_0 x4_1).f0) ((zaa l0_0 x4_1).f1) ((zaa l0_0 x4_1).f2)).bind fun t111 => (zad.j2 kj3 (l0_0.length : Int) x4_1 (!t111) l0_0 ((zaa l0_0 x4_1).f0) ((zaa l0_0 x4_1).f1) ((zaa l0_0 x4_1).f2))) else (none)) else (none)) else (zad.j2 kj3 (l0_0.length : Int) x4_1 false l0_0 ((zaa l0_0 x4_1).f0) ((zaa l0_0 x4_1).f1) ((zaa l0_0 x4_1).f2))) else (zad.j2 kj3 (l0_0.length : Int) x4_1 true l0_0 ((zaa l0_0 x4_1).f0) ((zaa l0_0 x4_1).f1) ((zaa l0_0 x4_1).f2)))) = some r := by rw [if_pos rfl] at H; exact H
          clear H;have H := H1;clear H1;replace H := Option.bind_eq_some_iff.mp H
          obtain ⟨t109, A160, H⟩ := H
          replace H : (if t109 = true then (if x4_1 > 0 then (if 0 ≤ (wrap64 (x4_1 - 1)) then (if (wrap64 (x4_1 - 1)) < (l0_0.length : Int) then ((za2.f ((zaa l0_0 (wrap64 (x4_1 - 1))).f0) ((zaa l0_0 (wrap64 (x4_1 - 1))).f1) ((zaa l0_0 (wrap64 (x4_1 - 1))).f2) ((zaa l0_0 x4_1).f0) ((zaa l0_0 x4_1).f1) ((zaa l0_0 x4_1).f2)).bind fun t111 => (zad.j2 kj3 (l0_0.length : Int) x4_1 (!t111) l0_0 ((zaa l0_0 x4_1).f0) ((zaa l0_0 x4_1).f1) ((zaa l0_0 x4_1).f2))) else (none)) else (none)) else (zad.j2 kj3 (l0_0.length : Int) x4_1 false l0_0 ((zaa l0_0 x4_1).f0) ((zaa l0_0 x4_1).f1) ((zaa l0_0 x4_1).f2))) else (zad.j2 kj3 (l0_0.length : Int) x4_1 true l0_0 ((zaa l0_0 x4_1).f0) ((zaa l0_0 x4_1).f1) ((zaa l0_0 x4_1).f2))) = some r := H
          have A16 := zac.mk A160;clear A160
          by_cases c17 : t109 = true
          ·subst c17
           have H1 : (if x4_1 > 0 then (if 0 ≤ (wrap64 (x4_1 - 1)) then (if (wrap64 (x4_1 - 1)) < (l0_0.length : Int) then ((za2.f ((zaa l0_0 (wrap64 (x4_1 - 1))).f0) ((zaa l0_0 (wrap64 (x4_1 - 1))).f1) ((zaa l0_0 (wrap64 (x4_1 - 1))).f2) ((zaa l0_0 x4_1).f0) ((zaa l0_0 x4_1).f1) ((zaa l0_0 x4_1).f2)).bind fun t111 => (zad.j2 kj3 (l0_0.length : Int) x4_1 (!t111) l0_0 ((zaa l0_0 x4_1).f0) ((zaa l0_0 x4_1).f1) ((zaa l0_0 x4_1).f2))) else (none)) else (none)) else (zad.j2 kj3 (l0_0.length : Int) x4_1 false l0_0 ((zaa l0_0 x4_1).f0) ((zaa l0_0 x4_1).f1) ((zaa l0_0 x4_1).f2))) = some r := by rw [if_pos rfl] at H; exact H
           clear H;have H := H1;clear H1
           by_cases c18 : x4_1 > 0
           ·rw [if_pos c18] at H
            have c18b0 := decide_eq_true c18
            clear c18
            (first | rw [c18b0] | (simp only [zcj, zcw]; rw [c18b0]) | skip)
            obtain ⟨ji19, hji19⟩ : ∃ j_ : Int, (wrap64 (x4_1 - 1)) = j_ := ⟨_, rfl⟩
            replace H : (if 0 ≤ (ji19) then (if (ji19) < (l0_0.length : Int) then ((za2.f ((zaa l0_0 (ji19)).f0) ((zaa l0_0 (ji19)).f1) ((zaa l0_0 (ji19)).f2) ((zaa l0_0 x4_1).f0) ((zaa l0_0 x4_1).f1) ((zaa l0_0 x4_1).f2)).bind fun t111 => (zad.j2 kj3 (l0_0.length : Int) x4_1 (!t111) l0_0 ((zaa l0_0 x4_1).f0) ((zaa l0_0 x4_1).f1) ((zaa l0_0 x4_1).f2))) else (none)) else (none)) = some r := by first | (rw [hji19] at H; exact H) | (simp only [hji19] at H ⊢; exact H)
            (try rw [hji19] at A14)
            (try rw [hji19] at A16)
            have hji19w : (IntKind.i64.wrap (x4_1 - 1)) = ji19 := (zcj _).trans hji19
            by_cases c20 : 0 ≤ (ji19)
            ·rw [if_pos c20] at H
             have c20b0 := decide_eq_true c20
             clear c20
             by_cases c21 : (ji19) < (l0_0.length : Int)
             ·rw [if_pos c21] at H
              have c21b0 := decide_eq_true c21
              clear c21;replace H := Option.bind_eq_some_iff.mp H
              obtain ⟨t111, A220, H⟩ := H
              replace H : (zad.j2 kj3 (l0_0.length : Int) x4_1 (!t111) l0_0 ((zaa l0_0 x4_1).f0) ((zaa l0_0 x4_1).f1) ((zaa l0_0 x4_1).f2)) = some r := H
              have A22 := zac.mk A220;clear A220
              have H' := zac.mk H
              clear H
              try go_wp2
              have n0_ : zac ((((w11.setCell ⟨gb107, 0, none⟩ (.int .i64 ((zaa l0_0 x4_1).f0))).setCell ⟨gb107, 1, none⟩ (.int .i64 ((zaa l0_0 x4_1).f1))).setCell ⟨gb107, 2, none⟩ (.slice A106_2 ((zaa l0_0 x4_1).f2).length c106_2)).heap[gb105]? = some (.cells #[.slice (some ad106) l0_0.length c0_0] 24 (0, 0))) := ⟨by (with_reducible repeat (first | refine zaj ?_ _ | refine zah ?_ | refine zai ?_ _)); refine zbb ?_ NB105_107.out _; (with_reducible repeat (first | refine zaj ?_ _ | refine zah ?_ | refine zai ?_ _)); refine zbb ?_ NB105_107.out _; (with_reducible repeat (first | refine zaj ?_ _ | refine zah ?_ | refine zai ?_ _)); refine zbb ?_ NB105_107.out _; (with_reducible repeat (first | refine zaj ?_ _ | refine zah ?_ | refine zai ?_ _)); exact BK105.out⟩
              have n1_ : zac ((((w11.setCell ⟨gb107, 0, none⟩ (.int .i64 ((zaa l0_0 x4_1).f0))).setCell ⟨gb107, 1, none⟩ (.int .i64 ((zaa l0_0 x4_1).f1))).setCell ⟨gb107, 2, none⟩ (.slice A106_2 ((zaa l0_0 x4_1).f2).length c106_2)).heap[gb107]? = some (.cells #[.int .i64 ((zaa l0_0 x4_1).f0), .int .i64 ((zaa l0_0 x4_1).f1), .slice A106_2 ((zaa l0_0 x4_1).f2).length c106_2] 38 (0, 0))) := ⟨by (with_reducible repeat (first | refine zaj ?_ _ | refine zah ?_ | refine zai ?_ _)); refine za4 (cs := #[.int .i64 ((zaa l0_0 x4_1).f0), .int .i64 ((zaa l0_0 x4_1).f1), .slice none 0 0]) ?_ 2 _ rfl; (with_reducible repeat (first | refine zaj ?_ _ | refine zah ?_ | refine zai ?_ _)); refine za4 (cs := #[.int .i64 ((zaa l0_0 x4_1).f0), .int .i64 0, .slice none 0 0]) ?_ 1 _ rfl; (with_reducible repeat (first | refine zaj ?_ _ | refine zah ?_ | refine zai ?_ _)); refine za4 (cs := #[.int .i64 0, .int .i64 0, .slice none 0 0]) ?_ 0 _ rfl; (with_reducible repeat (first | refine zaj ?_ _ | refine zah ?_ | refine zai ?_ _)); exact BK107.out⟩
              have n2_ : zac (Below w.heap.size w (((w11.setCell ⟨gb107, 0, none⟩ (.int .i64 ((zaa l0_0 x4_1).f0))).setCell ⟨gb107, 1, none⟩ (.int .i64 ((zaa l0_0 x4_1).f1))).setCell ⟨gb107, 2, none⟩ (.slice A106_2 ((zaa l0_0 x4_1).f2).length c106_2))) := ⟨Yb_PGssKeepsx2_1⟩
              (try clear BK105)
              (try clear BK107)
              (try clear HB)
              generalize (((w11.setCell ⟨gb107, 0, none⟩ (.int .i64 ((zaa l0_0 x4_1).f0))).setCell ⟨gb107, 1, none⟩ (.int .i64 ((zaa l0_0 x4_1).f1))).setCell ⟨gb107, 2, none⟩ (.slice A106_2 ((zaa l0_0 x4_1).f2).length c106_2)) = w23 at n0_ n1_ n2_ ⊢
              have BK105 := n0_;have BK107 := n1_;have HB := n2_;clear n0_ n1_ n2_
              replace BK105 := zac.mk (zah BK105.out)
              replace BK107 := zac.mk (zah BK107.out)
              replace HB := zac.mk (zas HB.out)
              have p110 : 0 ≤ ((ji19) : Int) := Yod
              have q110 : (ji19) < (l0_0.length : Int) := Yod
              obtain ⟨ad110, A110_2, c110_2, e110, hx110_0, hx110_1, hx110_2, hl110_2, hi110_2⟩ := zbx HR0_0.out (ji19) p110 q110
              have hw110_2 := hx110_2;have hw110_1 := hx110_1;have hw110_0 := hx110_0
              obtain rfl : ad106 = ad110 := (by injection e110)
              replace hx110_0 := zaf HB.out hx110_0
              replace hx110_1 := zaf HB.out hx110_1
              replace hx110_2 := zaf HB.out hx110_2
              have HR110_2 := zac.mk hi110_2;have HC110_2 := zac.mk hl110_2;clear hi110_2 hl110_2
              replace p110 := eq_true p110
              replace q110 := eq_true q110
              refine zbd (n := 25) (S := fun w' => w'.cell? ⟨gb107, 0, none⟩ = some (.int .i64 ((zaa l0_0 x4_1).f0)) ∧ w'.cell? ⟨gb107, 1, none⟩ = some (.int .i64 ((zaa l0_0 x4_1).f1)) ∧ w'.cell? ⟨gb107, 2, none⟩ = some (.slice A106_2 ((zaa l0_0 x4_1).f2).length c106_2) ∧ w'.cell? ⟨gb105, 0, none⟩ = some (.slice (some ad106) l0_0.length c0_0) ∧ w'.cell? (ad106.add (((ji19)).toNat * 3)) = some (.int .i64 ((zaa l0_0 (ji19)).f0)) ∧ w'.cell? ⟨(ad106.add (((ji19)).toNat * 3)).block, (ad106.add (((ji19)).toNat * 3)).off + 1, none⟩ = some (.int .i64 ((zaa l0_0 (ji19)).f1)) ∧ w'.cell? ⟨(ad106.add (((ji19)).toNat * 3)).block, (ad106.add (((ji19)).toNat * 3)).off + 2, none⟩ = some (.slice A110_2 ((zaa l0_0 (ji19)).f2).length c110_2)) (ds := []) (Ymk 25 0) (by kernel_rfl) rfl rfl ⟨(zae BK107.out 0).trans rfl, (zae BK107.out 1).trans rfl, (zae BK107.out 2).trans rfl, (zae BK105.out 0).trans rfl, ((HB.out.cell (World.block_lt_of_cell? w _ hw110_0)).trans hw110_0), ((HB.out.cell (World.block_lt_of_cell? w _ hw110_1)).trans hw110_1), ((HB.out.cell (World.block_lt_of_cell? w _ hw110_2)).trans hw110_2)⟩ (fun hHeld => ?_); refine za9 zad.tab6 zad.zdw (fun HT_ HW_ => ?_)
              generalize w23.drew = w24 at BK105 BK107 HB HR110_2 hx110_0 hx110_1 hx110_2 hHeld ⊢
              refine Ypt 0 25 25 1 HT_ ?_
              refine Ytt 1 26 25 3 HT_ HW_ hHeld ?_
              refine Yot 2 27 25 7 HT_ (fun K hK => ?_)
              refine Ygs Try.func30 #[.int .i64 ((zaa l0_0 x4_1).f0)] ?_
              with_reducible refine (zay.calls ((zaa l0_0 x4_1).f0) true _ A14.out).mono ?_
              rintro e w' ⟨rfl, ⟨nd, rfl⟩⟩
              refine ⟨_, rfl, ?_⟩
              refine hK.out _ _ ⟨(zae BK107.out 0).trans rfl, (zae BK107.out 1).trans rfl, (zae BK107.out 2).trans rfl, (zae BK105.out 0).trans rfl, ((HB.out.cell (World.block_lt_of_cell? w _ hw110_0)).trans hw110_0), ((HB.out.cell (World.block_lt_of_cell? w _ hw110_1)).trans hw110_1), ((HB.out.cell (World.block_lt_of_cell? w _ hw110_2)).trans hw110_2)⟩ (fun hHeld => ?_)
              clear hK K
              refine Ynw 27 ?_
              refine Ypt 3 28 25 15 HT_ ?_
              refine Ypt 4 29 25 31 HT_ ?_
              refine Ypt 5 30 25 63 HT_ ?_
              refine Ytt 6 31 25 127 HT_ HW_ hHeld ?_
              refine Yot 7 32 25 255 HT_ (fun K hK => ?_)
              refine Ygs Try.func30 #[.int .i64 ((zaa l0_0 x4_1).f1)] ?_
              with_reducible refine (zay.calls ((zaa l0_0 x4_1).f1) true _ A16.out).mono ?_
              rintro e w' ⟨rfl, ⟨nd, rfl⟩⟩
              refine ⟨_, rfl, ?_⟩
              refine hK.out _ _ ⟨(zae BK107.out 0).trans rfl, (zae BK107.out 1).trans rfl, (zae BK107.out 2).trans rfl, (zae BK105.out 0).trans rfl, ((HB.out.cell (World.block_lt_of_cell? w _ hw110_0)).trans hw110_0), ((HB.out.cell (World.block_lt_of_cell? w _ hw110_1)).trans hw110_1), ((HB.out.cell (World.block_lt_of_cell? w _ hw110_2)).trans hw110_2)⟩ (fun hHeld => ?_)
              clear hK K
              refine Ynw 32 ?_
              refine Ypt 8 33 25 511 HT_ ?_
              refine Ypt 9 34 25 1023 HT_ ?_
              refine Ypt 10 35 25 2047 HT_ ?_
              refine Ypt 11 36 25 4095 HT_ ?_
              refine Ypt 12 37 25 8191 HT_ ?_
              refine Ypt 13 38 25 16383 HT_ ?_
              refine Ypt 14 39 25 32767 HT_ ?_
              refine Ypt 16 41 25 98303 HT_ ?_
              refine Ypt 17 42 25 229375 HT_ ?_
              refine Ytt 15 40 25 262143 HT_ HW_ hHeld ?_
              refine Ypt 18 43 25 524287 HT_ ?_
              refine Ytt 19 44 25 1048575 HT_ HW_ hHeld ?_
              refine Ytt 20 45 25 2097151 HT_ HW_ hHeld ?_
              refine Yot 21 46 25 4194303 HT_ (fun K hK => ?_)
              refine goes_ Try.func31 (by kernel_rfl) rfl #[.agg #[.int .i64 ((zaa l0_0 (ji19)).f0), .int .i64 ((zaa l0_0 (ji19)).f1), .slice A110_2 ((zaa l0_0 (ji19)).f2).length c110_2], .agg #[.int .i64 ((zaa l0_0 x4_1).f0), .int .i64 ((zaa l0_0 x4_1).f1), .slice A106_2 ((zaa l0_0 x4_1).f2).length c106_2]] (by rfl) rfl rfl (by (try simp only [List.map_toArray, List.map_cons, List.map_nil]); first | done | (simp only [hji19]; rfl) | rfl | (simp only [List.length_drop, List.length_take]; rfl)) ?_
              with_reducible refine (za2.calls ((zaa l0_0 (ji19)).f0) ((zaa l0_0 (ji19)).f1) _ _ ((zaa l0_0 (ji19)).f2) ((zaa l0_0 x4_1).f0) ((zaa l0_0 x4_1).f1) _ _ ((zaa l0_0 x4_1).f2) t111 _ (Kd.zaz HR110_2.out Yb_PGssKeepsx2_1) HC110_2.out (Kd.zaz HR106_2.out Yb_PGssKeepsx2_1) HC106_2.out A22.out).mono ?_
              rintro e w25 ⟨rfl, hb⟩
              refine ⟨_, rfl, ?_⟩
              replace BK105 := Ykb BK105 hb
              replace BK107 := Ykb BK107 hb
              replace HB := zac.mk (za5 Yb_PGssKeepsx2_1 hb)
              (try clear hb)
              (try clear hb2)
              (try clear hk)
              (try clear hi)
              refine hK.out _ _ ⟨(zae BK107.out 0).trans rfl, (zae BK107.out 1).trans rfl, (zae BK107.out 2).trans rfl, (zae BK105.out 0).trans rfl, ((HB.out.cell (World.block_lt_of_cell? w _ hw110_0)).trans hw110_0), ((HB.out.cell (World.block_lt_of_cell? w _ hw110_1)).trans hw110_1), ((HB.out.cell (World.block_lt_of_cell? w _ hw110_2)).trans hw110_2)⟩ (fun hHeld => ?_)
              clear hK K
              refine Ynw 46 ?_
              refine Ypt 22 47 25 8388607 HT_ ?_
              refine Ypt 23 48 25 16777215 HT_ ?_
              refine Ypt 24 49 25 33554431 HT_ ?_
              refine zbo (zbl HT_.out (by kernel_rfl)) ?_
              try go_wp2
              go_meet
              case rel => exact ⟨_, (!t111), Yfs, H', ⟨by have := HK1.out; have := HJ3.out; first | omega | exact Nat.le_refl _⟩, ⟨Yg BK105⟩, ⟨Yg BK107⟩, ⟨Yb_PGssKeepsx2_1⟩⟩
             ·rw [if_neg c21] at H
              exact absurd H (by simp)
            ·rw [if_neg c20] at H
             exact absurd H (by simp)
           ·rw [if_neg c18] at H
            have c18b0 := decide_eq_false c18
            clear c18
            (first | rw [c18b0] | (simp only [zcj, zcw]; rw [c18b0]) | skip)
            have H' := zac.mk H
            clear H
            try go_wp2
            have n0_ : zac ((((w11.setCell ⟨gb107, 0, none⟩ (.int .i64 ((zaa l0_0 x4_1).f0))).setCell ⟨gb107, 1, none⟩ (.int .i64 ((zaa l0_0 x4_1).f1))).setCell ⟨gb107, 2, none⟩ (.slice A106_2 ((zaa l0_0 x4_1).f2).length c106_2)).heap[gb105]? = some (.cells #[.slice (some ad106) l0_0.length c0_0] 24 (0, 0))) := ⟨by (with_reducible repeat (first | refine zaj ?_ _ | refine zah ?_ | refine zai ?_ _)); refine zbb ?_ NB105_107.out _; (with_reducible repeat (first | refine zaj ?_ _ | refine zah ?_ | refine zai ?_ _)); refine zbb ?_ NB105_107.out _; (with_reducible repeat (first | refine zaj ?_ _ | refine zah ?_ | refine zai ?_ _)); refine zbb ?_ NB105_107.out _; (with_reducible repeat (first | refine zaj ?_ _ | refine zah ?_ | refine zai ?_ _)); exact BK105.out⟩
            have n1_ : zac ((((w11.setCell ⟨gb107, 0, none⟩ (.int .i64 ((zaa l0_0 x4_1).f0))).setCell ⟨gb107, 1, none⟩ (.int .i64 ((zaa l0_0 x4_1).f1))).setCell ⟨gb107, 2, none⟩ (.slice A106_2 ((zaa l0_0 x4_1).f2).length c106_2)).heap[gb107]? = some (.cells #[.int .i64 ((zaa l0_0 x4_1).f0), .int .i64 ((zaa l0_0 x4_1).f1), .slice A106_2 ((zaa l0_0 x4_1).f2).length c106_2] 38 (0, 0))) := ⟨by (with_reducible repeat (first | refine zaj ?_ _ | refine zah ?_ | refine zai ?_ _)); refine za4 (cs := #[.int .i64 ((zaa l0_0 x4_1).f0), .int .i64 ((zaa l0_0 x4_1).f1), .slice none 0 0]) ?_ 2 _ rfl; (with_reducible repeat (first | refine zaj ?_ _ | refine zah ?_ | refine zai ?_ _)); refine za4 (cs := #[.int .i64 ((zaa l0_0 x4_1).f0), .int .i64 0, .slice none 0 0]) ?_ 1 _ rfl; (with_reducible repeat (first | refine zaj ?_ _ | refine zah ?_ | refine zai ?_ _)); refine za4 (cs := #[.int .i64 0, .int .i64 0, .slice none 0 0]) ?_ 0 _ rfl; (with_reducible repeat (first | refine zaj ?_ _ | refine zah ?_ | refine zai ?_ _)); exact BK107.out⟩
            have n2_ : zac (Below w.heap.size w (((w11.setCell ⟨gb107, 0, none⟩ (.int .i64 ((zaa l0_0 x4_1).f0))).setCell ⟨gb107, 1, none⟩ (.int .i64 ((zaa l0_0 x4_1).f1))).setCell ⟨gb107, 2, none⟩ (.slice A106_2 ((zaa l0_0 x4_1).f2).length c106_2))) := ⟨Yb_PGssKeepsx2_1⟩
            (try clear BK105)
            (try clear BK107)
            (try clear HB)
            generalize (((w11.setCell ⟨gb107, 0, none⟩ (.int .i64 ((zaa l0_0 x4_1).f0))).setCell ⟨gb107, 1, none⟩ (.int .i64 ((zaa l0_0 x4_1).f1))).setCell ⟨gb107, 2, none⟩ (.slice A106_2 ((zaa l0_0 x4_1).f2).length c106_2)) = w26 at n0_ n1_ n2_ ⊢
            have BK105 := n0_;have BK107 := n1_;have HB := n2_;clear n0_ n1_ n2_
            replace BK105 := zac.mk (zah BK105.out)
            replace BK107 := zac.mk (zah BK107.out)
            replace HB := zac.mk (zas HB.out)
            refine zbd (n := 25) (S := fun w' => w'.cell? ⟨gb107, 0, none⟩ = some (.int .i64 ((zaa l0_0 x4_1).f0)) ∧ w'.cell? ⟨gb107, 1, none⟩ = some (.int .i64 ((zaa l0_0 x4_1).f1)) ∧ w'.cell? ⟨gb107, 2, none⟩ = some (.slice A106_2 ((zaa l0_0 x4_1).f2).length c106_2)) (ds := []) (Ymk 25 0) (by kernel_rfl) rfl rfl ⟨(zae BK107.out 0).trans rfl, (zae BK107.out 1).trans rfl, (zae BK107.out 2).trans rfl⟩ (fun hHeld => ?_); refine za9 zad.tab6 zad.zdw (fun HT_ HW_ => ?_)
            generalize w26.drew = w27 at BK105 BK107 HB hHeld ⊢
            refine Ypt 0 25 25 1 HT_ ?_
            refine Ytt 1 26 25 3 HT_ HW_ hHeld ?_
            refine Yot 2 27 25 7 HT_ (fun K hK => ?_)
            refine Ygs Try.func30 #[.int .i64 ((zaa l0_0 x4_1).f0)] ?_
            with_reducible refine (zay.calls ((zaa l0_0 x4_1).f0) true _ A14.out).mono ?_
            rintro e w' ⟨rfl, ⟨nd, rfl⟩⟩
            refine ⟨_, rfl, ?_⟩
            refine hK.out _ _ ⟨(zae BK107.out 0).trans rfl, (zae BK107.out 1).trans rfl, (zae BK107.out 2).trans rfl⟩ (fun hHeld => ?_)
            clear hK K
            refine Ynw 27 ?_
            refine Ypt 3 28 25 15 HT_ ?_
            refine Ypt 4 29 25 31 HT_ ?_
            refine Ypt 5 30 25 63 HT_ ?_
            refine Ytt 6 31 25 127 HT_ HW_ hHeld ?_
            refine Yot 7 32 25 255 HT_ (fun K hK => ?_)
            refine Ygs Try.func30 #[.int .i64 ((zaa l0_0 x4_1).f1)] ?_
            with_reducible refine (zay.calls ((zaa l0_0 x4_1).f1) true _ A16.out).mono ?_
            rintro e w' ⟨rfl, ⟨nd, rfl⟩⟩
            refine ⟨_, rfl, ?_⟩
            refine hK.out _ _ ⟨(zae BK107.out 0).trans rfl, (zae BK107.out 1).trans rfl, (zae BK107.out 2).trans rfl⟩ (fun hHeld => ?_)
            clear hK K
            refine Ynw 32 ?_
            refine Ypt 8 33 25 511 HT_ ?_
            refine Ypt 9 34 25 1023 HT_ ?_
            refine Ypt 10 35 25 2047 HT_ ?_
            refine Ypt 11 36 25 4095 HT_ ?_
            refine Ypt 12 37 25 8191 HT_ ?_
            refine Ypt 13 38 25 16383 HT_ ?_
            refine Ypu 14 39 25 32767 HT_ ?_
            refine Ypu 15 40 25 65535 HT_ ?_
            refine Ypu 16 41 25 131071 HT_ ?_
            refine Ypu 17 42 25 262143 HT_ ?_
            refine Ypu 18 43 25 524287 HT_ ?_
            refine Ypu 19 44 25 1048575 HT_ ?_
            refine Ypu 20 45 25 2097151 HT_ ?_
            refine Ypu 21 46 25 4194303 HT_ ?_
            refine Ypu 22 47 25 8388607 HT_ ?_
            refine Ypt 23 48 25 16777215 HT_ ?_
            refine Ypt 24 49 25 33554431 HT_ ?_
            refine zbo (zbl HT_.out (by kernel_rfl)) ?_
            try go_wp2
            go_meet
            case rel => exact ⟨_, (false), Yfs, H', ⟨by have := HK1.out; have := HJ3.out; first | omega | exact Nat.le_refl _⟩, ⟨Yg BK105⟩, ⟨Yg BK107⟩, ⟨Yb_PGssKeepsx2_1⟩⟩
          ·replace c17 := Bool.eq_false_iff.mpr c17
           subst c17
           have H1 : (zad.j2 kj3 (l0_0.length : Int) x4_1 true l0_0 ((zaa l0_0 x4_1).f0) ((zaa l0_0 x4_1).f1) ((zaa l0_0 x4_1).f2)) = some r := by rw [if_neg (show ¬ (false = true) by decide)] at H; exact H
           clear H;have H := H1;clear H1
           have H' := zac.mk H
           clear H
           try go_wp2
           have n0_ : zac ((((w11.setCell ⟨gb107, 0, none⟩ (.int .i64 ((zaa l0_0 x4_1).f0))).setCell ⟨gb107, 1, none⟩ (.int .i64 ((zaa l0_0 x4_1).f1))).setCell ⟨gb107, 2, none⟩ (.slice A106_2 ((zaa l0_0 x4_1).f2).length c106_2)).heap[gb105]? = some (.cells #[.slice (some ad106) l0_0.length c0_0] 24 (0, 0))) := ⟨by (with_reducible repeat (first | refine zaj ?_ _ | refine zah ?_ | refine zai ?_ _)); refine zbb ?_ NB105_107.out _; (with_reducible repeat (first | refine zaj ?_ _ | refine zah ?_ | refine zai ?_ _)); refine zbb ?_ NB105_107.out _; (with_reducible repeat (first | refine zaj ?_ _ | refine zah ?_ | refine zai ?_ _)); refine zbb ?_ NB105_107.out _; (with_reducible repeat (first | refine zaj ?_ _ | refine zah ?_ | refine zai ?_ _)); exact BK105.out⟩
           have n1_ : zac ((((w11.setCell ⟨gb107, 0, none⟩ (.int .i64 ((zaa l0_0 x4_1).f0))).setCell ⟨gb107, 1, none⟩ (.int .i64 ((zaa l0_0 x4_1).f1))).setCell ⟨gb107, 2, none⟩ (.slice A106_2 ((zaa l0_0 x4_1).f2).length c106_2)).heap[gb107]? = some (.cells #[.int .i64 ((zaa l0_0 x4_1).f0), .int .i64 ((zaa l0_0 x4_1).f1), .slice A106_2 ((zaa l0_0 x4_1).f2).length c106_2] 38 (0, 0))) := ⟨by (with_reducible repeat (first | refine zaj ?_ _ | refine zah ?_ | refine zai ?_ _)); refine za4 (cs := #[.int .i64 ((zaa l0_0 x4_1).f0), .int .i64 ((zaa l0_0 x4_1).f1), .slice none 0 0]) ?_ 2 _ rfl; (with_reducible repeat (first | refine zaj ?_ _ | refine zah ?_ | refine zai ?_ _)); refine za4 (cs := #[.int .i64 ((zaa l0_0 x4_1).f0), .int .i64 0, .slice none 0 0]) ?_ 1 _ rfl; (with_reducible repeat (first | refine zaj ?_ _ | refine zah ?_ | refine zai ?_ _)); refine za4 (cs := #[.int .i64 0, .int .i64 0, .slice none 0 0]) ?_ 0 _ rfl; (with_reducible repeat (first | refine zaj ?_ _ | refine zah ?_ | refine zai ?_ _)); exact BK107.out⟩
           have n2_ : zac (Below w.heap.size w (((w11.setCell ⟨gb107, 0, none⟩ (.int .i64 ((zaa l0_0 x4_1).f0))).setCell ⟨gb107, 1, none⟩ (.int .i64 ((zaa l0_0 x4_1).f1))).setCell ⟨gb107, 2, none⟩ (.slice A106_2 ((zaa l0_0 x4_1).f2).length c106_2))) := ⟨Yb_PGssKeepsx2_1⟩
           (try clear BK105)
           (try clear BK107)
           (try clear HB)
           generalize (((w11.setCell ⟨gb107, 0, none⟩ (.int .i64 ((zaa l0_0 x4_1).f0))).setCell ⟨gb107, 1, none⟩ (.int .i64 ((zaa l0_0 x4_1).f1))).setCell ⟨gb107, 2, none⟩ (.slice A106_2 ((zaa l0_0 x4_1).f2).length c106_2)) = w28 at n0_ n1_ n2_ ⊢
           have BK105 := n0_;have BK107 := n1_;have HB := n2_;clear n0_ n1_ n2_
           replace BK105 := zac.mk (zah BK105.out)
           replace BK107 := zac.mk (zah BK107.out)
           replace HB := zac.mk (zas HB.out)
           refine zbd (n := 25) (S := fun w' => w'.cell? ⟨gb107, 0, none⟩ = some (.int .i64 ((zaa l0_0 x4_1).f0)) ∧ w'.cell? ⟨gb107, 1, none⟩ = some (.int .i64 ((zaa l0_0 x4_1).f1)) ∧ w'.cell? ⟨gb107, 2, none⟩ = some (.slice A106_2 ((zaa l0_0 x4_1).f2).length c106_2)) (ds := []) (Ymk 25 0) (by kernel_rfl) rfl rfl ⟨(zae BK107.out 0).trans rfl, (zae BK107.out 1).trans rfl, (zae BK107.out 2).trans rfl⟩ (fun hHeld => ?_); refine za9 zad.tab6 zad.zdw (fun HT_ HW_ => ?_)
           generalize w28.drew = w29 at BK105 BK107 HB hHeld ⊢
           refine Ypt 0 25 25 1 HT_ ?_
           refine Ytt 1 26 25 3 HT_ HW_ hHeld ?_
           refine Yot 2 27 25 7 HT_ (fun K hK => ?_)
           refine Ygs Try.func30 #[.int .i64 ((zaa l0_0 x4_1).f0)] ?_
           with_reducible refine (zay.calls ((zaa l0_0 x4_1).f0) true _ A14.out).mono ?_
           rintro e w' ⟨rfl, ⟨nd, rfl⟩⟩
           refine ⟨_, rfl, ?_⟩
           refine hK.out _ _ ⟨(zae BK107.out 0).trans rfl, (zae BK107.out 1).trans rfl, (zae BK107.out 2).trans rfl⟩ (fun hHeld => ?_)
           clear hK K
           refine Ynw 27 ?_
           refine Ypt 3 28 25 15 HT_ ?_
           refine Ypt 4 29 25 31 HT_ ?_
           refine Ypt 5 30 25 63 HT_ ?_
           refine Ytt 6 31 25 127 HT_ HW_ hHeld ?_
           refine Yot 7 32 25 255 HT_ (fun K hK => ?_)
           refine Ygs Try.func30 #[.int .i64 ((zaa l0_0 x4_1).f1)] ?_
           with_reducible refine (zay.calls ((zaa l0_0 x4_1).f1) false _ A16.out).mono ?_
           rintro e w' ⟨rfl, ⟨nd, rfl⟩⟩
           refine ⟨_, rfl, ?_⟩
           refine hK.out _ _ ⟨(zae BK107.out 0).trans rfl, (zae BK107.out 1).trans rfl, (zae BK107.out 2).trans rfl⟩ (fun hHeld => ?_)
           clear hK K
           refine Ynw 32 ?_
           refine Ypt 8 33 25 511 HT_ ?_
           refine Ypt 9 34 25 1023 HT_ ?_
           refine Ypt 10 35 25 2047 HT_ ?_
           refine Ypu 11 36 25 4095 HT_ ?_
           refine Ypu 12 37 25 8191 HT_ ?_
           refine Ypu 13 38 25 16383 HT_ ?_
           refine Ypu 14 39 25 32767 HT_ ?_
           refine Ypu 15 40 25 65535 HT_ ?_
           refine Ypu 16 41 25 131071 HT_ ?_
           refine Ypu 17 42 25 262143 HT_ ?_
           refine Ypu 18 43 25 524287 HT_ ?_
           refine Ypu 19 44 25 1048575 HT_ ?_
           refine Ypu 20 45 25 2097151 HT_ ?_
           refine Ypu 21 46 25 4194303 HT_ ?_
           refine Ypu 22 47 25 8388607 HT_ ?_
           refine Ypu 23 48 25 16777215 HT_ ?_
           refine Ypt 24 49 25 33554431 HT_ ?_
           refine zbo (zbl HT_.out (by kernel_rfl)) ?_
           try go_wp2
           go_meet
           case rel => exact ⟨_, (true), Yfs, H', ⟨by have := HK1.out; have := HJ3.out; first | omega | exact Nat.le_refl _⟩, ⟨Yg BK105⟩, ⟨Yg BK107⟩, ⟨Yb_PGssKeepsx2_1⟩⟩
         ·replace c15 := Bool.eq_false_iff.mpr c15
          subst c15
          have H1 : (zad.j2 kj3 (l0_0.length : Int) x4_1 true l0_0 ((zaa l0_0 x4_1).f0) ((zaa l0_0 x4_1).f1) ((zaa l0_0 x4_1).f2)) = some r := by rw [if_neg (show ¬ (false = true) by decide)] at H; exact H
          clear H;have H := H1;clear H1
          have H' := zac.mk H
          clear H
          try go_wp2
          have n0_ : zac ((((w11.setCell ⟨gb107, 0, none⟩ (.int .i64 ((zaa l0_0 x4_1).f0))).setCell ⟨gb107, 1, none⟩ (.int .i64 ((zaa l0_0 x4_1).f1))).setCell ⟨gb107, 2, none⟩ (.slice A106_2 ((zaa l0_0 x4_1).f2).length c106_2)).heap[gb105]? = some (.cells #[.slice (some ad106) l0_0.length c0_0] 24 (0, 0))) := ⟨by (with_reducible repeat (first | refine zaj ?_ _ | refine zah ?_ | refine zai ?_ _)); refine zbb ?_ NB105_107.out _; (with_reducible repeat (first | refine zaj ?_ _ | refine zah ?_ | refine zai ?_ _)); refine zbb ?_ NB105_107.out _; (with_reducible repeat (first | refine zaj ?_ _ | refine zah ?_ | refine zai ?_ _)); refine zbb ?_ NB105_107.out _; (with_reducible repeat (first | refine zaj ?_ _ | refine zah ?_ | refine zai ?_ _)); exact BK105.out⟩
          have n1_ : zac ((((w11.setCell ⟨gb107, 0, none⟩ (.int .i64 ((zaa l0_0 x4_1).f0))).setCell ⟨gb107, 1, none⟩ (.int .i64 ((zaa l0_0 x4_1).f1))).setCell ⟨gb107, 2, none⟩ (.slice A106_2 ((zaa l0_0 x4_1).f2).length c106_2)).heap[gb107]? = some (.cells #[.int .i64 ((zaa l0_0 x4_1).f0), .int .i64 ((zaa l0_0 x4_1).f1), .slice A106_2 ((zaa l0_0 x4_1).f2).length c106_2] 38 (0, 0))) := ⟨by (with_reducible repeat (first | refine zaj ?_ _ | refine zah ?_ | refine zai ?_ _)); refine za4 (cs := #[.int .i64 ((zaa l0_0 x4_1).f0), .int .i64 ((zaa l0_0 x4_1).f1), .slice none 0 0]) ?_ 2 _ rfl; (with_reducible repeat (first | refine zaj ?_ _ | refine zah ?_ | refine zai ?_ _)); refine za4 (cs := #[.int .i64 ((zaa l0_0 x4_1).f0), .int .i64 0, .slice none 0 0]) ?_ 1 _ rfl; (with_reducible repeat (first | refine zaj ?_ _ | refine zah ?_ | refine zai ?_ _)); refine za4 (cs := #[.int .i64 0, .int .i64 0, .slice none 0 0]) ?_ 0 _ rfl; (with_reducible repeat (first | refine zaj ?_ _ | refine zah ?_ | refine zai ?_ _)); exact BK107.out⟩
          have n2_ : zac (Below w.heap.size w (((w11.setCell ⟨gb107, 0, none⟩ (.int .i64 ((zaa l0_0 x4_1).f0))).setCell ⟨gb107, 1, none⟩ (.int .i64 ((zaa l0_0 x4_1).f1))).setCell ⟨gb107, 2, none⟩ (.slice A106_2 ((zaa l0_0 x4_1).f2).length c106_2))) := ⟨Yb_PGssKeepsx2_1⟩
          (try clear BK105)
          (try clear BK107)
          (try clear HB)
          generalize (((w11.setCell ⟨gb107, 0, none⟩ (.int .i64 ((zaa l0_0 x4_1).f0))).setCell ⟨gb107, 1, none⟩ (.int .i64 ((zaa l0_0 x4_1).f1))).setCell ⟨gb107, 2, none⟩ (.slice A106_2 ((zaa l0_0 x4_1).f2).length c106_2)) = w30 at n0_ n1_ n2_ ⊢
          have BK105 := n0_;have BK107 := n1_;have HB := n2_;clear n0_ n1_ n2_
          replace BK105 := zac.mk (zah BK105.out)
          replace BK107 := zac.mk (zah BK107.out)
          replace HB := zac.mk (zas HB.out)
          refine zbd (n := 25) (S := fun w' => w'.cell? ⟨gb107, 0, none⟩ = some (.int .i64 ((zaa l0_0 x4_1).f0)) ∧ w'.cell? ⟨gb107, 1, none⟩ = some (.int .i64 ((zaa l0_0 x4_1).f1)) ∧ w'.cell? ⟨gb107, 2, none⟩ = some (.slice A106_2 ((zaa l0_0 x4_1).f2).length c106_2)) (ds := []) (Ymk 25 0) (by kernel_rfl) rfl rfl ⟨(zae BK107.out 0).trans rfl, (zae BK107.out 1).trans rfl, (zae BK107.out 2).trans rfl⟩ (fun hHeld => ?_); refine za9 zad.tab6 zad.zdw (fun HT_ HW_ => ?_)
          generalize w30.drew = w31 at BK105 BK107 HB hHeld ⊢
          refine Ypt 0 25 25 1 HT_ ?_
          refine Ytt 1 26 25 3 HT_ HW_ hHeld ?_
          refine Yot 2 27 25 7 HT_ (fun K hK => ?_)
          refine Ygs Try.func30 #[.int .i64 ((zaa l0_0 x4_1).f0)] ?_
          with_reducible refine (zay.calls ((zaa l0_0 x4_1).f0) false _ A14.out).mono ?_
          rintro e w' ⟨rfl, ⟨nd, rfl⟩⟩
          refine ⟨_, rfl, ?_⟩
          refine hK.out _ _ ⟨(zae BK107.out 0).trans rfl, (zae BK107.out 1).trans rfl, (zae BK107.out 2).trans rfl⟩ (fun hHeld => ?_)
          clear hK K
          refine Ynw 27 ?_
          refine Ypt 3 28 25 15 HT_ ?_
          refine Ypt 4 29 25 31 HT_ ?_
          refine Ypu 5 30 25 63 HT_ ?_
          refine Ypu 6 31 25 127 HT_ ?_
          refine Ypu 7 32 25 255 HT_ ?_
          refine Ypu 8 33 25 511 HT_ ?_
          refine Ypt 9 34 25 1023 HT_ ?_
          refine Ypt 10 35 25 2047 HT_ ?_
          refine Ypu 11 36 25 4095 HT_ ?_
          refine Ypu 12 37 25 8191 HT_ ?_
          refine Ypu 13 38 25 16383 HT_ ?_
          refine Ypu 14 39 25 32767 HT_ ?_
          refine Ypu 15 40 25 65535 HT_ ?_
          refine Ypu 16 41 25 131071 HT_ ?_
          refine Ypu 17 42 25 262143 HT_ ?_
          refine Ypu 18 43 25 524287 HT_ ?_
          refine Ypu 19 44 25 1048575 HT_ ?_
          refine Ypu 20 45 25 2097151 HT_ ?_
          refine Ypu 21 46 25 4194303 HT_ ?_
          refine Ypu 22 47 25 8388607 HT_ ?_
          refine Ypu 23 48 25 16777215 HT_ ?_
          refine Ypt 24 49 25 33554431 HT_ ?_
          refine zbo (zbl HT_.out (by kernel_rfl)) ?_
          try go_wp2
          go_meet
          case rel => exact ⟨_, (true), Yfs, H', ⟨by have := HK1.out; have := HJ3.out; first | omega | exact Nat.le_refl _⟩, ⟨Yg BK105⟩, ⟨Yg BK107⟩, ⟨Yb_PGssKeepsx2_1⟩⟩
        case rest =>
         clear HC9
         obtain ⟨kq, x49_8, rfl, HA, HJ8, BK105, BK107, HB⟩ := hcut
         cases kq with
         | zero => exact absurd HA.out (by simp [zad.j2])
         | succ kj8 =>
          have H := HA.out;clear HA
          simp only [zad.j2] at H
          by_cases c32 : x49_8 = true
          ·subst c32
           have H1 : (some false) = some r := by rw [if_pos rfl] at H; exact H
           clear H;have H := H1;clear H1;obtain rfl := Option.some.inj H;go_wp2;go_ret
           exact ⟨Yfi, Yb_PGssKeepsx2_1⟩
          ·replace c32 := Bool.eq_false_iff.mpr c32
           subst c32
           have H1 : (zad.l1 kj8 (l0_0.length : Int) x4_1 0 l0_0 ((zaa l0_0 x4_1).f0) ((zaa l0_0 x4_1).f1) ((zaa l0_0 x4_1).f2)) = some r := by rw [if_neg (show ¬ (false = true) by decide)] at H; exact H
           clear H;have H := H1;clear H1
           have H' := zac.mk H
           clear H;go_wp2
           go_loopg [6] kj8 (fun kq v6 w' => ∃ (x6_4 : Int), v6 = .int .i64 x6_4 ∧ zac (zad.l1 kq (l0_0.length : Int) x4_1 x6_4 l0_0 ((zaa l0_0 x4_1).f0) ((zaa l0_0 x4_1).f1) ((zaa l0_0 x4_1).f2) = some r) ∧ zac (kq ≤ kj8) ∧ zac (w'.heap[gb105]? = some (.cells #[(.slice (some ad106) l0_0.length c0_0)] 24 (0, 0))) ∧ zac (w'.heap[gb107]? = some (.cells #[.int .i64 ((zaa l0_0 x4_1).f0), .int .i64 ((zaa l0_0 x4_1).f1), (.slice A106_2 ((zaa l0_0 x4_1).f2).length c106_2)] 38 (0, 0))) ∧ zac (Below w.heap.size w w'))
           case atStart => exact ⟨(0), Yfs, H', ⟨Nat.le_refl _⟩, ⟨Yg BK105⟩, ⟨Yg BK107⟩, ⟨Yb_PGssKeepsx2_1⟩⟩
           case round =>
            clear H'
            obtain ⟨x6_4, rfl, HA, HK4, BK105, BK107, HB⟩ := hrel
            cases gk with
            | zero => exact absurd HA.out (by simp [zad.l1])
            | succ k4 =>
             have H := HA.out;clear HA
             simp only [zad.l1] at H
             by_cases c33 : x6_4 < (((zaa l0_0 x4_1).f2).length : Int)
             ·rw [if_pos c33] at H
              have c33b0 := decide_eq_true c33
              clear c33
              by_cases c34 : 0 ≤ x6_4
              ·rw [if_pos c34] at H
               have c34b0 := decide_eq_true c34
               clear c34
               by_cases c35 : (rd ((zaa l0_0 x4_1).f2) x6_4) < 0
               ·rw [if_pos c35] at H
                have c35b0 := decide_eq_true c35
                clear c35;obtain rfl := Option.some.inj H
                have hnb36 := NB107_105.out
                have hnc36 := NB105_107.out
                obtain ⟨hcz37_0, hfz37_0, hcz37_1, hfz37_1, hcz37_2, hfz37_2⟩ := Yc3 BK107.out
                have p112 : 0 ≤ (x6_4 : Int) := Yod
                have q112 : x6_4 < (((zaa l0_0 x4_1).f2).length : Int) := Yod
                obtain ⟨ad112, e112, hx112_0⟩ := Kd.zbe HR106_2.out x6_4 p112 q112
                cases e112
                replace hx112_0 := zaf HB.out hx112_0
                replace p112 := eq_true p112
                replace q112 := eq_true q112
                try go_wp2
                replace BK105 := zac.mk (zah BK105.out)
                replace BK107 := zac.mk (zah BK107.out)
                replace HB := zac.mk (zas HB.out)
                refine zbd (n := 32) (S := fun w' => True) (ds := []) (Ymk 32 0) (by kernel_rfl) rfl rfl trivial (fun hHeld => ?_); refine za9 zad.zdk zad.zc4 (fun HT_ HW_ => ?_)
                generalize wr.drew = w38 at BK105 BK107 HB hHeld ⊢
                refine Ypt 0 62 32 1 HT_ ?_
                refine Ypt 1 63 32 3 HT_ ?_
                refine Ypt 2 64 32 7 HT_ ?_
                refine Ypu 3 65 32 15 HT_ ?_
                refine Ypu 4 66 32 31 HT_ ?_
                refine Ypu 5 67 32 63 HT_ ?_
                refine Ypt 6 68 32 127 HT_ ?_
                refine Ypt 7 69 32 255 HT_ ?_
                refine Ypu 8 70 32 511 HT_ ?_
                refine Ypu 9 71 32 1023 HT_ ?_
                refine Ypu 10 72 32 2047 HT_ ?_
                refine Ypu 11 73 32 4095 HT_ ?_
                refine Ypu 12 74 32 8191 HT_ ?_
                refine Ypu 13 75 32 16383 HT_ ?_
                refine Ypu 14 76 32 32767 HT_ ?_
                refine Ypu 15 77 32 65535 HT_ ?_
                refine Ypu 16 78 32 131071 HT_ ?_
                refine Ypt 17 79 32 262143 HT_ ?_
                refine Ypt 18 80 32 524287 HT_ ?_
                refine Ypu 19 81 32 1048575 HT_ ?_
                refine Ypu 20 82 32 2097151 HT_ ?_
                refine Ypu 21 83 32 4194303 HT_ ?_
                refine Ypu 22 84 32 8388607 HT_ ?_
                refine Ypu 23 85 32 16777215 HT_ ?_
                refine Ypu 24 86 32 33554431 HT_ ?_
                refine Ypu 25 87 32 67108863 HT_ ?_
                refine Ypu 26 88 32 134217727 HT_ ?_
                refine Ypu 27 89 32 268435455 HT_ ?_
                refine Ypu 28 90 32 536870911 HT_ ?_
                refine Ypu 29 91 32 1073741823 HT_ ?_
                refine Ypu 30 92 32 2147483647 HT_ ?_
                refine Ypt 31 93 32 4294967295 HT_ ?_
                refine zbo (zbl HT_.out (by kernel_rfl)) ?_
                try go_wp2
                go_ret
                exact ⟨Yfi, Yb_PGssKeepsx2_1⟩
               ·rw [if_neg c35] at H
                have c35b0 := decide_eq_false c35
                clear c35
                by_cases c39 : (rd ((zaa l0_0 x4_1).f2) x6_4) ≥ (l0_0.length : Int)
                ·rw [if_pos c39] at H
                 have c39b0 := decide_eq_true c39
                 clear c39;obtain rfl := Option.some.inj H
                 have hnb40 := NB107_105.out
                 have hnc40 := NB105_107.out
                 obtain ⟨hcz41_0, hfz41_0, hcz41_1, hfz41_1, hcz41_2, hfz41_2⟩ := Yc3 BK107.out
                 have p112 : 0 ≤ (x6_4 : Int) := Yod
                 have q112 : x6_4 < (((zaa l0_0 x4_1).f2).length : Int) := Yod
                 obtain ⟨ad112, e112, hx112_0⟩ := Kd.zbe HR106_2.out x6_4 p112 q112
                 cases e112
                 replace hx112_0 := zaf HB.out hx112_0
                 replace p112 := eq_true p112
                 replace q112 := eq_true q112
                 try go_wp2
                 replace BK105 := zac.mk (zah BK105.out)
                 replace BK107 := zac.mk (zah BK107.out)
                 replace HB := zac.mk (zas HB.out)
                 refine zbd (n := 32) (S := fun w' => True) (ds := []) (Ymk 32 0) (by kernel_rfl) rfl rfl trivial (fun hHeld => ?_); refine za9 zad.zdk zad.zc4 (fun HT_ HW_ => ?_)
                 generalize wr.drew = w42 at BK105 BK107 HB hHeld ⊢
                 refine Ypt 0 62 32 1 HT_ ?_
                 refine Ypt 1 63 32 3 HT_ ?_
                 refine Ypt 2 64 32 7 HT_ ?_
                 refine Ypt 3 65 32 15 HT_ ?_
                 refine Ypt 4 66 32 31 HT_ ?_
                 refine Ypt 5 67 32 63 HT_ ?_
                 refine Ypt 6 68 32 127 HT_ ?_
                 refine Ypt 7 69 32 255 HT_ ?_
                 refine Ypu 8 70 32 511 HT_ ?_
                 refine Ypu 9 71 32 1023 HT_ ?_
                 refine Ypu 10 72 32 2047 HT_ ?_
                 refine Ypu 11 73 32 4095 HT_ ?_
                 refine Ypu 12 74 32 8191 HT_ ?_
                 refine Ypu 13 75 32 16383 HT_ ?_
                 refine Ypu 14 76 32 32767 HT_ ?_
                 refine Ypu 15 77 32 65535 HT_ ?_
                 refine Ypu 16 78 32 131071 HT_ ?_
                 refine Ypt 17 79 32 262143 HT_ ?_
                 refine Ypt 18 80 32 524287 HT_ ?_
                 refine Ypu 19 81 32 1048575 HT_ ?_
                 refine Ypu 20 82 32 2097151 HT_ ?_
                 refine Ypu 21 83 32 4194303 HT_ ?_
                 refine Ypu 22 84 32 8388607 HT_ ?_
                 refine Ypu 23 85 32 16777215 HT_ ?_
                 refine Ypu 24 86 32 33554431 HT_ ?_
                 refine Ypu 25 87 32 67108863 HT_ ?_
                 refine Ypu 26 88 32 134217727 HT_ ?_
                 refine Ypu 27 89 32 268435455 HT_ ?_
                 refine Ypu 28 90 32 536870911 HT_ ?_
                 refine Ypu 29 91 32 1073741823 HT_ ?_
                 refine Ypu 30 92 32 2147483647 HT_ ?_
                 refine Ypt 31 93 32 4294967295 HT_ ?_
                 refine zbo (zbl HT_.out (by kernel_rfl)) ?_
                 try go_wp2
                 go_ret
                 exact ⟨Yfi, Yb_PGssKeepsx2_1⟩
                ·rw [if_neg c39] at H
                 have c39b0 := decide_eq_false c39
                 clear c39
                 by_cases c43 : 0 ≤ (rd ((zaa l0_0 x4_1).f2) x6_4)
                 ·rw [if_pos c43] at H
                  have c43b0 := decide_eq_true c43
                  clear c43
                  by_cases c44 : (rd ((zaa l0_0 x4_1).f2) x6_4) < (l0_0.length : Int)
                  ·rw [if_pos c44] at H
                   have c44b0 := decide_eq_true c44
                   clear c44
                   by_cases c45 : ((zaa l0_0 (rd ((zaa l0_0 x4_1).f2) x6_4)).f1) > ((zaa l0_0 x4_1).f1)
                   ·rw [if_pos c45] at H
                    have c45b0 := decide_eq_true c45
                    clear c45;obtain rfl := Option.some.inj H
                    have hnb46 := NB107_105.out
                    have hnc46 := NB105_107.out
                    obtain ⟨hcz47_0, hfz47_0, hcz47_1, hfz47_1, hcz47_2, hfz47_2⟩ := Yc3 BK107.out
                    have p112 : 0 ≤ (x6_4 : Int) := Yod
                    have q112 : x6_4 < (((zaa l0_0 x4_1).f2).length : Int) := Yod
                    obtain ⟨ad112, e112, hx112_0⟩ := Kd.zbe HR106_2.out x6_4 p112 q112
                    cases e112
                    replace hx112_0 := zaf HB.out hx112_0
                    replace p112 := eq_true p112
                    replace q112 := eq_true q112
                    try go_wp2
                    replace BK105 := zac.mk (zah BK105.out)
                    replace BK107 := zac.mk (zah BK107.out)
                    replace HB := zac.mk (zas HB.out)
                    have p113 : 0 ≤ ((rd ((zaa l0_0 x4_1).f2) x6_4) : Int) := Yod
                    have q113 : (rd ((zaa l0_0 x4_1).f2) x6_4) < (l0_0.length : Int) := Yod
                    obtain ⟨ad113, A113_2, c113_2, e113, hx113_0, hx113_1, hx113_2, hl113_2, hi113_2⟩ := zbx HR0_0.out (rd ((zaa l0_0 x4_1).f2) x6_4) p113 q113
                    have hw113_2 := hx113_2;have hw113_1 := hx113_1;have hw113_0 := hx113_0
                    obtain rfl : ad106 = ad113 := (by injection e113)
                    replace hx113_0 := zaf HB.out hx113_0
                    replace hx113_1 := zaf HB.out hx113_1
                    replace hx113_2 := zaf HB.out hx113_2
                    have HR113_2 := zac.mk hi113_2;have HC113_2 := zac.mk hl113_2;clear hi113_2 hl113_2
                    replace p113 := eq_true p113
                    replace q113 := eq_true q113
                    refine zbd (n := 32) (S := fun w' => w'.cell? ⟨gb105, 0, none⟩ = some (.slice (some ad106) l0_0.length c0_0) ∧ w'.cell? ⟨gb107, 0, none⟩ = some (.int .i64 ((zaa l0_0 x4_1).f0)) ∧ w'.cell? ⟨gb107, 1, none⟩ = some (.int .i64 ((zaa l0_0 x4_1).f1)) ∧ w'.cell? ⟨gb107, 2, none⟩ = some (.slice (some ad112) ((zaa l0_0 x4_1).f2).length c106_2) ∧ w'.cell? (ad106.add (((rd ((zaa l0_0 x4_1).f2) x6_4)).toNat * 3)) = some (.int .i64 ((zaa l0_0 (rd ((zaa l0_0 x4_1).f2) x6_4)).f0)) ∧ w'.cell? ⟨(ad106.add (((rd ((zaa l0_0 x4_1).f2) x6_4)).toNat * 3)).block, (ad106.add (((rd ((zaa l0_0 x4_1).f2) x6_4)).toNat * 3)).off + 1, none⟩ = some (.int .i64 ((zaa l0_0 (rd ((zaa l0_0 x4_1).f2) x6_4)).f1)) ∧ w'.cell? ⟨(ad106.add (((rd ((zaa l0_0 x4_1).f2) x6_4)).toNat * 3)).block, (ad106.add (((rd ((zaa l0_0 x4_1).f2) x6_4)).toNat * 3)).off + 2, none⟩ = some (.slice A113_2 ((zaa l0_0 (rd ((zaa l0_0 x4_1).f2) x6_4)).f2).length c113_2)) (ds := []) (Ymk 32 0) (by kernel_rfl) rfl rfl ⟨(zae BK105.out 0).trans rfl, (zae BK107.out 0).trans rfl, (zae BK107.out 1).trans rfl, (zae BK107.out 2).trans rfl, ((HB.out.cell (World.block_lt_of_cell? w _ hw113_0)).trans hw113_0), ((HB.out.cell (World.block_lt_of_cell? w _ hw113_1)).trans hw113_1), ((HB.out.cell (World.block_lt_of_cell? w _ hw113_2)).trans hw113_2)⟩ (fun hHeld => ?_); refine za9 zad.zdk zad.zc4 (fun HT_ HW_ => ?_)
                    generalize wr.drew = w48 at BK105 BK107 HB HR113_2 hx113_0 hx113_1 hx113_2 hHeld ⊢
                    refine Ypt 0 62 32 1 HT_ ?_
                    refine Ypt 1 63 32 3 HT_ ?_
                    refine Ypt 2 64 32 7 HT_ ?_
                    refine Ypt 3 65 32 15 HT_ ?_
                    refine Ypt 4 66 32 31 HT_ ?_
                    refine Ypt 5 67 32 63 HT_ ?_
                    refine Ypt 6 68 32 127 HT_ ?_
                    refine Ypt 7 69 32 255 HT_ ?_
                    refine Ypt 8 70 32 511 HT_ ?_
                    refine Ypt 10 72 32 1535 HT_ ?_
                    refine Ypt 14 76 32 17919 HT_ ?_
                    refine Ytt 9 71 32 18431 HT_ HW_ hHeld ?_
                    refine Ypt 11 73 32 20479 HT_ ?_
                    refine Ypt 12 74 32 24575 HT_ ?_
                    refine Ytt 13 75 32 32767 HT_ HW_ hHeld ?_
                    refine Ytt 15 77 32 65535 HT_ HW_ hHeld ?_
                    refine Ypt 16 78 32 131071 HT_ ?_
                    refine Ypt 17 79 32 262143 HT_ ?_
                    refine Ypt 18 80 32 524287 HT_ ?_
                    refine Ypu 19 81 32 1048575 HT_ ?_
                    refine Ypu 20 82 32 2097151 HT_ ?_
                    refine Ypu 21 83 32 4194303 HT_ ?_
                    refine Ypu 22 84 32 8388607 HT_ ?_
                    refine Ypu 23 85 32 16777215 HT_ ?_
                    refine Ypu 24 86 32 33554431 HT_ ?_
                    refine Ypu 25 87 32 67108863 HT_ ?_
                    refine Ypu 26 88 32 134217727 HT_ ?_
                    refine Ypu 27 89 32 268435455 HT_ ?_
                    refine Ypu 28 90 32 536870911 HT_ ?_
                    refine Ypu 29 91 32 1073741823 HT_ ?_
                    refine Ypu 30 92 32 2147483647 HT_ ?_
                    refine Ypt 31 93 32 4294967295 HT_ ?_
                    refine zbo (zbl HT_.out (by kernel_rfl)) ?_
                    try go_wp2
                    go_ret
                    exact ⟨Yfi, Yb_PGssKeepsx2_1⟩
                   ·rw [if_neg c45] at H
                    have c45b0 := decide_eq_false c45
                    clear c45
                    by_cases c49 : x6_4 > 0
                    ·rw [if_pos c49] at H
                     have c49b0 := decide_eq_true c49
                     clear c49
                     obtain ⟨ji50, hji50⟩ : ∃ j_ : Int, (wrap64 (x6_4 - 1)) = j_ := ⟨_, rfl⟩
                     replace H : (if 0 ≤ (ji50) then (if (ji50) < (((zaa l0_0 x4_1).f2).length : Int) then (if (rd ((zaa l0_0 x4_1).f2) (ji50)) ≥ (rd ((zaa l0_0 x4_1).f2) x6_4) then (some false) else (zad.l1 k4 (l0_0.length : Int) x4_1 (wrap64 (x6_4 + 1)) l0_0 ((zaa l0_0 x4_1).f0) ((zaa l0_0 x4_1).f1) ((zaa l0_0 x4_1).f2))) else (none)) else (none)) = some r := by first | (rw [hji50] at H; exact H) | (simp only [hji50] at H ⊢; exact H)
                     have hji50w : (IntKind.i64.wrap (x6_4 - 1)) = ji50 := (zcj _).trans hji50
                     by_cases c51 : 0 ≤ (ji50)
                     ·rw [if_pos c51] at H
                      have c51b0 := decide_eq_true c51
                      clear c51
                      by_cases c52 : (ji50) < (((zaa l0_0 x4_1).f2).length : Int)
                      ·rw [if_pos c52] at H
                       have c52b0 := decide_eq_true c52
                       clear c52
                       by_cases c53 : (rd ((zaa l0_0 x4_1).f2) (ji50)) ≥ (rd ((zaa l0_0 x4_1).f2) x6_4)
                       ·rw [if_pos c53] at H
                        have c53b0 := decide_eq_true c53
                        clear c53;obtain rfl := Option.some.inj H
                        have hnb54 := NB107_105.out
                        have hnc54 := NB105_107.out
                        obtain ⟨hcz55_0, hfz55_0, hcz55_1, hfz55_1, hcz55_2, hfz55_2⟩ := Yc3 BK107.out
                        have p112 : 0 ≤ (x6_4 : Int) := Yod
                        have q112 : x6_4 < (((zaa l0_0 x4_1).f2).length : Int) := Yod
                        obtain ⟨ad112, e112, hx112_0⟩ := Kd.zbe HR106_2.out x6_4 p112 q112
                        cases e112
                        replace hx112_0 := zaf HB.out hx112_0
                        replace p112 := eq_true p112
                        replace q112 := eq_true q112
                        try go_wp2
                        replace BK105 := zac.mk (zah BK105.out)
                        replace BK107 := zac.mk (zah BK107.out)
                        replace HB := zac.mk (zas HB.out)
                        have p113 : 0 ≤ ((rd ((zaa l0_0 x4_1).f2) x6_4) : Int) := Yod
                        have q113 : (rd ((zaa l0_0 x4_1).f2) x6_4) < (l0_0.length : Int) := Yod
                        obtain ⟨ad113, A113_2, c113_2, e113, hx113_0, hx113_1, hx113_2, hl113_2, hi113_2⟩ := zbx HR0_0.out (rd ((zaa l0_0 x4_1).f2) x6_4) p113 q113
                        have hw113_2 := hx113_2;have hw113_1 := hx113_1;have hw113_0 := hx113_0
                        obtain rfl : ad106 = ad113 := (by injection e113)
                        replace hx113_0 := zaf HB.out hx113_0
                        replace hx113_1 := zaf HB.out hx113_1
                        replace hx113_2 := zaf HB.out hx113_2
                        have HR113_2 := zac.mk hi113_2;have HC113_2 := zac.mk hl113_2;clear hi113_2 hl113_2
                        replace p113 := eq_true p113
                        replace q113 := eq_true q113
                        have p114 : 0 ≤ ((ji50) : Int) := Yod
                        have q114 : (ji50) < (((zaa l0_0 x4_1).f2).length : Int) := Yod
                        obtain ⟨ad114, e114, hx114_0⟩ := Kd.zbe HR106_2.out (ji50) p114 q114
                        have hw114_0 := hx114_0
                        obtain rfl : ad112 = ad114 := (by injection e114)
                        replace hx114_0 := zaf HB.out hx114_0
                        replace p114 := eq_true p114
                        replace q114 := eq_true q114
                        refine zbd (n := 32) (S := fun w' => w'.cell? ⟨gb105, 0, none⟩ = some (.slice (some ad106) l0_0.length c0_0) ∧ w'.cell? ⟨gb107, 0, none⟩ = some (.int .i64 ((zaa l0_0 x4_1).f0)) ∧ w'.cell? ⟨gb107, 1, none⟩ = some (.int .i64 ((zaa l0_0 x4_1).f1)) ∧ w'.cell? ⟨gb107, 2, none⟩ = some (.slice (some ad112) ((zaa l0_0 x4_1).f2).length c106_2) ∧ w'.cell? (ad106.add (((rd ((zaa l0_0 x4_1).f2) x6_4)).toNat * 3)) = some (.int .i64 ((zaa l0_0 (rd ((zaa l0_0 x4_1).f2) x6_4)).f0)) ∧ w'.cell? ⟨(ad106.add (((rd ((zaa l0_0 x4_1).f2) x6_4)).toNat * 3)).block, (ad106.add (((rd ((zaa l0_0 x4_1).f2) x6_4)).toNat * 3)).off + 1, none⟩ = some (.int .i64 ((zaa l0_0 (rd ((zaa l0_0 x4_1).f2) x6_4)).f1)) ∧ w'.cell? ⟨(ad106.add (((rd ((zaa l0_0 x4_1).f2) x6_4)).toNat * 3)).block, (ad106.add (((rd ((zaa l0_0 x4_1).f2) x6_4)).toNat * 3)).off + 2, none⟩ = some (.slice A113_2 ((zaa l0_0 (rd ((zaa l0_0 x4_1).f2) x6_4)).f2).length c113_2) ∧ w'.cell? (ad112.add ((ji50)).toNat) = some (.int .i64 (rd ((zaa l0_0 x4_1).f2) (ji50)))) (ds := []) (Ymk 32 0) (by kernel_rfl) rfl rfl ⟨(zae BK105.out 0).trans rfl, (zae BK107.out 0).trans rfl, (zae BK107.out 1).trans rfl, (zae BK107.out 2).trans rfl, ((HB.out.cell (World.block_lt_of_cell? w _ hw113_0)).trans hw113_0), ((HB.out.cell (World.block_lt_of_cell? w _ hw113_1)).trans hw113_1), ((HB.out.cell (World.block_lt_of_cell? w _ hw113_2)).trans hw113_2), ((HB.out.cell (World.block_lt_of_cell? w _ hw114_0)).trans hw114_0)⟩ (fun hHeld => ?_); refine za9 zad.zdk zad.zc4 (fun HT_ HW_ => ?_)
                        generalize wr.drew = w56 at BK105 BK107 HB HR113_2 hx113_0 hx113_1 hx113_2 hx114_0 hHeld ⊢
                        refine Ypt 0 62 32 1 HT_ ?_
                        refine Ypt 1 63 32 3 HT_ ?_
                        refine Ypt 2 64 32 7 HT_ ?_
                        refine Ypt 3 65 32 15 HT_ ?_
                        refine Ypt 4 66 32 31 HT_ ?_
                        refine Ypt 5 67 32 63 HT_ ?_
                        refine Ypt 6 68 32 127 HT_ ?_
                        refine Ypt 7 69 32 255 HT_ ?_
                        refine Ypt 8 70 32 511 HT_ ?_
                        refine Ypt 10 72 32 1535 HT_ ?_
                        refine Ypt 14 76 32 17919 HT_ ?_
                        refine Ytt 9 71 32 18431 HT_ HW_ hHeld ?_
                        refine Ypt 11 73 32 20479 HT_ ?_
                        refine Ypt 12 74 32 24575 HT_ ?_
                        refine Ytt 13 75 32 32767 HT_ HW_ hHeld ?_
                        refine Ytt 15 77 32 65535 HT_ HW_ hHeld ?_
                        refine Ypt 16 78 32 131071 HT_ ?_
                        refine Ypt 17 79 32 262143 HT_ ?_
                        refine Ypt 18 80 32 524287 HT_ ?_
                        refine Ypt 19 81 32 1048575 HT_ ?_
                        refine Ypt 20 82 32 2097151 HT_ ?_
                        refine Ypt 21 83 32 4194303 HT_ ?_
                        refine Ypt 22 84 32 8388607 HT_ ?_
                        refine Ypt 24 86 32 25165823 HT_ ?_
                        refine Ypt 25 87 32 58720255 HT_ ?_
                        refine Ypt 28 90 32 327155711 HT_ ?_
                        refine Ytt 23 85 32 335544319 HT_ HW_ hHeld ?_
                        refine Ypt 26 88 32 402653183 HT_ ?_
                        refine Ytt 27 89 32 536870911 HT_ HW_ hHeld ?_
                        refine Ypt 29 91 32 1073741823 HT_ ?_
                        refine Ypt 30 92 32 2147483647 HT_ ?_
                        refine Ypt 31 93 32 4294967295 HT_ ?_
                        refine zbo (zbl HT_.out (by kernel_rfl)) ?_
                        try go_wp2
                        go_ret
                        exact ⟨by first | rfl | (simp [errW_none, errW_some] <;> rfl) | (simp only [← hji50]; first | rfl | (simp [errW_none, errW_some] <;> rfl)) | (simp [*, errW_none, errW_some] <;> rfl), Yb_PGssKeepsx2_1⟩
                       ·rw [if_neg c53] at H
                        have c53b0 := decide_eq_false c53
                        clear c53
                        have H' := zac.mk H
                        clear H
                        have hnb57 := NB107_105.out
                        have hnc57 := NB105_107.out
                        obtain ⟨hcz58_0, hfz58_0, hcz58_1, hfz58_1, hcz58_2, hfz58_2⟩ := Yc3 BK107.out
                        have p112 : 0 ≤ (x6_4 : Int) := Yod
                        have q112 : x6_4 < (((zaa l0_0 x4_1).f2).length : Int) := Yod
                        obtain ⟨ad112, e112, hx112_0⟩ := Kd.zbe HR106_2.out x6_4 p112 q112
                        cases e112
                        replace hx112_0 := zaf HB.out hx112_0
                        replace p112 := eq_true p112
                        replace q112 := eq_true q112
                        try go_wp2
                        replace BK105 := zac.mk (zah BK105.out)
                        replace BK107 := zac.mk (zah BK107.out)
                        replace HB := zac.mk (zas HB.out)
                        have p113 : 0 ≤ ((rd ((zaa l0_0 x4_1).f2) x6_4) : Int) := Yod
                        have q113 : (rd ((zaa l0_0 x4_1).f2) x6_4) < (l0_0.length : Int) := Yod
                        obtain ⟨ad113, A113_2, c113_2, e113, hx113_0, hx113_1, hx113_2, hl113_2, hi113_2⟩ := zbx HR0_0.out (rd ((zaa l0_0 x4_1).f2) x6_4) p113 q113
                        have hw113_2 := hx113_2;have hw113_1 := hx113_1;have hw113_0 := hx113_0
                        obtain rfl : ad106 = ad113 := (by injection e113)
                        replace hx113_0 := zaf HB.out hx113_0
                        replace hx113_1 := zaf HB.out hx113_1
                        replace hx113_2 := zaf HB.out hx113_2
                        have HR113_2 := zac.mk hi113_2;have HC113_2 := zac.mk hl113_2;clear hi113_2 hl113_2
                        replace p113 := eq_true p113
                        replace q113 := eq_true q113
                        have p114 : 0 ≤ ((ji50) : Int) := Yod
                        have q114 : (ji50) < (((zaa l0_0 x4_1).f2).length : Int) := Yod
                        obtain ⟨ad114, e114, hx114_0⟩ := Kd.zbe HR106_2.out (ji50) p114 q114
                        have hw114_0 := hx114_0
                        obtain rfl : ad112 = ad114 := (by injection e114)
                        replace hx114_0 := zaf HB.out hx114_0
                        replace p114 := eq_true p114
                        replace q114 := eq_true q114
                        refine zbd (n := 32) (S := fun w' => w'.cell? ⟨gb105, 0, none⟩ = some (.slice (some ad106) l0_0.length c0_0) ∧ w'.cell? ⟨gb107, 0, none⟩ = some (.int .i64 ((zaa l0_0 x4_1).f0)) ∧ w'.cell? ⟨gb107, 1, none⟩ = some (.int .i64 ((zaa l0_0 x4_1).f1)) ∧ w'.cell? ⟨gb107, 2, none⟩ = some (.slice (some ad112) ((zaa l0_0 x4_1).f2).length c106_2) ∧ w'.cell? (ad106.add (((rd ((zaa l0_0 x4_1).f2) x6_4)).toNat * 3)) = some (.int .i64 ((zaa l0_0 (rd ((zaa l0_0 x4_1).f2) x6_4)).f0)) ∧ w'.cell? ⟨(ad106.add (((rd ((zaa l0_0 x4_1).f2) x6_4)).toNat * 3)).block, (ad106.add (((rd ((zaa l0_0 x4_1).f2) x6_4)).toNat * 3)).off + 1, none⟩ = some (.int .i64 ((zaa l0_0 (rd ((zaa l0_0 x4_1).f2) x6_4)).f1)) ∧ w'.cell? ⟨(ad106.add (((rd ((zaa l0_0 x4_1).f2) x6_4)).toNat * 3)).block, (ad106.add (((rd ((zaa l0_0 x4_1).f2) x6_4)).toNat * 3)).off + 2, none⟩ = some (.slice A113_2 ((zaa l0_0 (rd ((zaa l0_0 x4_1).f2) x6_4)).f2).length c113_2) ∧ w'.cell? (ad112.add ((ji50)).toNat) = some (.int .i64 (rd ((zaa l0_0 x4_1).f2) (ji50)))) (ds := []) (Ymk 32 0) (by kernel_rfl) rfl rfl ⟨(zae BK105.out 0).trans rfl, (zae BK107.out 0).trans rfl, (zae BK107.out 1).trans rfl, (zae BK107.out 2).trans rfl, ((HB.out.cell (World.block_lt_of_cell? w _ hw113_0)).trans hw113_0), ((HB.out.cell (World.block_lt_of_cell? w _ hw113_1)).trans hw113_1), ((HB.out.cell (World.block_lt_of_cell? w _ hw113_2)).trans hw113_2), ((HB.out.cell (World.block_lt_of_cell? w _ hw114_0)).trans hw114_0)⟩ (fun hHeld => ?_); refine za9 zad.zdk zad.zc4 (fun HT_ HW_ => ?_)
                        generalize wr.drew = w59 at BK105 BK107 HB HR113_2 hx113_0 hx113_1 hx113_2 hx114_0 hHeld ⊢
                        refine Ypt 0 62 32 1 HT_ ?_
                        refine Ypt 1 63 32 3 HT_ ?_
                        refine Ypt 2 64 32 7 HT_ ?_
                        refine Ypt 3 65 32 15 HT_ ?_
                        refine Ypt 4 66 32 31 HT_ ?_
                        refine Ypt 5 67 32 63 HT_ ?_
                        refine Ypt 6 68 32 127 HT_ ?_
                        refine Ypt 7 69 32 255 HT_ ?_
                        refine Ypt 8 70 32 511 HT_ ?_
                        refine Ypt 10 72 32 1535 HT_ ?_
                        refine Ypt 14 76 32 17919 HT_ ?_
                        refine Ytt 9 71 32 18431 HT_ HW_ hHeld ?_
                        refine Ypt 11 73 32 20479 HT_ ?_
                        refine Ypt 12 74 32 24575 HT_ ?_
                        refine Ytt 13 75 32 32767 HT_ HW_ hHeld ?_
                        refine Ytt 15 77 32 65535 HT_ HW_ hHeld ?_
                        refine Ypt 16 78 32 131071 HT_ ?_
                        refine Ypt 17 79 32 262143 HT_ ?_
                        refine Ypt 18 80 32 524287 HT_ ?_
                        refine Ypt 19 81 32 1048575 HT_ ?_
                        refine Ypt 20 82 32 2097151 HT_ ?_
                        refine Ypt 21 83 32 4194303 HT_ ?_
                        refine Ypt 22 84 32 8388607 HT_ ?_
                        refine Ypt 24 86 32 25165823 HT_ ?_
                        refine Ypt 25 87 32 58720255 HT_ ?_
                        refine Ypt 28 90 32 327155711 HT_ ?_
                        refine Ytt 23 85 32 335544319 HT_ HW_ hHeld ?_
                        refine Ypt 26 88 32 402653183 HT_ ?_
                        refine Ytt 27 89 32 536870911 HT_ HW_ hHeld ?_
                        refine Ypt 29 91 32 1073741823 HT_ ?_
                        refine Ypt 30 92 32 2147483647 HT_ ?_
                        refine Ypt 31 93 32 4294967295 HT_ ?_
                        refine zbo (zbl HT_.out (by kernel_rfl)) ?_
                        try go_wp2
                        go_roundg k4
                        case measure => have := HK1.out; have := HJ3.out; have := HJ8.out; have := HK4.out; omega
                        case rel => exact ⟨(wrap64 (x6_4 + 1)), Yfs, H', ⟨by have := HK1.out; have := HJ3.out; have := HJ8.out; have := HK4.out; omega⟩, ⟨Yg BK105⟩, ⟨Yg BK107⟩, ⟨Yb_PGssKeepsx2_1⟩⟩
                      ·rw [if_neg c52] at H
                       exact absurd H (by simp)
                     ·rw [if_neg c51] at H
                      exact absurd H (by simp)
                    ·rw [if_neg c49] at H
                     have c49b0 := decide_eq_false c49
                     clear c49
                     have H' := zac.mk H
                     clear H
                     have hnb60 := NB107_105.out
                     have hnc60 := NB105_107.out
                     obtain ⟨hcz61_0, hfz61_0, hcz61_1, hfz61_1, hcz61_2, hfz61_2⟩ := Yc3 BK107.out
                     have p112 : 0 ≤ (x6_4 : Int) := Yod
                     have q112 : x6_4 < (((zaa l0_0 x4_1).f2).length : Int) := Yod
                     obtain ⟨ad112, e112, hx112_0⟩ := Kd.zbe HR106_2.out x6_4 p112 q112
                     cases e112
                     replace hx112_0 := zaf HB.out hx112_0
                     replace p112 := eq_true p112
                     replace q112 := eq_true q112
                     try go_wp2
                     replace BK105 := zac.mk (zah BK105.out)
                     replace BK107 := zac.mk (zah BK107.out)
                     replace HB := zac.mk (zas HB.out)
                     have p113 : 0 ≤ ((rd ((zaa l0_0 x4_1).f2) x6_4) : Int) := Yod
                     have q113 : (rd ((zaa l0_0 x4_1).f2) x6_4) < (l0_0.length : Int) := Yod
                     obtain ⟨ad113, A113_2, c113_2, e113, hx113_0, hx113_1, hx113_2, hl113_2, hi113_2⟩ := zbx HR0_0.out (rd ((zaa l0_0 x4_1).f2) x6_4) p113 q113
                     have hw113_2 := hx113_2;have hw113_1 := hx113_1;have hw113_0 := hx113_0
                     obtain rfl : ad106 = ad113 := (by injection e113)
                     replace hx113_0 := zaf HB.out hx113_0
                     replace hx113_1 := zaf HB.out hx113_1
                     replace hx113_2 := zaf HB.out hx113_2
                     have HR113_2 := zac.mk hi113_2;have HC113_2 := zac.mk hl113_2;clear hi113_2 hl113_2
                     replace p113 := eq_true p113
                     replace q113 := eq_true q113
                     refine zbd (n := 32) (S := fun w' => w'.cell? ⟨gb105, 0, none⟩ = some (.slice (some ad106) l0_0.length c0_0) ∧ w'.cell? ⟨gb107, 0, none⟩ = some (.int .i64 ((zaa l0_0 x4_1).f0)) ∧ w'.cell? ⟨gb107, 1, none⟩ = some (.int .i64 ((zaa l0_0 x4_1).f1)) ∧ w'.cell? ⟨gb107, 2, none⟩ = some (.slice (some ad112) ((zaa l0_0 x4_1).f2).length c106_2) ∧ w'.cell? (ad106.add (((rd ((zaa l0_0 x4_1).f2) x6_4)).toNat * 3)) = some (.int .i64 ((zaa l0_0 (rd ((zaa l0_0 x4_1).f2) x6_4)).f0)) ∧ w'.cell? ⟨(ad106.add (((rd ((zaa l0_0 x4_1).f2) x6_4)).toNat * 3)).block, (ad106.add (((rd ((zaa l0_0 x4_1).f2) x6_4)).toNat * 3)).off + 1, none⟩ = some (.int .i64 ((zaa l0_0 (rd ((zaa l0_0 x4_1).f2) x6_4)).f1)) ∧ w'.cell? ⟨(ad106.add (((rd ((zaa l0_0 x4_1).f2) x6_4)).toNat * 3)).block, (ad106.add (((rd ((zaa l0_0 x4_1).f2) x6_4)).toNat * 3)).off + 2, none⟩ = some (.slice A113_2 ((zaa l0_0 (rd ((zaa l0_0 x4_1).f2) x6_4)).f2).length c113_2)) (ds := []) (Ymk 32 0) (by kernel_rfl) rfl rfl ⟨(zae BK105.out 0).trans rfl, (zae BK107.out 0).trans rfl, (zae BK107.out 1).trans rfl, (zae BK107.out 2).trans rfl, ((HB.out.cell (World.block_lt_of_cell? w _ hw113_0)).trans hw113_0), ((HB.out.cell (World.block_lt_of_cell? w _ hw113_1)).trans hw113_1), ((HB.out.cell (World.block_lt_of_cell? w _ hw113_2)).trans hw113_2)⟩ (fun hHeld => ?_); refine za9 zad.zdk zad.zc4 (fun HT_ HW_ => ?_)
                     generalize wr.drew = w62 at BK105 BK107 HB HR113_2 hx113_0 hx113_1 hx113_2 hHeld ⊢
                     refine Ypt 0 62 32 1 HT_ ?_
                     refine Ypt 1 63 32 3 HT_ ?_
                     refine Ypt 2 64 32 7 HT_ ?_
                     refine Ypt 3 65 32 15 HT_ ?_
                     refine Ypt 4 66 32 31 HT_ ?_
                     refine Ypt 5 67 32 63 HT_ ?_
                     refine Ypt 6 68 32 127 HT_ ?_
                     refine Ypt 7 69 32 255 HT_ ?_
                     refine Ypt 8 70 32 511 HT_ ?_
                     refine Ypt 10 72 32 1535 HT_ ?_
                     refine Ypt 14 76 32 17919 HT_ ?_
                     refine Ytt 9 71 32 18431 HT_ HW_ hHeld ?_
                     refine Ypt 11 73 32 20479 HT_ ?_
                     refine Ypt 12 74 32 24575 HT_ ?_
                     refine Ytt 13 75 32 32767 HT_ HW_ hHeld ?_
                     refine Ytt 15 77 32 65535 HT_ HW_ hHeld ?_
                     refine Ypt 16 78 32 131071 HT_ ?_
                     refine Ypt 17 79 32 262143 HT_ ?_
                     refine Ypt 18 80 32 524287 HT_ ?_
                     refine Ypt 19 81 32 1048575 HT_ ?_
                     refine Ypt 20 82 32 2097151 HT_ ?_
                     refine Ypt 21 83 32 4194303 HT_ ?_
                     refine Ypu 22 84 32 8388607 HT_ ?_
                     refine Ypu 23 85 32 16777215 HT_ ?_
                     refine Ypu 24 86 32 33554431 HT_ ?_
                     refine Ypu 25 87 32 67108863 HT_ ?_
                     refine Ypu 26 88 32 134217727 HT_ ?_
                     refine Ypu 27 89 32 268435455 HT_ ?_
                     refine Ypu 28 90 32 536870911 HT_ ?_
                     refine Ypu 29 91 32 1073741823 HT_ ?_
                     refine Ypt 30 92 32 2147483647 HT_ ?_
                     refine Ypt 31 93 32 4294967295 HT_ ?_
                     refine zbo (zbl HT_.out (by kernel_rfl)) ?_
                     try go_wp2
                     go_roundg k4
                     case measure => have := HK1.out; have := HJ3.out; have := HJ8.out; have := HK4.out; omega
                     case rel => exact ⟨(wrap64 (x6_4 + 1)), Yfs, H', ⟨by have := HK1.out; have := HJ3.out; have := HJ8.out; have := HK4.out; omega⟩, ⟨Yg BK105⟩, ⟨Yg BK107⟩, ⟨Yb_PGssKeepsx2_1⟩⟩
                  ·rw [if_neg c44] at H
                   exact absurd H (by simp)
                 ·rw [if_neg c43] at H
                  exact absurd H (by simp)
              ·rw [if_neg c34] at H
               exact absurd H (by simp)
             ·rw [if_neg c33] at H
              have c33b0 := decide_eq_false c33
              clear c33
              have H' := zac.mk H
              clear H
              have hnb63 := NB107_105.out
              have hnc63 := NB105_107.out
              obtain ⟨hcz64_0, hfz64_0, hcz64_1, hfz64_1, hcz64_2, hfz64_2⟩ := Yc3 BK107.out
              go_wp2
              go_roundg k4
              case measure => have := HK1.out; have := HJ3.out; have := HJ8.out; have := HK4.out; omega
              case rel => exact ⟨(wrap64 (x4_1 + 1)), Yfs, H', ⟨by have := HK1.out; have := HJ3.out; have := HJ8.out; have := HK4.out; omega⟩, ⟨Yg BK105⟩, ⟨Yb_PGssKeepsx2_1⟩⟩
       ·rw [if_neg c8] at H
        exact absurd H (by simp)
      ·rw [if_neg c7] at H
       exact absurd H (by simp)
     ·replace c6 := Bool.eq_false_iff.mpr c6
      subst c6
      have H1 : (some (decide ((l0_0.length : Int) ≤ 4096))) = some r := by rw [if_neg (show ¬ (false = true) by decide)] at H; exact H
      clear H;have H := H1;clear H1;obtain rfl := Option.some.inj H;go_wp2;go_ret
      exact ⟨Yfi, Yb_PGssKeepsx2_0⟩
theorem Yb_PGssKeepsx3_0 {n : Nat} {w w' : World} (h : Below n w w' := by repeat (first | (with_reducible first | exact HB.out | apply za8 | apply za1 | apply zas | refine zbg ?_ GE116.out) | exact HB.out)) : Below n w w' := h
def zax.f : Option Bool := some true
theorem zax.calls (r : Bool) (w : World) (h : zax.f = some r) :
  Calls Try.prog 9 #[] w fun e w' => e = .returned (.bool r) ∧ Below w.heap.size w w' := by
 obtain rfl : true = r := by injection h
 exact GAwake.awake_calls w
def ndT (x : S38) : G16.Nd := (x.f0, x.f1, x.f2)
def ndS (x : G16.Nd) : S38 := ⟨x.1, x.2.1, x.2.2⟩
theorem C_ndT {w : World} {A : Option Addr} {n : Nat} {xs : List S38} (h : Kd.C k38 w A n xs) : Kd.C GGr.kN w A n (xs.map ndT) := GAwake.C_iso (d := GGr.kN) (f := ndT) h
theorem R_ndS {e : Nat} {w : World} {base : Nat} {ok : Nat → Prop} {v : Value} {r : List G16.Nd} (h : Kd.R GGr.kN e w base ok v r) : Kd.R k38 e w base ok v (r.map ndS) := GGiv.R_map (d' := k38) rfl (fun _ _ _ h => h) h
def zct.f (l0_0 : List S38) (a1 : Int) (a2 : Int) : Option (List (List Int) × Int) := if GGiv.fitB (l0_0.map ndT) = true then some (GGivK.zes (l0_0.map ndT) a1 a2) else none
theorem zct.calls (A0_0 : Option Addr) (c0_0 : Nat) (l0_0 : List S38) (a1 : Int) (a2 : Int) (r1 : List (List Int)) (r2 : Int) (w : World) (hr0_0 : Kd.C k38 w A0_0 l0_0.length l0_0) (hc0_0 : l0_0.length ≤ c0_0) (h : zct.f l0_0 a1 a2 = some (r1, r2)) :
  Calls Try.prog 10 #[.agg #[.slice A0_0 l0_0.length c0_0], .int .i64 a1, .int .i64 a2] w fun e w' => ∃ v0_ : Value, e = .returned (.tuple #[v0_, .int .i64 r2]) ∧ Kd.R (Kd.slice 3 (Kd.int .i64)) 31 w' w.heap.size (fun _ => True) v0_ r1 ∧ Below w.heap.size w w' := by
 unfold zct.f at h
 split at h
 case isFalse => cases h
 rename_i hok
 have h := Option.some.inj h
 have hl0 : (l0_0.map ndT).length = l0_0.length := by simp
 have hc := GPaths.zfu A0_0 c0_0 (l0_0.map ndT) a1 a2 w (by rw [hl0]; exact C_ndT hr0_0) (GGiv.fit_fit hok)
 rw [hl0] at hc
 refine hc.mono ?_
 rintro e w' ⟨v, ys, ec, rfl, ho, hi, hB, hl, hcase⟩
 have he := GGivK.pathsE_of (zs := ys.map (·.2)) (by rw [List.length_map]; exact hl) (by rcases hcase with h | ⟨h1, rfl, h3⟩; exact .inl h; exact .inr ⟨h1, rfl, h3⟩)
 rw [h] at he
 injection he with e1 e2
 subst e1; subst e2
 exact ⟨v, rfl, GGivK.rows_R ho hi, hB⟩
def zb5.f (l0_0 : List S38) (a1 : Int) (a2 : Int) : Option (List Int) := if GGiv.fitB (l0_0.map ndT) = true then some (GBack.zb4 (l0_0.map ndT) a1 a2) else none
theorem zb5.calls (A0_0 : Option Addr) (c0_0 : Nat) (l0_0 : List S38) (a1 : Int) (a2 : Int) (r : List Int) (w : World) (hr0_0 : Kd.C k38 w A0_0 l0_0.length l0_0) (hc0_0 : l0_0.length ≤ c0_0) (h : zb5.f l0_0 a1 a2 = some r) :
  Calls Try.prog 11 #[.agg #[.slice A0_0 l0_0.length c0_0], .int .i64 a1, .int .i64 a2] w fun e w' => ∃ v0_ : Value, e = .returned (v0_) ∧ Kd.R (Kd.int .i64) 3 w' w.heap.size (fun _ => True) v0_ r ∧ Below w.heap.size w w' := by
 unfold zb5.f at h
 split at h
 case isFalse => cases h
 rename_i hok
 obtain rfl := Option.some.inj h
 have hl0 : (l0_0.map ndT).length = l0_0.length := by simp
 have hc := GBack.zgd A0_0 c0_0 (l0_0.map ndT) a1 a2 w (by rw [hl0]; exact C_ndT hr0_0) (GGiv.fit_fit hok)
 rw [hl0] at hc
 exact hc
def zau.l0 : Nat → Int → List Int → Int → Int → Option (Bool)
 | 0, _, _, _, _ => none
 | k + 1, x1, x7, x8, x9 => if x9 < x8 then (if 0 ≤ x9 then (if x9 < (x7.length : Int) then (if x1 = (rd x7 x9) then (some true) else (zau.l0 k x1 x7 x8 (wrap64 (x9 + 1)))) else (none)) else (none)) else (some false)
def zau.f (k : Nat) (l0 : List Int) (a1 : Int) : Option (Bool) := zau.l0 k a1 l0 (l0.length : Int) 0
theorem zau.calls (k : Nat) (A0 : Option Addr) (c0 : Nat) (l0 : List Int) (a1 : Int) (r : Bool) (w : World) (hr0 : Kd.C (Kd.int .i64) w A0 l0.length l0) (hc0 : l0.length ≤ c0) (h : zau.f k l0 a1 = some r) :
  Calls Try.prog 12 #[.slice A0 l0.length c0, .int .i64 a1] w fun e w' => e = .returned (.bool r) ∧ zam w w' := by
 have HR0 := zac.mk hr0;have HC0 := zac.mk hc0;clear hr0 hc0
 have H : (zau.l0 k a1 l0 (l0.length : Int) 0) = some r := h
 clear h
 have H' := zac.mk H
 clear H
 go_enter Try.func12, Try.ntmps12
 go_wp2
 go_loopg [9] k (fun kq v9 w' => ∃ (x9_1 : Int), v9 = .int .i64 x9_1 ∧ zac (zau.l0 kq a1 l0 (l0.length : Int) x9_1 = some r) ∧ zac (kq ≤ k) ∧ zam w w')
 case atStart => exact ⟨(0), Yfs, H', ⟨Nat.le_refl _⟩, by repeat (first | exact zam.refl _ | apply zam.step)⟩
 case round =>
  clear H'
  obtain ⟨x9_1, rfl, HA, HK1, ⟨m1, rfl⟩⟩ := hrel
  cases gk with
  | zero => exact absurd HA.out (by simp [zau.l0])
  | succ k1 =>
   have H := HA.out;clear HA
   simp only [zau.l0] at H
   by_cases c3 : x9_1 < (l0.length : Int)
   ·rw [if_pos c3] at H
    have c3b0 := decide_eq_true c3
    clear c3
    by_cases c4 : 0 ≤ x9_1
    ·rw [if_pos c4] at H
     have c4b0 := decide_eq_true c4
     clear c4
     by_cases c5 : x9_1 < (l0.length : Int)
     ·rw [if_pos c5] at H
      have c5b0 := decide_eq_true c5
      clear c5
      by_cases c6 : a1 = (rd l0 x9_1)
      ·rw [if_pos c6] at H
       have c6b0 : (a1 == (rd l0 x9_1)) = true := beq_iff_eq.mpr c6
       have c6b1 : (a1 != (rd l0 x9_1)) = false := bne_eq_false_iff_eq.mpr c6
       clear c6;obtain rfl := Option.some.inj H
       have p115 : 0 ≤ (x9_1 : Int) := Yod
       have q115 : x9_1 < (l0.length : Int) := Yod
       obtain ⟨ad115, e115, hx115_0⟩ := Kd.zbe HR0.out x9_1 p115 q115
       cases e115
       replace p115 := eq_true p115
       replace q115 := eq_true q115
       go_wp2;go_ret
       exact ⟨Yfs, by repeat (first | exact zam.refl _ | apply zam.step)⟩
      ·rw [if_neg c6] at H
       have c6b0 : (a1 == (rd l0 x9_1)) = false := beq_eq_false_iff_ne.mpr c6
       have c6b1 : (a1 != (rd l0 x9_1)) = true := bne_iff_ne.mpr c6
       have H' := zac.mk H
       clear H
       have p115 : 0 ≤ (x9_1 : Int) := Yod
       have q115 : x9_1 < (l0.length : Int) := Yod
       obtain ⟨ad115, e115, hx115_0⟩ := Kd.zbe HR0.out x9_1 p115 q115
       cases e115
       replace p115 := eq_true p115
       replace q115 := eq_true q115
       go_wp2
       go_roundg k1
       case measure => have := HK1.out; omega
       case rel => exact ⟨(wrap64 (x9_1 + 1)), Yfs, H', ⟨by have := HK1.out; omega⟩, by repeat (first | exact zam.refl _ | apply zam.step)⟩
     ·rw [if_neg c5] at H
      exact absurd H (by simp)
    ·rw [if_neg c4] at H
     exact absurd H (by simp)
   ·rw [if_neg c3] at H
    have c3b0 := decide_eq_false c3
    clear c3;obtain rfl := Option.some.inj H;go_wp2;go_ret
    exact ⟨Yfs, by repeat (first | exact zam.refl _ | apply zam.step)⟩
def zdc.f (l0_0 : List S38) (a1 : Int) (a2 : Int) (a3 : Int) : Option (List S38 × Int × Bool) := if GGiv.fitB (l0_0.map ndT) = true ∧ GAdd.cntG (l0_0.map ndT) ≤ 100000000 then some ((GPush.za6 (l0_0.map ndT) a1 a2 a3).1.map ndS, (GPush.za6 (l0_0.map ndT) a1 a2 a3).2.1, (GPush.za6 (l0_0.map ndT) a1 a2 a3).2.2) else none
theorem zdc.calls (P0_0_ : Nat → Prop) (A0_0 : Option Addr) (c0_0 : Nat) (l0_0 : List S38) (a1 : Int) (a2 : Int) (a3 : Int) (r1 : List S38) (r2 : Int) (r3 : Bool) (w : World) (hs0_0 : Kd.V k38 38 w w.heap.size (fun k_ => P0_0_ k_) (.slice A0_0 l0_0.length c0_0) l0_0) (h : zdc.f l0_0 a1 a2 a3 = some (r1, r2, r3)) :
  Calls Try.prog 13 #[.agg #[.slice A0_0 l0_0.length c0_0], .int .i64 a1, .int .i64 a2, .int .i64 a3] w fun e w' => ∃ v0_ : Value, e = .returned (.tuple #[.agg #[v0_], .int .i64 r2, .bool r3]) ∧ Kd.V k38 38 w' w.heap.size (fun k_ => (P0_0_ k_ ∨ w.heap.size ≤ k_)) v0_ r1 ∧ Below w.heap.size w w' := by
 unfold zdc.f at h
 split at h
 case isFalse => cases h
 rename_i hok
 have h := Option.some.inj h
 injection h with h1 h2
 injection h2 with h2 h3
 subst h1; subst h2; subst h3
 have hl0 : (l0_0.map ndT).length = l0_0.length := by simp
 have hrd := Kd.V_reads' hs0_0
 have hc := GPush.zfv A0_0 c0_0 (l0_0.map ndT) a1 a2 a3 w (by rw [hl0]; exact C_ndT hrd.2.2) (by rw [hl0]; exact hrd.2.1) (GGiv.fit_fit hok.1) hok.2
 rw [hl0] at hc
 refine hc.mono ?_
 rintro e w' ⟨A', c', rfl, hl, hC, hB, hV⟩
 refine ⟨_, rfl, ?_, hB⟩
 rcases hV with ⟨rfl, rfl, hg⟩ | hR
 ·rw [hg, List.map_map, show (l0_0.map (ndS ∘ ndT)) = l0_0 from List.map_id' l0_0, hl0]
  exact Kd.zb8 (Kd.zcm hs0_0 hB) (fun k hk => .inl hk)
 ·exact GGivK.push_V (R_ndS hR)
def zan.l0 : Nat → Int → Int → Int → List (S38) → Option (Int)
 | 0, _, _, _, _ => none
 | k + 1, x1, x2, x7, x117000 => if x7 < (x117000.length : Int) then (if 0 ≤ x7 then (if ((zaa x117000 x7).f0) = x1 then (if ((zaa x117000 x7).f1) = x2 then (some x7) else (zan.l0 k x1 x2 (wrap64 (x7 + 1)) x117000)) else (zan.l0 k x1 x2 (wrap64 (x7 + 1)) x117000)) else (none)) else (some (-1))
def zan.f (k : Nat) (l0_0 : List (S38)) (a1 : Int) (a2 : Int) : Option (Int) := zan.l0 k a1 a2 0 l0_0
theorem zan.calls (k : Nat) (A0_0 : Option Addr) (c0_0 : Nat) (l0_0 : List (S38)) (a1 : Int) (a2 : Int) (r : Int) (w : World) (hr0_0 : Kd.C k38 w A0_0 l0_0.length l0_0) (hc0_0 : l0_0.length ≤ c0_0) (h : zan.f k l0_0 a1 a2 = some r) :
  Calls Try.prog 14 #[.agg #[.slice A0_0 l0_0.length c0_0], .int .i64 a1, .int .i64 a2] w fun e w' => e = .returned (.int .i64 r) ∧ Below w.heap.size w w' := by
 have hu24 := Try.underlying24
 have HR0_0 := zac.mk hr0_0;have HC0_0 := zac.mk hc0_0;clear hr0_0 hc0_0
 have HB := zac.mk (Below.refl w.heap.size w)
 have H : (zan.l0 k a1 a2 0 l0_0) = some r := h
 clear h
 have H' := zac.mk H
 clear H
 go_enter Try.func14, Try.ntmps14
 go_wp2_with (first | ((with_reducible refine zbj (N := 3) rfl ?_); refine Ybx 3 #[.slice A0_0 l0_0.length c0_0] 24 ?_; intro gb116 hg w4 hbox hb; obtain ⟨BK116, GW116, GE116, HB⟩ := Yb4 hbox hg hb Ybe; clear hb hbox hg))
 go_loopg [7] k (fun kq v7 w' => ∃ (x7_1 : Int), v7 = .int .i64 x7_1 ∧ zac (zan.l0 kq a1 a2 x7_1 l0_0 = some r) ∧ zac (kq ≤ k) ∧ zac (w'.heap[gb116]? = some (.cells #[(.slice A0_0 l0_0.length c0_0)] 24 (0, 0))) ∧ zac (Below w.heap.size w w'))
 case atStart => exact ⟨(0), Yfs, H', ⟨Nat.le_refl _⟩, ⟨Yg BK116⟩, ⟨Yb_PGssKeepsx3_0⟩⟩
 case round =>
  clear H'
  obtain ⟨x7_1, rfl, HA, HK1, BK116, HB⟩ := hrel
  cases gk with
  | zero => exact absurd HA.out (by simp [zan.l0])
  | succ k1 =>
   have H := HA.out;clear HA
   simp only [zan.l0] at H
   by_cases c5 : x7_1 < (l0_0.length : Int)
   ·rw [if_pos c5] at H
    have c5b0 := decide_eq_true c5
    clear c5
    by_cases c6 : 0 ≤ x7_1
    ·rw [if_pos c6] at H
     have c6b0 := decide_eq_true c6
     clear c6
     by_cases c7 : ((zaa l0_0 x7_1).f0) = a1
     ·rw [if_pos c7] at H
      have c7b0 : (((zaa l0_0 x7_1).f0) == a1) = true := beq_iff_eq.mpr c7
      have c7b1 : (((zaa l0_0 x7_1).f0) != a1) = false := bne_eq_false_iff_eq.mpr c7
      clear c7
      by_cases c8 : ((zaa l0_0 x7_1).f1) = a2
      ·rw [if_pos c8] at H
       have c8b0 : (((zaa l0_0 x7_1).f1) == a2) = true := beq_iff_eq.mpr c8
       have c8b1 : (((zaa l0_0 x7_1).f1) != a2) = false := bne_eq_false_iff_eq.mpr c8
       clear c8;obtain rfl := Option.some.inj H
       obtain ⟨hcz9_0, hfz9_0⟩ := Yc1 BK116.out
       have p117 : 0 ≤ (x7_1 : Int) := Yod
       have q117 : x7_1 < (l0_0.length : Int) := Yod
       obtain ⟨ad117, A117_2, c117_2, e117, hx117_0, hx117_1, hx117_2, hl117_2, hi117_2⟩ := zbx HR0_0.out x7_1 p117 q117
       cases e117
       replace hx117_0 := zaf HB.out hx117_0
       replace hx117_1 := zaf HB.out hx117_1
       replace hx117_2 := zaf HB.out hx117_2
       have HR117_2 := zac.mk hi117_2;have HC117_2 := zac.mk hl117_2;clear hi117_2 hl117_2
       replace p117 := eq_true p117
       replace q117 := eq_true q117
       have p118 : 0 ≤ (x7_1 : Int) := Yod
       have q118 : x7_1 < (l0_0.length : Int) := Yod
       obtain ⟨ad118, A118_2, c118_2, e118, hx118_0, hx118_1, hx118_2, hl118_2, hi118_2⟩ := zbx HR0_0.out x7_1 p118 q118
       obtain rfl : ad117 = ad118 := (by injection e118)
       replace hx118_0 := zaf HB.out hx118_0
       replace hx118_1 := zaf HB.out hx118_1
       replace hx118_2 := zaf HB.out hx118_2
       have HR118_2 := zac.mk hi118_2;have HC118_2 := zac.mk hl118_2;clear hi118_2 hl118_2
       replace p118 := eq_true p118
       replace q118 := eq_true q118
       have ea_ := Option.some.inj (hx117_2.symm.trans hx118_2)
       injection ea_ with ea_ en_ ec_
       subst ea_;subst ec_;clear en_;go_wp2;go_ret
       exact ⟨Yfi, Yb_PGssKeepsx3_0⟩
      ·rw [if_neg c8] at H
       have c8b0 : (((zaa l0_0 x7_1).f1) == a2) = false := beq_eq_false_iff_ne.mpr c8
       have c8b1 : (((zaa l0_0 x7_1).f1) != a2) = true := bne_iff_ne.mpr c8
       have H' := zac.mk H
       clear H
       obtain ⟨hcz10_0, hfz10_0⟩ := Yc1 BK116.out
       have p117 : 0 ≤ (x7_1 : Int) := Yod
       have q117 : x7_1 < (l0_0.length : Int) := Yod
       obtain ⟨ad117, A117_2, c117_2, e117, hx117_0, hx117_1, hx117_2, hl117_2, hi117_2⟩ := zbx HR0_0.out x7_1 p117 q117
       cases e117
       replace hx117_0 := zaf HB.out hx117_0
       replace hx117_1 := zaf HB.out hx117_1
       replace hx117_2 := zaf HB.out hx117_2
       have HR117_2 := zac.mk hi117_2;have HC117_2 := zac.mk hl117_2;clear hi117_2 hl117_2
       replace p117 := eq_true p117
       replace q117 := eq_true q117
       have p118 : 0 ≤ (x7_1 : Int) := Yod
       have q118 : x7_1 < (l0_0.length : Int) := Yod
       obtain ⟨ad118, A118_2, c118_2, e118, hx118_0, hx118_1, hx118_2, hl118_2, hi118_2⟩ := zbx HR0_0.out x7_1 p118 q118
       obtain rfl : ad117 = ad118 := (by injection e118)
       replace hx118_0 := zaf HB.out hx118_0
       replace hx118_1 := zaf HB.out hx118_1
       replace hx118_2 := zaf HB.out hx118_2
       have HR118_2 := zac.mk hi118_2;have HC118_2 := zac.mk hl118_2;clear hi118_2 hl118_2
       replace p118 := eq_true p118
       replace q118 := eq_true q118
       have ea_ := Option.some.inj (hx117_2.symm.trans hx118_2)
       injection ea_ with ea_ en_ ec_
       subst ea_;subst ec_;clear en_;go_wp2
       go_roundg k1
       case measure => have := HK1.out; omega
       case rel => exact ⟨(wrap64 (x7_1 + 1)), Yfs, H', ⟨by have := HK1.out; omega⟩, ⟨Yg BK116⟩, ⟨Yb_PGssKeepsx3_0⟩⟩
     ·rw [if_neg c7] at H
      have c7b0 : (((zaa l0_0 x7_1).f0) == a1) = false := beq_eq_false_iff_ne.mpr c7
      have c7b1 : (((zaa l0_0 x7_1).f0) != a1) = true := bne_iff_ne.mpr c7
      have H' := zac.mk H
      clear H
      obtain ⟨hcz11_0, hfz11_0⟩ := Yc1 BK116.out
      have p117 : 0 ≤ (x7_1 : Int) := Yod
      have q117 : x7_1 < (l0_0.length : Int) := Yod
      obtain ⟨ad117, A117_2, c117_2, e117, hx117_0, hx117_1, hx117_2, hl117_2, hi117_2⟩ := zbx HR0_0.out x7_1 p117 q117
      cases e117
      replace hx117_0 := zaf HB.out hx117_0
      replace hx117_1 := zaf HB.out hx117_1
      replace hx117_2 := zaf HB.out hx117_2
      have HR117_2 := zac.mk hi117_2;have HC117_2 := zac.mk hl117_2;clear hi117_2 hl117_2
      replace p117 := eq_true p117
      replace q117 := eq_true q117
      go_wp2
      go_roundg k1
      case measure => have := HK1.out; omega
      case rel => exact ⟨(wrap64 (x7_1 + 1)), Yfs, H', ⟨by have := HK1.out; omega⟩, ⟨Yg BK116⟩, ⟨Yb_PGssKeepsx3_0⟩⟩
    ·rw [if_neg c6] at H
     exact absurd H (by simp)
   ·rw [if_neg c5] at H
    have c5b0 := decide_eq_false c5
    clear c5;obtain rfl := Option.some.inj H
    obtain ⟨hcz12_0, hfz12_0⟩ := Yc1 BK116.out
    go_wp2;go_ret
    exact ⟨Yfi, Yb_PGssKeepsx3_0⟩
theorem Yb_PGssKeepsx4_0 {n : Nat} {w w' : World} (h : Below n w w' := by repeat (first | (with_reducible first | exact HB.out | apply za8 | apply za1 | apply zas | refine zbg ?_ GE119.out) | exact HB.out)) : Below n w w' := h
theorem Yb_PGssKeepsx4_1 {n : Nat} {w w' : World} (h : Below n w w' := by repeat (first | (with_reducible first | exact HB.out | apply za8 | apply za1 | apply zas | refine zbg ?_ GE119.out | refine zbg ?_ GE142.out) | exact HB.out)) : Below n w w' := h
mutual
def zab.j0 : Nat → Int → Int → Int → Int → Int → Bool → List (S38) → Option (Bool)
 | 0, _, _, _, _, _, _, _ => none
 | k + 1, x1, x2, x3, x4, x5, x36, x120000 => if x36 = true then ((zax.f).bind fun t122 => (some t122)) else ((zct.f x120000 x1 x2).bind fun bt123 => ((zb5.f x120000 x1 x2).bind fun t127 => (zab.l0 k x1 x2 x3 x4 x5 bt123.1 bt123.2 t127 bt123.1 (bt123.1.length : Int) 0 x120000)))
def zab.l0 : Nat → Int → Int → Int → Int → Int → List (List Int) → Int → List Int → List (List Int) → Int → Int → List (S38) → Option (Bool)
 | 0, _, _, _, _, _, _, _, _, _, _, _, _ => none
 | k + 1, x1, x2, x3, x4, x5, x13, x14, x15, x49, x50, x51, x120000 => if x51 < x50 then (if 0 ≤ x51 then (if x51 < (x49.length : Int) then (if ((za0 x49 x51).length : Int) = (wrap64 (x2 + 1)) then (if 0 < ((za0 x49 x51).length : Int) then (if (rd (za0 x49 x51) 0) = x1 then (if 0 ≤ x2 then (if x2 < ((za0 x49 x51).length : Int) then ((zau.f k x15 (rd (za0 x49 x51) x2)).bind fun t133 => (if t133 = true then (zab.l0 k x1 x2 x3 x4 x5 x13 x14 x15 x49 x50 (wrap64 (x51 + 1)) x120000) else (some false))) else (none)) else (none)) else (some false)) else (none)) else (some false)) else (none)) else (none)) else (if x14 = 0 then (zab.l1 k x1 x2 x3 x4 x5 x13 x15 x15 (x15.length : Int) 0 x120000) else (zab.j4 k x1 x2 x3 x4 x5 x15 x120000))
def zab.j4 : Nat → Int → Int → Int → Int → Int → List Int → List (S38) → Option (Bool)
 | 0, _, _, _, _, _, _, _ => none
 | k + 1, x1, x2, x3, x4, x5, x15, x120000 => (zdc.f x120000 x3 x4 x5).bind fun bt137 => ((zad.f k bt137.1).bind fun t143 => (if t143 = true then (if x1 < 0 then (zab.j5 k x1 x2 x15 true x120000 bt137.1) else (zab.j5 k x1 x2 x15 (decide (x1 ≥ (x120000.length : Int))) x120000 bt137.1)) else (zab.j5 k x1 x2 x15 true x120000 bt137.1)))
def zab.j5 : Nat → Int → Int → List Int → Bool → List (S38) → List (S38) → Option (Bool)
 | 0, _, _, _, _, _, _ => none
 | k + 1, x1, x2, x15, x126, x120000, x143000 => if x126 = true then ((zad.f k x143000).bind fun t144 => (if t144 = true then ((zax.f).bind fun t145 => (some t145)) else (some false))) else (if 0 ≤ x1 then (if x1 < (x120000.length : Int) then ((zan.f k x143000 ((zaa x120000 x1).f0) ((zaa x120000 x1).f1)).bind fun t148 => ((zb5.f x143000 t148 x2).bind fun t149 => (zab.l3 k t149 x15 (x15.length : Int) 0 x120000 x143000))) else (none)) else (none))
def zab.l3 : Nat → List Int → List Int → Int → Int → List (S38) → List (S38) → Option (Bool)
 | 0, _, _, _, _, _, _ => none
 | k + 1, x26, x149, x150, x151, x120000, x143000 => if x151 < x150 then (if 0 ≤ x151 then (if x151 < (x149.length : Int) then (if 0 ≤ (rd x149 x151) then (if (rd x149 x151) < (x120000.length : Int) then ((zan.f k x143000 ((zaa x120000 (rd x149 x151)).f0) ((zaa x120000 (rd x149 x151)).f1)).bind fun t156 => ((zau.f k x26 t156).bind fun t157 => (if t157 = true then (zab.l3 k x26 x149 x150 (wrap64 (x151 + 1)) x120000 x143000) else (some false)))) else (none)) else (none)) else (none)) else (none)) else ((zax.f).bind fun t152 => (some t152))
def zab.l1 : Nat → Int → Int → Int → Int → Int → List (List Int) → List Int → List Int → Int → Int → List (S38) → Option (Bool)
 | 0, _, _, _, _, _, _, _, _, _, _, _ => none
 | k + 1, x1, x2, x3, x4, x5, x13, x15, x79, x80, x81, x120000 => if x81 < x80 then (if 0 ≤ x81 then (if x81 < (x79.length : Int) then (zab.l2 k x1 x2 x3 x4 x5 x13 x15 (rd x79 x81) false x79 x80 x81 x13 (x13.length : Int) 0 x120000) else (none)) else (none)) else (zab.j4 k x1 x2 x3 x4 x5 x15 x120000)
def zab.l2 : Nat → Int → Int → Int → Int → Int → List (List Int) → List Int → Int → Bool → List Int → Int → Int → List (List Int) → Int → Int → List (S38) → Option (Bool)
 | 0, _, _, _, _, _, _, _, _, _, _, _, _, _, _, _, _ => none
 | k + 1, x1, x2, x3, x4, x5, x13, x15, x19, x20, x79, x80, x81, x85, x86, x87, x120000 => if x87 < x86 then (if 0 ≤ x87 then (if x87 < (x85.length : Int) then (if x20 = true then (zab.l2 k x1 x2 x3 x4 x5 x13 x15 x19 true x79 x80 x81 x85 x86 (wrap64 (x87 + 1)) x120000) else (if 0 ≤ x2 then (if x2 < ((za0 x85 x87).length : Int) then (zab.l2 k x1 x2 x3 x4 x5 x13 x15 x19 ((rd (za0 x85 x87) x2) == x19) x79 x80 x81 x85 x86 (wrap64 (x87 + 1)) x120000) else (none)) else (none))) else (none)) else (none)) else (if x20 = true then (zab.l1 k x1 x2 x3 x4 x5 x13 x15 x79 x80 (wrap64 (x81 + 1)) x120000) else (some false))
end
def zab.f (k : Nat) (l0_0 : List (S38)) (a1 : Int) (a2 : Int) (a3 : Int) (a4 : Int) (a5 : Int) : Option (Bool) := (zav.f k l0_0).bind fun t120 => (if t120 = true then ((zad.f k l0_0).bind fun t121 => (zab.j0 k a1 a2 a3 a4 a5 (!t121) l0_0)) else (zab.j0 k a1 a2 a3 a4 a5 true l0_0))
def zab.T27 : Bool × List (List Nat × List Nat) := (true, [([], []), ([], []), ([], []), ([2], [2]), ([], []), ([3, 4], [3, 4]), ([5], [5]), ([6], [6]), ([], []), ([8], [8]), ([], []), ([9, 10], [9, 10]), ([11], [11]), ([12], [12]), ([1, 7, 13], [1, 7, 13]), ([], []), ([0, 14, 15, 14], [0, 14, 15]), ([16, 16, 0, 1, 2, 3, 4, 5, 6, 7, 8, 9, 10, 11, 12, 13, 14, 15, 16], [16])])
def zab.B27 : List Nat := [0, 0, 0, 4, 0, 28, 60, 124, 0, 256, 0, 1792, 3840, 7936, 16382, 0, 65535, 131071]
theorem zab.tab27 : rtab .any (opsOf Try.f3 27) = zab.T27 := by kernel_rfl
theorem zab.bits27 : zcn zab.T27.2 zab.B27 = true := by kernel_rfl
def zab.T31 : Bool × List (List Nat × List Nat) := (true, [([], []), ([], []), ([], []), ([2], [2]), ([], []), ([3, 4], [3, 4]), ([5], [5]), ([6], [6]), ([], []), ([8], [8]), ([], []), ([9, 10], [9, 10]), ([11], [11]), ([12], [12]), ([1, 7, 13], [1, 7, 13]), ([0, 14, 14], [0, 14]), ([15], [15])])
def zab.B31 : List Nat := [0, 0, 0, 4, 0, 28, 60, 124, 0, 256, 0, 1792, 3840, 7936, 16382, 32767, 65535]
theorem zab.tab31 : rtab .any (opsOf Try.f3 31) = zab.T31 := by kernel_rfl
theorem zab.bits31 : zcn zab.T31.2 zab.B31 = true := by kernel_rfl
theorem zab.calls (k : Nat) (A0_0 : Option Addr) (c0_0 : Nat) (l0_0 : List (S38)) (a1 : Int) (a2 : Int) (a3 : Int) (a4 : Int) (a5 : Int) (r : Bool) (w : World) (hr0_0 : Kd.C k38 w A0_0 l0_0.length l0_0) (hc0_0 : l0_0.length ≤ c0_0) (h : zab.f k l0_0 a1 a2 a3 a4 a5 = some r) :
  Calls Try.prog 3 #[.agg #[.slice A0_0 l0_0.length c0_0], .int .i64 a1, .int .i64 a2, .int .i64 a3, .int .i64 a4, .int .i64 a5] w fun e w' => e = .returned (.bool r) ∧ Below w.heap.size w w' := by
 have hu24 := Try.underlying24
 have HR0_0 := zac.mk hr0_0;have HC0_0 := zac.mk hc0_0;clear hr0_0 hc0_0
 have HB := zac.mk (Below.refl w.heap.size w)
 have H : ((zav.f k l0_0).bind fun t120 => (if t120 = true then ((zad.f k l0_0).bind fun t121 => (zab.j0 k a1 a2 a3 a4 a5 (!t121) l0_0)) else (zab.j0 k a1 a2 a3 a4 a5 true l0_0))) = some r := h
 clear h;have HC7 := zac.mk H;clear H
 go_enter Try.func3, Try.ntmps3
 go_upto_region 1 with (first | ((with_reducible refine zbj (N := 6) rfl ?_); (try (refine zc7 (by rfl) ?_; dsimp only)); refine Ybx 6 #[.slice A0_0 l0_0.length c0_0] 24 ?_; intro gb119 hg w8 hbox hb; obtain ⟨BK119, GW119, GE119, HB⟩ := Yb4 hbox hg hb Ybe; clear hb hbox hg))
 (try simp only [Act.put, Y1, Y2, Y3])
 go_cut [36] (fun v36 wc => ∃ (kq : Nat) (x36_6 : Bool), v36 = .bool x36_6 ∧ zac (zab.j0 kq a1 a2 a3 a4 a5 x36_6 l0_0 = some r) ∧ zac (kq ≤ k) ∧ zac (wc.heap[gb119]? = some (.cells #[(.slice A0_0 l0_0.length c0_0)] 24 (0, 0))) ∧ zac (Below w.heap.size w wc))
 case first =>
  have H := HC7.out;clear HC7;replace H := Option.bind_eq_some_iff.mp H
  obtain ⟨t120, A90, H⟩ := H
  replace H : (if t120 = true then ((zad.f k l0_0).bind fun t121 => (zab.j0 k a1 a2 a3 a4 a5 (!t121) l0_0)) else (zab.j0 k a1 a2 a3 a4 a5 true l0_0)) = some r := H
  have A9 := zac.mk A90;clear A90
  by_cases c10 : t120 = true
  ·subst c10
   have H1 : ((zad.f k l0_0).bind fun t121 => (zab.j0 k a1 a2 a3 a4 a5 (!t121) l0_0)) = some r := by rw [if_pos rfl] at H; exact H
   clear H;have H := H1;clear H1;replace H := Option.bind_eq_some_iff.mp H
   obtain ⟨t121, A110, H⟩ := H
   replace H : (zab.j0 k a1 a2 a3 a4 a5 (!t121) l0_0) = some r := H
   have A11 := zac.mk A110;clear A110
   have H' := zac.mk H
   clear H
   obtain ⟨hcz12_0, hfz12_0⟩ := Yc1 BK119.out
   go_wp2_with (first | ((with_reducible refine zaw (f := 7) rfl ?_); refine Ygl (some 30) Try.func7 #[.agg #[.slice A0_0 l0_0.length c0_0]] ?_; (with_reducible refine (zav.calls k _ _ l0_0 true _ (Kd.zaz HR0_0.out Ybe) HC0_0.out A9.out).mono ?_); rintro e w13 ⟨rfl, hb⟩; refine ⟨_, rfl, ?_⟩; replace BK119 := Ykb BK119 hb; replace HB := zac.mk (za5 Yb_PGssKeepsx4_0 hb); (try clear hb); (try clear hb2); (try clear hk); (try clear hi); obtain ⟨hcz14_0, hfz14_0⟩ := Yc1 BK119.out) | (go_at_call 8; (with_reducible refine (zad.calls k _ _ l0_0 t121 _ (Kd.zaz HR0_0.out Ybe) HC0_0.out A11.out).mono ?_); rintro e w15 ⟨rfl, hb⟩; replace BK119 := Ykb BK119 hb; replace HB := zac.mk (za5 Yb_PGssKeepsx4_0 hb); (try clear hb); (try clear hb2); (try clear hk); (try clear hi)))
   go_meet
   case rel => exact ⟨_, (!t121), Yfs, H', ⟨by first | omega | exact Nat.le_refl _⟩, ⟨Yg BK119⟩, ⟨Yb_PGssKeepsx4_0⟩⟩
  ·replace c10 := Bool.eq_false_iff.mpr c10
   subst c10
   have H1 : (zab.j0 k a1 a2 a3 a4 a5 true l0_0) = some r := by rw [if_neg (show ¬ (false = true) by decide)] at H; exact H
   clear H;have H := H1;clear H1
   have H' := zac.mk H
   clear H
   obtain ⟨hcz16_0, hfz16_0⟩ := Yc1 BK119.out
   go_wp2_with (first | ((with_reducible refine zaw (f := 7) rfl ?_); refine Ygl (some 30) Try.func7 #[.agg #[.slice A0_0 l0_0.length c0_0]] ?_; (with_reducible refine (zav.calls k _ _ l0_0 false _ (Kd.zaz HR0_0.out Ybe) HC0_0.out A9.out).mono ?_); rintro e w17 ⟨rfl, hb⟩; refine ⟨_, rfl, ?_⟩; replace BK119 := Ykb BK119 hb; replace HB := zac.mk (za5 Yb_PGssKeepsx4_0 hb); (try clear hb); (try clear hb2); (try clear hk); (try clear hi)))
   go_meet
   case rel => exact ⟨_, (true), Yfs, H', ⟨by first | omega | exact Nat.le_refl _⟩, ⟨Yg BK119⟩, ⟨Yb_PGssKeepsx4_0⟩⟩
 case rest =>
  clear HC7
  obtain ⟨kq, x36_6, rfl, HA, HJ6, BK119, HB⟩ := hcut
  cases kq with
  | zero => exact absurd HA.out (by simp [zab.j0])
  | succ kj6 =>
   have H := HA.out;clear HA
   simp only [zab.j0] at H
   by_cases c18 : x36_6 = true
   ·subst c18
    have H1 : ((zax.f).bind fun t122 => (some t122)) = some r := by rw [if_pos rfl] at H; exact H
    clear H;have H := H1;clear H1;replace H := Option.bind_eq_some_iff.mp H
    obtain ⟨t122, A190, H⟩ := H
    replace H : (some t122) = some r := H
    have A19 := zac.mk A190;clear A190;obtain rfl := Option.some.inj H
    go_wp2_with (first | ((with_reducible refine zaw (f := 9) rfl ?_); refine Ygl (some 37) Try.func9 #[] ?_; (with_reducible refine (zax.calls  t122 _ A19.out).mono ?_); rintro e w20 ⟨rfl, hb⟩; refine ⟨_, rfl, ?_⟩; replace BK119 := Ykb BK119 hb; replace HB := zac.mk (za5 Yb_PGssKeepsx4_0 hb); (try clear hb); (try clear hb2); (try clear hk); (try clear hi)))
    go_ret
    exact ⟨Yfi, Yb_PGssKeepsx4_0⟩
   ·replace c18 := Bool.eq_false_iff.mpr c18
    subst c18
    have H1 : ((zct.f l0_0 a1 a2).bind fun bt123 => ((zb5.f l0_0 a1 a2).bind fun t127 => (zab.l0 kj6 a1 a2 a3 a4 a5 bt123.1 bt123.2 t127 bt123.1 (bt123.1.length : Int) 0 l0_0))) = some r := by rw [if_neg (show ¬ (false = true) by decide)] at H; exact H
    clear H;have H := H1;clear H1;replace H := Option.bind_eq_some_iff.mp H
    obtain ⟨⟨t123, t126⟩, A210, H⟩ := H
    replace H : ((zb5.f l0_0 a1 a2).bind fun t127 => (zab.l0 kj6 a1 a2 a3 a4 a5 t123 t126 t127 t123 (t123.length : Int) 0 l0_0)) = some r := H
    have A21 := zac.mk A210;clear A210;replace H := Option.bind_eq_some_iff.mp H
    obtain ⟨t127, A220, H⟩ := H
    replace H : (zab.l0 kj6 a1 a2 a3 a4 a5 t123 t126 t127 t123 (t123.length : Int) 0 l0_0) = some r := H
    have A22 := zac.mk A220;clear A220
    have H' := zac.mk H
    clear H
    obtain ⟨hcz23_0, hfz23_0⟩ := Yc1 BK119.out
    go_wp2_with (first | ((with_reducible refine zaw (f := 10) rfl ?_); refine Ygl (some 42) Try.func10 #[.agg #[.slice A0_0 l0_0.length c0_0], .int .i64 a1, .int .i64 a2] ?_; (with_reducible refine (zct.calls _ _ l0_0 a1 a2 t123 t126 _ (Kd.zaz HR0_0.out Ybe) HC0_0.out A21.out).mono ?_); rintro e w24 ⟨v124, rfl, ho0, hb⟩; refine ⟨_, rfl, ?_⟩; have HO125 := zac.mk (Kd.zck ho0 (zcv Yb_PGssKeepsx4_0)); replace BK119 := Ykb BK119 hb; replace HB := zac.mk (za5 Yb_PGssKeepsx4_0 hb); (try clear hb); (try clear hb2); (try clear hk); (try clear hi); (try clear ho0); obtain ⟨hcz25_0, hfz25_0⟩ := Yc1 BK119.out) | ((with_reducible refine zaw (f := 11) rfl ?_); refine Ygl (some 48) Try.func11 #[.agg #[.slice A0_0 l0_0.length c0_0], .int .i64 a1, .int .i64 a2] ?_; (with_reducible refine (zb5.calls _ _ l0_0 a1 a2 t127 _ (Kd.zaz HR0_0.out Ybe) HC0_0.out A22.out).mono ?_); rintro e w26 ⟨v128, rfl, ho0, hb⟩; refine ⟨_, rfl, ?_⟩; replace HO125 := zac.mk (Kd.R_elder' (Yr HO125) (Kd.R_base ho0) hb); have HO129 := zac.mk (Kd.zck ho0 (zcv Yb_PGssKeepsx4_0)); replace BK119 := Ykb BK119 hb; replace HB := zac.mk (za5 Yb_PGssKeepsx4_0 hb); (try clear hb); (try clear hb2); (try clear hk); (try clear hi); (try clear ho0); obtain ⟨Ao27, co27, eo27⟩ := Kd.zb6 HO125.out; subst eo27))
    go_loopg [51] kj6 (fun kq v51 w' => ∃ (x51_2 : Int), v51 = .int .i64 x51_2 ∧ zac (zab.l0 kq a1 a2 a3 a4 a5 t123 t126 t127 t123 (t123.length : Int) x51_2 l0_0 = some r) ∧ zac (kq ≤ kj6) ∧ zac (Kd.R (Kd.slice 3 (Kd.int .i64)) 31 w' w.heap.size (fun k_ => some k_ ≠ (v128 : Value).ownBlock) (.slice Ao27 t123.length co27) t123) ∧ zac (Kd.R (Kd.int .i64) 3 w' w.heap.size (fun _ => True) v128 t127) ∧ zac (Kd.R (Kd.slice 3 (Kd.int .i64)) 31 w' w.heap.size (fun k_ => some k_ ≠ (v128 : Value).ownBlock) (.slice Ao27 t123.length co27) t123) ∧ zac (w'.heap[gb119]? = some (.cells #[(.slice A0_0 l0_0.length c0_0)] 24 (0, 0))) ∧ zac (Below w.heap.size w w'))
    case atStart => exact ⟨(0), Yfs, H', ⟨Nat.le_refl _⟩, ⟨by (with_reducible repeat (first | apply Kd.zcr | apply Kd.zc6 | apply Kd.zco)); exact Kd.zbr HO125.out (fun _ hk => hk.2)⟩, ⟨Yr HO129⟩, ⟨by (with_reducible repeat (first | apply Kd.zcr | apply Kd.zc6 | apply Kd.zco)); exact Kd.zbr HO125.out (fun _ hk => hk.2)⟩, ⟨Yg BK119⟩, ⟨Yb_PGssKeepsx4_0⟩⟩
    case round =>
     clear H'
     obtain ⟨x51_2, rfl, HA, HK2, HO_13, HO_15, HO_49, BK119, HB⟩ := hrel
     cases gk with
     | zero => exact absurd HA.out (by simp [zab.l0])
     | succ k2 =>
      have H := HA.out;clear HA
      simp only [zab.l0] at H
      by_cases c28 : x51_2 < (t123.length : Int)
      ·rw [if_pos c28] at H
       have c28b0 := decide_eq_true c28
       clear c28
       by_cases c29 : 0 ≤ x51_2
       ·rw [if_pos c29] at H
        have c29b0 := decide_eq_true c29
        clear c29
        by_cases c30 : x51_2 < (t123.length : Int)
        ·rw [if_pos c30] at H
         have c30b0 := decide_eq_true c30
         clear c30
         by_cases c31 : ((za0 t123 x51_2).length : Int) = (wrap64 (a2 + 1))
         ·rw [if_pos c31] at H
          have c31b0 : (((za0 t123 x51_2).length : Int) == (wrap64 (a2 + 1))) = true := beq_iff_eq.mpr c31
          have c31b1 : (((za0 t123 x51_2).length : Int) != (wrap64 (a2 + 1))) = false := bne_eq_false_iff_eq.mpr c31
          clear c31
          by_cases c32 : 0 < ((za0 t123 x51_2).length : Int)
          ·rw [if_pos c32] at H
           have c32b0 := decide_eq_true c32
           have c32b1 : decide (0 < (za0 t123 x51_2).length) = true := decide_eq_true (by omega)
           clear c32
           by_cases c33 : (rd (za0 t123 x51_2) 0) = a1
           ·rw [if_pos c33] at H
            have c33b0 : ((rd (za0 t123 x51_2) 0) == a1) = true := beq_iff_eq.mpr c33
            have c33b1 : ((rd (za0 t123 x51_2) 0) != a1) = false := bne_eq_false_iff_eq.mpr c33
            clear c33
            by_cases c34 : 0 ≤ a2
            ·rw [if_pos c34] at H
             have c34b0 := decide_eq_true c34
             clear c34
             by_cases c35 : a2 < ((za0 t123 x51_2).length : Int)
             ·rw [if_pos c35] at H
              have c35b0 := decide_eq_true c35
              clear c35;replace H := Option.bind_eq_some_iff.mp H
              obtain ⟨t133, A360, H⟩ := H
              replace H : (if t133 = true then (zab.l0 k2 a1 a2 a3 a4 a5 t123 t126 t127 t123 (t123.length : Int) (wrap64 (x51_2 + 1)) l0_0) else (some false)) = some r := H
              have A36 := zac.mk A360;clear A360
              by_cases c37 : t133 = true
              ·subst c37
               have H1 : (zab.l0 k2 a1 a2 a3 a4 a5 t123 t126 t127 t123 (t123.length : Int) (wrap64 (x51_2 + 1)) l0_0) = some r := by rw [if_pos rfl] at H; exact H
               clear H;have H := H1;clear H1
               have H' := zac.mk H
               clear H
               have p130 : 0 ≤ (x51_2 : Int) := Yod
               have q130 : x51_2 < (t123.length : Int) := Yod
               obtain ⟨ad130, A130_0, c130_0, e130, hx130_0, hl130_0, hi130_0⟩ := at_L1 (Kd.R_reads' HO_49.out).2.2 x51_2 p130 q130
               cases e130
               obtain ⟨ce130, hce130, hMe130, hcc130⟩ := Kd.R_get HO_49.out [] x51_2 p130 (by first | exact q130 | exact of_decide_eq_true (by first | (with_reducible assumption) | assumption) | (have e_ := (Kd.R_reads' HO_49.out).1; omega))
               obtain ⟨ve130_0, rfl, ge130_0⟩ := hMe130
               have hv130_0 := hcc130 0 _ rfl
               rw [Nat.add_zero, show ((Kd.slice 3 (Kd.int .i64))).sz = 1 from rfl, Nat.mul_one] at hv130_0
               replace hv130_0 := Option.some.inj (hv130_0.symm.trans hx130_0)
               rw [hv130_0] at ge130_0
               have HL130_0 := zac.mk (show Kd.R (Kd.int .i64) 3 _ _ _ _ (za0 t123 x51_2) from ge130_0)
               clear hv130_0 ge130_0;clear hcc130 hce130;have HR130_0 := zac.mk hi130_0;have HC130_0 := zac.mk hl130_0;clear hi130_0 hl130_0
               replace p130 := eq_true p130
               replace q130 := eq_true q130
               have p131 : 0 ≤ (0 : Int) := (by omega)
               have q131 : 0 < ((za0 t123 x51_2).length : Int) := Yod
               obtain ⟨ad131, e131, hx131_0⟩ := Kd.zbe (by repeat (first | (with_reducible exact HR130_0.out) | (with_reducible refine Kd.C_alloc ?_ _) | (with_reducible refine Kd.C_drewN ?_ _) | (with_reducible refine Kd.C_drew ?_) | exact HR130_0.out)) 0 p131 q131
               cases e131
               have qi131 : (0 < (za0 t123 x51_2).length) = True := eq_true (by omega)
               (try rw [show ((0 : Int)).toNat = 0 from rfl] at hx131_0)
               (try rw [Addr.add_zero'] at hx131_0)
               replace p131 := eq_true p131
               replace q131 := eq_true q131
               have p132 : 0 ≤ (a2 : Int) := Yod
               have q132 : a2 < ((za0 t123 x51_2).length : Int) := Yod
               obtain ⟨ad132, e132, hx132_0⟩ := Kd.zbe (by repeat (first | (with_reducible exact HR130_0.out) | (with_reducible refine Kd.C_alloc ?_ _) | (with_reducible refine Kd.C_drewN ?_ _) | (with_reducible refine Kd.C_drew ?_) | exact HR130_0.out)) a2 p132 q132
               obtain rfl : ad131 = ad132 := (by injection e132)
               replace p132 := eq_true p132
               replace q132 := eq_true q132
               obtain ⟨Ao38, co38, eo38⟩ := Kd.zb6 HO_15.out
               subst eo38
               go_wp2_with (first | (go_at_call 12; (with_reducible refine (zau.calls k2 _ _ t127 (rd (za0 t123 x51_2) a2) true _ ?side1 ?side2 A36.out).mono ?_); (case side1 => repeat (first | exact (Kd.R_reads' HO_15.out).2.2 | (with_reducible refine Kd.C_alloc ?_ _) | (with_reducible refine Kd.C_drewN ?_ _) | (with_reducible refine Kd.C_drew ?_))); (case side2 => exact (Kd.R_reads' HO_15.out).2.1); rintro e w' ⟨rfl, ⟨nd, rfl⟩⟩))
               go_roundg k2
               case measure => have := HJ6.out; have := HK2.out; omega
               case rel => exact ⟨(wrap64 (x51_2 + 1)), Yfs, H', ⟨by have := HJ6.out; have := HK2.out; omega⟩, ⟨Yr HO_13⟩, ⟨Yr HO_15⟩, ⟨Yr HO_49⟩, ⟨Yg BK119⟩, ⟨Yb_PGssKeepsx4_0⟩⟩
              ·replace c37 := Bool.eq_false_iff.mpr c37
               subst c37
               have H1 : (some false) = some r := by rw [if_neg (show ¬ (false = true) by decide)] at H; exact H
               clear H;have H := H1;clear H1;obtain rfl := Option.some.inj H
               have p130 : 0 ≤ (x51_2 : Int) := Yod
               have q130 : x51_2 < (t123.length : Int) := Yod
               obtain ⟨ad130, A130_0, c130_0, e130, hx130_0, hl130_0, hi130_0⟩ := at_L1 (Kd.R_reads' HO_49.out).2.2 x51_2 p130 q130
               cases e130
               obtain ⟨ce130, hce130, hMe130, hcc130⟩ := Kd.R_get HO_49.out [] x51_2 p130 (by first | exact q130 | exact of_decide_eq_true (by first | (with_reducible assumption) | assumption) | (have e_ := (Kd.R_reads' HO_49.out).1; omega))
               obtain ⟨ve130_0, rfl, ge130_0⟩ := hMe130
               have hv130_0 := hcc130 0 _ rfl
               rw [Nat.add_zero, show ((Kd.slice 3 (Kd.int .i64))).sz = 1 from rfl, Nat.mul_one] at hv130_0
               replace hv130_0 := Option.some.inj (hv130_0.symm.trans hx130_0)
               rw [hv130_0] at ge130_0
               have HL130_0 := zac.mk (show Kd.R (Kd.int .i64) 3 _ _ _ _ (za0 t123 x51_2) from ge130_0)
               clear hv130_0 ge130_0;clear hcc130 hce130;have HR130_0 := zac.mk hi130_0;have HC130_0 := zac.mk hl130_0;clear hi130_0 hl130_0
               replace p130 := eq_true p130
               replace q130 := eq_true q130
               have p131 : 0 ≤ (0 : Int) := (by omega)
               have q131 : 0 < ((za0 t123 x51_2).length : Int) := Yod
               obtain ⟨ad131, e131, hx131_0⟩ := Kd.zbe (by repeat (first | (with_reducible exact HR130_0.out) | (with_reducible refine Kd.C_alloc ?_ _) | (with_reducible refine Kd.C_drewN ?_ _) | (with_reducible refine Kd.C_drew ?_) | exact HR130_0.out)) 0 p131 q131
               cases e131
               have qi131 : (0 < (za0 t123 x51_2).length) = True := eq_true (by omega)
               (try rw [show ((0 : Int)).toNat = 0 from rfl] at hx131_0)
               (try rw [Addr.add_zero'] at hx131_0)
               replace p131 := eq_true p131
               replace q131 := eq_true q131
               have p132 : 0 ≤ (a2 : Int) := Yod
               have q132 : a2 < ((za0 t123 x51_2).length : Int) := Yod
               obtain ⟨ad132, e132, hx132_0⟩ := Kd.zbe (by repeat (first | (with_reducible exact HR130_0.out) | (with_reducible refine Kd.C_alloc ?_ _) | (with_reducible refine Kd.C_drewN ?_ _) | (with_reducible refine Kd.C_drew ?_) | exact HR130_0.out)) a2 p132 q132
               obtain rfl : ad131 = ad132 := (by injection e132)
               replace p132 := eq_true p132
               replace q132 := eq_true q132
               obtain ⟨Ao39, co39, eo39⟩ := Kd.zb6 HO_15.out
               subst eo39
               go_wp2_with (first | (go_at_call 12; (with_reducible refine (zau.calls k2 _ _ t127 (rd (za0 t123 x51_2) a2) false _ ?side1 ?side2 A36.out).mono ?_); (case side1 => repeat (first | exact (Kd.R_reads' HO_15.out).2.2 | (with_reducible refine Kd.C_alloc ?_ _) | (with_reducible refine Kd.C_drewN ?_ _) | (with_reducible refine Kd.C_drew ?_))); (case side2 => exact (Kd.R_reads' HO_15.out).2.1); rintro e w' ⟨rfl, ⟨nd, rfl⟩⟩))
               go_ret
               exact ⟨Yfi, Yb_PGssKeepsx4_0⟩
             ·rw [if_neg c35] at H
              exact absurd H (by simp)
            ·rw [if_neg c34] at H
             exact absurd H (by simp)
           ·rw [if_neg c33] at H
            have c33b0 : ((rd (za0 t123 x51_2) 0) == a1) = false := beq_eq_false_iff_ne.mpr c33
            have c33b1 : ((rd (za0 t123 x51_2) 0) != a1) = true := bne_iff_ne.mpr c33
            obtain rfl := Option.some.inj H
            have p130 : 0 ≤ (x51_2 : Int) := Yod
            have q130 : x51_2 < (t123.length : Int) := Yod
            obtain ⟨ad130, A130_0, c130_0, e130, hx130_0, hl130_0, hi130_0⟩ := at_L1 (Kd.R_reads' HO_49.out).2.2 x51_2 p130 q130
            cases e130
            obtain ⟨ce130, hce130, hMe130, hcc130⟩ := Kd.R_get HO_49.out [] x51_2 p130 (by first | exact q130 | exact of_decide_eq_true (by first | (with_reducible assumption) | assumption) | (have e_ := (Kd.R_reads' HO_49.out).1; omega))
            obtain ⟨ve130_0, rfl, ge130_0⟩ := hMe130
            have hv130_0 := hcc130 0 _ rfl
            rw [Nat.add_zero, show ((Kd.slice 3 (Kd.int .i64))).sz = 1 from rfl, Nat.mul_one] at hv130_0
            replace hv130_0 := Option.some.inj (hv130_0.symm.trans hx130_0)
            rw [hv130_0] at ge130_0
            have HL130_0 := zac.mk (show Kd.R (Kd.int .i64) 3 _ _ _ _ (za0 t123 x51_2) from ge130_0)
            clear hv130_0 ge130_0;clear hcc130 hce130;have HR130_0 := zac.mk hi130_0;have HC130_0 := zac.mk hl130_0;clear hi130_0 hl130_0
            replace p130 := eq_true p130
            replace q130 := eq_true q130
            have p131 : 0 ≤ (0 : Int) := (by omega)
            have q131 : 0 < ((za0 t123 x51_2).length : Int) := Yod
            obtain ⟨ad131, e131, hx131_0⟩ := Kd.zbe (by repeat (first | (with_reducible exact HR130_0.out) | (with_reducible refine Kd.C_alloc ?_ _) | (with_reducible refine Kd.C_drewN ?_ _) | (with_reducible refine Kd.C_drew ?_) | exact HR130_0.out)) 0 p131 q131
            cases e131
            have qi131 : (0 < (za0 t123 x51_2).length) = True := eq_true (by omega)
            (try rw [show ((0 : Int)).toNat = 0 from rfl] at hx131_0)
            (try rw [Addr.add_zero'] at hx131_0)
            replace p131 := eq_true p131
            replace q131 := eq_true q131
            go_wp2;go_ret
            exact ⟨Yfi, Yb_PGssKeepsx4_0⟩
          ·rw [if_neg c32] at H
           exact absurd H (by simp)
         ·rw [if_neg c31] at H
          have c31b0 : (((za0 t123 x51_2).length : Int) == (wrap64 (a2 + 1))) = false := beq_eq_false_iff_ne.mpr c31
          have c31b1 : (((za0 t123 x51_2).length : Int) != (wrap64 (a2 + 1))) = true := bne_iff_ne.mpr c31
          obtain rfl := Option.some.inj H
          have p130 : 0 ≤ (x51_2 : Int) := Yod
          have q130 : x51_2 < (t123.length : Int) := Yod
          obtain ⟨ad130, A130_0, c130_0, e130, hx130_0, hl130_0, hi130_0⟩ := at_L1 (Kd.R_reads' HO_49.out).2.2 x51_2 p130 q130
          cases e130
          obtain ⟨ce130, hce130, hMe130, hcc130⟩ := Kd.R_get HO_49.out [] x51_2 p130 (by first | exact q130 | exact of_decide_eq_true (by first | (with_reducible assumption) | assumption) | (have e_ := (Kd.R_reads' HO_49.out).1; omega))
          obtain ⟨ve130_0, rfl, ge130_0⟩ := hMe130
          have hv130_0 := hcc130 0 _ rfl
          rw [Nat.add_zero, show ((Kd.slice 3 (Kd.int .i64))).sz = 1 from rfl, Nat.mul_one] at hv130_0
          replace hv130_0 := Option.some.inj (hv130_0.symm.trans hx130_0)
          rw [hv130_0] at ge130_0
          have HL130_0 := zac.mk (show Kd.R (Kd.int .i64) 3 _ _ _ _ (za0 t123 x51_2) from ge130_0)
          clear hv130_0 ge130_0;clear hcc130 hce130;have HR130_0 := zac.mk hi130_0;have HC130_0 := zac.mk hl130_0;clear hi130_0 hl130_0
          replace p130 := eq_true p130
          replace q130 := eq_true q130
          go_wp2;go_ret
          exact ⟨Yfi, Yb_PGssKeepsx4_0⟩
        ·rw [if_neg c30] at H
         exact absurd H (by simp)
       ·rw [if_neg c29] at H
        exact absurd H (by simp)
      ·rw [if_neg c28] at H
       have c28b0 := decide_eq_false c28
       clear c28;have HC40 := zac.mk H;clear H
       go_upto_if 78 with (fail)
       go_cut [] (fun wc => ∃ (kq : Nat), zac (zab.j4 kq a1 a2 a3 a4 a5 t127 l0_0 = some r) ∧ zac (kq ≤ k2) ∧ zac (Kd.R (Kd.int .i64) 3 wc w.heap.size (fun _ => True) v128 t127) ∧ zac (wc.heap[gb119]? = some (.cells #[(.slice A0_0 l0_0.length c0_0)] 24 (0, 0))) ∧ zac (Below w.heap.size w wc))
       case first =>
        have H := HC40.out;clear HC40
        by_cases c41 : t126 = 0
        ·rw [if_pos c41] at H
         have c41b0 : (t126 == 0) = true := beq_iff_eq.mpr c41
         have c41b1 : (t126 != 0) = false := bne_eq_false_iff_eq.mpr c41
         clear c41
         (first | rw [c41b0] | (simp only [zcj, zcw]; rw [c41b0]) | skip)
         have H' := zac.mk H
         clear H
         obtain ⟨Ao42, co42, eo42⟩ := Kd.zb6 HO_15.out
         subst eo42;go_wp2
         go_loopg [81] k2 (fun kq v81 w' => ∃ (x81_3 : Int), v81 = .int .i64 x81_3 ∧ zac (zab.l1 kq a1 a2 a3 a4 a5 t123 t127 t127 (t127.length : Int) x81_3 l0_0 = some r) ∧ zac (kq ≤ k2) ∧ zac (Kd.R (Kd.slice 3 (Kd.int .i64)) 31 w' w.heap.size (fun k_ => some k_ ≠ ((.slice Ao42 t127.length co42) : Value).ownBlock ∧ some k_ ≠ ((.slice Ao42 t127.length co42) : Value).ownBlock) (.slice Ao27 t123.length co27) t123) ∧ zac (Kd.R (Kd.int .i64) 3 w' w.heap.size (fun _ => True) (.slice Ao42 t127.length co42) t127) ∧ zac (Kd.R (Kd.int .i64) 3 w' w.heap.size (fun _ => True) (.slice Ao42 t127.length co42) t127) ∧ zac (w'.heap[gb119]? = some (.cells #[(.slice A0_0 l0_0.length c0_0)] 24 (0, 0))) ∧ zac (Below w.heap.size w w'))
         case atStart => exact ⟨(0), Yfs, H', ⟨Nat.le_refl _⟩, ⟨by (with_reducible repeat (first | apply Kd.zcr | apply Kd.zc6 | apply Kd.zco)); exact Kd.zbr HO_13.out (fun _ hk => ⟨hk, hk⟩)⟩, ⟨Yr HO_15⟩, ⟨Yr HO_15⟩, ⟨Yg BK119⟩, ⟨Yb_PGssKeepsx4_0⟩⟩
         case round =>
          clear H'
          obtain ⟨x81_3, rfl, HA, HK3, HO_13, HO_15, HO_79, BK119, HB⟩ := hrel
          cases gk with
          | zero => exact absurd HA.out (by simp [zab.l1])
          | succ k3 =>
           have H := HA.out;clear HA
           simp only [zab.l1] at H
           by_cases c43 : x81_3 < (t127.length : Int)
           ·rw [if_pos c43] at H
            have c43b0 := decide_eq_true c43
            clear c43
            by_cases c44 : 0 ≤ x81_3
            ·rw [if_pos c44] at H
             have c44b0 := decide_eq_true c44
             clear c44
             by_cases c45 : x81_3 < (t127.length : Int)
             ·rw [if_pos c45] at H
              have c45b0 := decide_eq_true c45
              clear c45
              have H' := zac.mk H
              clear H
              have p134 : 0 ≤ (x81_3 : Int) := Yod
              have q134 : x81_3 < (t127.length : Int) := Yod
              obtain ⟨ad134, e134, hx134_0⟩ := Kd.zbe (Kd.R_reads' HO_79.out).2.2 x81_3 p134 q134
              cases e134
              replace p134 := eq_true p134
              replace q134 := eq_true q134
              go_wp2
              go_loopg [20, 87] k3 (fun kq v20 v87 w' => ∃ (x20_4 : Bool) (x87_4 : Int), v20 = .bool x20_4 ∧ v87 = .int .i64 x87_4 ∧ zac (zab.l2 kq a1 a2 a3 a4 a5 t123 t127 (rd t127 x81_3) x20_4 t127 (t127.length : Int) x81_3 t123 (t123.length : Int) x87_4 l0_0 = some r) ∧ zac (kq ≤ k3) ∧ zac (Kd.R (Kd.slice 3 (Kd.int .i64)) 31 w' w.heap.size (fun k_ => some k_ ≠ ((.slice (some ad134) t127.length co42) : Value).ownBlock ∧ some k_ ≠ ((.slice (some ad134) t127.length co42) : Value).ownBlock) (.slice Ao27 t123.length co27) t123) ∧ zac (Kd.R (Kd.int .i64) 3 w' w.heap.size (fun _ => True) (.slice (some ad134) t127.length co42) t127) ∧ zac (Kd.R (Kd.int .i64) 3 w' w.heap.size (fun _ => True) (.slice (some ad134) t127.length co42) t127) ∧ zac (Kd.R (Kd.slice 3 (Kd.int .i64)) 31 w' w.heap.size (fun k_ => some k_ ≠ ((.slice (some ad134) t127.length co42) : Value).ownBlock ∧ some k_ ≠ ((.slice (some ad134) t127.length co42) : Value).ownBlock) (.slice Ao27 t123.length co27) t123) ∧ zac (w'.heap[gb119]? = some (.cells #[(.slice A0_0 l0_0.length c0_0)] 24 (0, 0))) ∧ zac (Below w.heap.size w w'))
              case atStart => exact ⟨(false), (0), Yfs, Yfs, H', ⟨Nat.le_refl _⟩, ⟨Yr HO_13⟩, ⟨Yr HO_15⟩, ⟨Yr HO_79⟩, ⟨Yr HO_13⟩, ⟨Yg BK119⟩, ⟨Yb_PGssKeepsx4_0⟩⟩
              case round =>
               clear H'
               obtain ⟨x20_4, x87_4, rfl, rfl, HA, HK4, HO_13, HO_15, HO_79, HO_85, BK119, HB⟩ := hrel
               cases gk with
               | zero => exact absurd HA.out (by simp [zab.l2])
               | succ k4 =>
                have H := HA.out;clear HA
                simp only [zab.l2] at H
                by_cases c46 : x87_4 < (t123.length : Int)
                ·rw [if_pos c46] at H
                 have c46b0 := decide_eq_true c46
                 clear c46
                 by_cases c47 : 0 ≤ x87_4
                 ·rw [if_pos c47] at H
                  have c47b0 := decide_eq_true c47
                  clear c47
                  by_cases c48 : x87_4 < (t123.length : Int)
                  ·rw [if_pos c48] at H
                   have c48b0 := decide_eq_true c48
                   clear c48
                   by_cases c49 : x20_4 = true
                   ·subst c49
                    have H1 : (zab.l2 k4 a1 a2 a3 a4 a5 t123 t127 (rd t127 x81_3) true t127 (t127.length : Int) x81_3 t123 (t123.length : Int) (wrap64 (x87_4 + 1)) l0_0) = some r := by rw [if_pos rfl] at H; exact H
                    clear H;have H := H1;clear H1
                    have H' := zac.mk H
                    clear H
                    have p135 : 0 ≤ (x87_4 : Int) := Yod
                    have q135 : x87_4 < (t123.length : Int) := Yod
                    obtain ⟨ad135, A135_0, c135_0, e135, hx135_0, hl135_0, hi135_0⟩ := at_L1 (Kd.R_reads' HO_85.out).2.2 x87_4 p135 q135
                    cases e135
                    obtain ⟨ce135, hce135, hMe135, hcc135⟩ := Kd.R_get HO_85.out [] x87_4 p135 (by first | exact q135 | exact of_decide_eq_true (by first | (with_reducible assumption) | assumption) | (have e_ := (Kd.R_reads' HO_85.out).1; omega))
                    obtain ⟨ve135_0, rfl, ge135_0⟩ := hMe135
                    have hv135_0 := hcc135 0 _ rfl
                    rw [Nat.add_zero, show ((Kd.slice 3 (Kd.int .i64))).sz = 1 from rfl, Nat.mul_one] at hv135_0
                    replace hv135_0 := Option.some.inj (hv135_0.symm.trans hx135_0)
                    rw [hv135_0] at ge135_0
                    have HL135_0 := zac.mk (show Kd.R (Kd.int .i64) 3 _ _ _ _ (za0 t123 x87_4) from ge135_0)
                    clear hv135_0 ge135_0;clear hcc135 hce135;have HR135_0 := zac.mk hi135_0;have HC135_0 := zac.mk hl135_0;clear hi135_0 hl135_0
                    replace p135 := eq_true p135
                    replace q135 := eq_true q135
                    go_wp2
                    go_roundg k4
                    case measure => have := HJ6.out; have := HK2.out; have := HK3.out; have := HK4.out; omega
                    case rel => exact ⟨(true), (wrap64 (x87_4 + 1)), Yfs, Yfs, H', ⟨by have := HJ6.out; have := HK2.out; have := HK3.out; have := HK4.out; omega⟩, ⟨Yr HO_13⟩, ⟨Yr HO_15⟩, ⟨Yr HO_79⟩, ⟨Yr HO_85⟩, ⟨Yg BK119⟩, ⟨Yb_PGssKeepsx4_0⟩⟩
                   ·replace c49 := Bool.eq_false_iff.mpr c49
                    subst c49
                    have H1 : (if 0 ≤ a2 then (if a2 < ((za0 t123 x87_4).length : Int) then (zab.l2 k4 a1 a2 a3 a4 a5 t123 t127 (rd t127 x81_3) ((rd (za0 t123 x87_4) a2) == (rd t127 x81_3)) t127 (t127.length : Int) x81_3 t123 (t123.length : Int) (wrap64 (x87_4 + 1)) l0_0) else (none)) else (none)) = some r := by rw [if_neg (show ¬ (false = true) by decide)] at H; exact H
                    clear H;have H := H1;clear H1
                    by_cases c50 : 0 ≤ a2
                    ·rw [if_pos c50] at H
                     have c50b0 := decide_eq_true c50
                     clear c50
                     by_cases c51 : a2 < ((za0 t123 x87_4).length : Int)
                     ·rw [if_pos c51] at H
                      have c51b0 := decide_eq_true c51
                      clear c51
                      have H' := zac.mk H
                      clear H
                      have p135 : 0 ≤ (x87_4 : Int) := Yod
                      have q135 : x87_4 < (t123.length : Int) := Yod
                      obtain ⟨ad135, A135_0, c135_0, e135, hx135_0, hl135_0, hi135_0⟩ := at_L1 (Kd.R_reads' HO_85.out).2.2 x87_4 p135 q135
                      cases e135
                      obtain ⟨ce135, hce135, hMe135, hcc135⟩ := Kd.R_get HO_85.out [] x87_4 p135 (by first | exact q135 | exact of_decide_eq_true (by first | (with_reducible assumption) | assumption) | (have e_ := (Kd.R_reads' HO_85.out).1; omega))
                      obtain ⟨ve135_0, rfl, ge135_0⟩ := hMe135
                      have hv135_0 := hcc135 0 _ rfl
                      rw [Nat.add_zero, show ((Kd.slice 3 (Kd.int .i64))).sz = 1 from rfl, Nat.mul_one] at hv135_0
                      replace hv135_0 := Option.some.inj (hv135_0.symm.trans hx135_0)
                      rw [hv135_0] at ge135_0
                      have HL135_0 := zac.mk (show Kd.R (Kd.int .i64) 3 _ _ _ _ (za0 t123 x87_4) from ge135_0)
                      clear hv135_0 ge135_0;clear hcc135 hce135;have HR135_0 := zac.mk hi135_0;have HC135_0 := zac.mk hl135_0;clear hi135_0 hl135_0
                      replace p135 := eq_true p135
                      replace q135 := eq_true q135
                      have p136 : 0 ≤ (a2 : Int) := Yod
                      have q136 : a2 < ((za0 t123 x87_4).length : Int) := Yod
                      obtain ⟨ad136, e136, hx136_0⟩ := Kd.zbe (by repeat (first | (with_reducible exact HR135_0.out) | (with_reducible refine Kd.C_alloc ?_ _) | (with_reducible refine Kd.C_drewN ?_ _) | (with_reducible refine Kd.C_drew ?_) | exact HR135_0.out)) a2 p136 q136
                      cases e136
                      replace p136 := eq_true p136
                      replace q136 := eq_true q136
                      go_wp2
                      go_roundg k4
                      case measure => have := HJ6.out; have := HK2.out; have := HK3.out; have := HK4.out; omega
                      case rel => exact ⟨(((rd (za0 t123 x87_4) a2) == (rd t127 x81_3))), (wrap64 (x87_4 + 1)), Yfs, Yfs, H', ⟨by have := HJ6.out; have := HK2.out; have := HK3.out; have := HK4.out; omega⟩, ⟨Yr HO_13⟩, ⟨Yr HO_15⟩, ⟨Yr HO_79⟩, ⟨Yr HO_85⟩, ⟨Yg BK119⟩, ⟨Yb_PGssKeepsx4_0⟩⟩
                     ·rw [if_neg c51] at H
                      exact absurd H (by simp)
                    ·rw [if_neg c50] at H
                     exact absurd H (by simp)
                  ·rw [if_neg c48] at H
                   exact absurd H (by simp)
                 ·rw [if_neg c47] at H
                  exact absurd H (by simp)
                ·rw [if_neg c46] at H
                 have c46b0 := decide_eq_false c46
                 clear c46
                 by_cases c52 : x20_4 = true
                 ·subst c52
                  have H1 : (zab.l1 k4 a1 a2 a3 a4 a5 t123 t127 t127 (t127.length : Int) (wrap64 (x81_3 + 1)) l0_0) = some r := by rw [if_pos rfl] at H; exact H
                  clear H;have H := H1;clear H1
                  have H' := zac.mk H
                  clear H;go_wp2
                  go_roundg k4
                  case measure => have := HJ6.out; have := HK2.out; have := HK3.out; have := HK4.out; omega
                  case rel => exact ⟨(wrap64 (x81_3 + 1)), Yfs, H', ⟨by have := HJ6.out; have := HK2.out; have := HK3.out; have := HK4.out; omega⟩, ⟨Yr HO_13⟩, ⟨Yr HO_15⟩, ⟨Yr HO_79⟩, ⟨Yg BK119⟩, ⟨Yb_PGssKeepsx4_0⟩⟩
                 ·replace c52 := Bool.eq_false_iff.mpr c52
                  subst c52
                  have H1 : (some false) = some r := by rw [if_neg (show ¬ (false = true) by decide)] at H; exact H
                  clear H;have H := H1;clear H1;obtain rfl := Option.some.inj H;go_wp2;go_ret
                  exact ⟨Yfi, Yb_PGssKeepsx4_0⟩
             ·rw [if_neg c45] at H
              exact absurd H (by simp)
            ·rw [if_neg c44] at H
             exact absurd H (by simp)
           ·rw [if_neg c43] at H
            have c43b0 := decide_eq_false c43
            clear c43
            have H' := zac.mk H
            clear H;go_wp2
            go_meet
            case rel => exact ⟨_, H', ⟨by have := HJ6.out; have := HK2.out; have := HK3.out; first | omega | exact Nat.le_refl _⟩, ⟨Yr HO_15⟩, ⟨Yg BK119⟩, ⟨Yb_PGssKeepsx4_0⟩⟩
        ·rw [if_neg c41] at H
         have c41b0 : (t126 == 0) = false := beq_eq_false_iff_ne.mpr c41
         have c41b1 : (t126 != 0) = true := bne_iff_ne.mpr c41
         (first | rw [c41b0] | (simp only [zcj, zcw]; rw [c41b0]) | skip)
         have H' := zac.mk H
         clear H;go_wp2
         go_meet
         case rel => exact ⟨_, H', ⟨by have := HJ6.out; have := HK2.out; first | omega | exact Nat.le_refl _⟩, ⟨Yr HO_15⟩, ⟨Yg BK119⟩, ⟨Yb_PGssKeepsx4_0⟩⟩
       case rest =>
        clear HC40
        obtain ⟨kq, HA, HJ39, HO_15, BK119, HB⟩ := hcut
        cases kq with
        | zero => exact absurd HA.out (by simp [zab.j4])
        | succ kj39 =>
         have H := HA.out;clear HA
         simp only [zab.j4] at H
         replace H := Option.bind_eq_some_iff.mp H
         obtain ⟨⟨t137, t140, t141⟩, A530, H⟩ := H
         replace H : ((zad.f kj39 t137).bind fun t143 => (if t143 = true then (if a1 < 0 then (zab.j5 kj39 a1 a2 t127 true l0_0 t137) else (zab.j5 kj39 a1 a2 t127 (decide (a1 ≥ (l0_0.length : Int))) l0_0 t137)) else (zab.j5 kj39 a1 a2 t127 true l0_0 t137))) = some r := H
         have A53 := zac.mk A530;clear A530;have HC54 := zac.mk H;clear H
         obtain ⟨hcz55_0, hfz55_0⟩ := Yc1 BK119.out
         go_upto_region 25 with (first | ((with_reducible refine zaw (f := 13) rfl ?_); refine Ygl (some 109) Try.func13 #[.agg #[.slice A0_0 l0_0.length c0_0], .int .i64 a3, .int .i64 a4, .int .i64 a5] ?_; (with_reducible refine (zdc.calls (fun k_ => k_ < w.heap.size) _ _ l0_0 a3 a4 a5 t137 t140 t141 _ ?side1 A53.out).mono ?_); (case side1 => exact Kd.V_mk HC0_0.out (Kd.zfk (Kd.C_F k38_heap HR0_0.out) Yb_PGssKeepsx4_0)); rintro e w56 ⟨v138, rfl, ho0, hb⟩; refine ⟨_, rfl, ?_⟩; have HO139 := zac.mk (Kd.V_lower (Kd.zb8 (ok' := fun k_ => some k_ ≠ (v128 : Value).ownBlock ∧ k_ ≠ gb119) ho0 (fun k_ hk_ => ⟨Or.elim hk_ (fun hs_ => fun e_ => Nat.not_le.2 hs_ (Kd.R_base HO_15.out k_ e_.symm)) (fun hn_ => (Kd.fresh' (Kd.R_lt (Yr HO_15)) k_ hn_)), Or.elim hk_ (fun hs_ => fun e_ => Nat.not_le.2 hs_ (by rw [e_]; exact GW119.out)) (fun hn_ => (Kd.freshB (g := gb119) (o := .cells #[.slice A0_0 l0_0.length c0_0] 24 (0, 0)) (Yg BK119) k_ hn_))⟩)) (zcv Yb_PGssKeepsx4_0)); replace HO_15 := zac.mk (Kd.zbi (Yr HO_15) hb); replace BK119 := Ykb BK119 hb; replace HB := zac.mk (za5 Yb_PGssKeepsx4_0 hb); (try clear hb); (try clear hb2); (try clear hk); (try clear hi); (try clear ho0)) | ((with_reducible refine zbj (N := 23) rfl ?_); (try (refine zc7 (by rfl) ?_; dsimp only)); refine Ybx 23 #[.slice none 0 0] 24 ?_; intro gb142 hg w57 hbox hb; replace HO_15 := zac.mk (Kd.zbi (Yr HO_15) hb); replace HO139 := zac.mk (Kd.zcm (Kd.V_elderB (by (with_reducible repeat (first | apply Kd.V_alloc | apply Kd.zbu | apply Kd.zbw)); exact HO139.out) gb142 (Nat.le_of_eq hg.symm)) hb); obtain ⟨BK142, GW142, GE142, HB⟩ := Yb4 hbox hg hb Yb_PGssKeepsx4_0; have NB119_142 := Ynl BK119 hg; have NB142_119 := Yng BK119 hg; replace BK119 := Ykb BK119 hb; clear hb hbox hg; obtain ⟨Ao58, co58, eo58⟩ := Kd.V_slice HO139.out; subst eo58; have hnb59 := NB142_119.out; have hnc59 := NB119_142.out; obtain ⟨hcz60_0, hfz60_0⟩ := Yc1 BK142.out))
         (try simp only [Act.put, Y1, Y2, Y3])
         go_cut [126] (fun v126 wc => ∃ (kq : Nat) (x126_53 : Bool), v126 = .bool x126_53 ∧ zac (zab.j5 kq a1 a2 t127 x126_53 l0_0 t137 = some r) ∧ zac (kq ≤ kj39) ∧ zac (Kd.R (Kd.int .i64) 3 wc w.heap.size (fun _ => True) v128 t127) ∧ zac (Kd.V k38 38 wc w.heap.size (fun k_ => some k_ ≠ (v128 : Value).ownBlock ∧ k_ ≠ gb119 ∧ k_ ≠ gb142) (.slice Ao58 t137.length co58) t137) ∧ zac (wc.heap[gb119]? = some (.cells #[(.slice A0_0 l0_0.length c0_0)] 24 (0, 0))) ∧ zac (wc.heap[gb142]? = some (.cells #[(.slice Ao58 t137.length co58)] 24 (0, 0))) ∧ zac (Below w.heap.size w wc))
         case first =>
          have H := HC54.out;clear HC54;replace H := Option.bind_eq_some_iff.mp H
          obtain ⟨t143, A610, H⟩ := H
          replace H : (if t143 = true then (if a1 < 0 then (zab.j5 kj39 a1 a2 t127 true l0_0 t137) else (zab.j5 kj39 a1 a2 t127 (decide (a1 ≥ (l0_0.length : Int))) l0_0 t137)) else (zab.j5 kj39 a1 a2 t127 true l0_0 t137)) = some r := H
          have A61 := zac.mk A610;clear A610
          by_cases c62 : t143 = true
          ·subst c62
           have H1 : (if a1 < 0 then (zab.j5 kj39 a1 a2 t127 true l0_0 t137) else (zab.j5 kj39 a1 a2 t127 (decide (a1 ≥ (l0_0.length : Int))) l0_0 t137)) = some r := by rw [if_pos rfl] at H; exact H
           clear H;have H := H1;clear H1
           by_cases c63 : a1 < 0
           ·rw [if_pos c63] at H
            have c63b0 := decide_eq_true c63
            clear c63
            (first | rw [c63b0] | (simp only [zcj, zcw]; rw [c63b0]) | skip)
            have H' := zac.mk H
            clear H
            have hnb64 := NB142_119.out
            have hnc64 := NB119_142.out
            obtain ⟨hcz65_0, hfz65_0⟩ := Yc1 BK142.out
            go_wp2_with (first | ((with_reducible refine zaw (f := 8) rfl ?_); refine Ygl (some 114) Try.func8 #[.agg #[.slice Ao58 t137.length co58]] ?_; (with_reducible refine (zad.calls kj39 _ _ t137 true _ ?side1 ?side2 A61.out).mono ?_); (case side1 => refine (Kd.V_reads' (e := 38) (base := w.heap.size) (ok := fun k_ => ((some k_ ≠ (v128 : Value).ownBlock ∧ k_ ≠ gb119) ∧ k_ ≠ gb142)) (n := t137.length) (c := co58) ?_).2.2; exact (by (with_reducible repeat (first | apply Kd.V_alloc | apply Kd.zbu | apply Kd.zbw)); exact (Kd.zb8 (Kd.V_far (p := ⟨gb142, 0, none⟩) (Kd.zb8 HO139.out (fun k_ hk => (⟨hk, hk.2⟩ : _ ∧ k_ ≠ gb142))) (fun _ hk => hk.2) (.slice Ao58 t137.length co58)) (fun _ h_ => h_.1)))); (case side2 => exact (Kd.V_reads' HO139.out).2.1); rintro e w66 ⟨rfl, hb⟩; refine ⟨_, rfl, ?_⟩; replace HO_15 := zac.mk (Kd.zbi (by (with_reducible repeat (first | apply Kd.zcr | apply Kd.zc6 | apply Kd.zco)); exact (Kd.zbr (Kd.R_far (p := ⟨gb142, 0, none⟩) (Kd.zd5 HO_15.out BK142.out (by decide)) (fun _ hk => hk.2) (.slice Ao58 t137.length co58)) (fun _ h_ => h_.1))) hb); replace HO139 := zac.mk (Kd.zcm (by (with_reducible repeat (first | apply Kd.V_alloc | apply Kd.zbu | apply Kd.zbw)); exact (Kd.zb8 (Kd.V_far (p := ⟨gb142, 0, none⟩) (Kd.zb8 HO139.out (fun k_ hk => (⟨hk, hk.2⟩ : _ ∧ k_ ≠ gb142))) (fun _ hk => hk.2) (.slice Ao58 t137.length co58)) (fun _ h_ => h_.1))) hb); replace BK119 := zac.mk (zaq (g := gb119) (o := .cells #[.slice A0_0 l0_0.length c0_0] 24 (0, 0)) (by (with_reducible repeat (first | refine zaj ?_ _ | refine zah ?_ | refine zai ?_ _)); refine zbb ?_ NB119_142.out _; (with_reducible repeat (first | refine zaj ?_ _ | refine zah ?_ | refine zai ?_ _)); exact BK119.out) hb); replace BK142 := zac.mk (zaq (g := gb142) (o := .cells #[.slice Ao58 t137.length co58] 24 (0, 0)) (by (with_reducible repeat (first | refine zaj ?_ _ | refine zah ?_ | refine zai ?_ _)); refine za4 (cs := #[.slice none 0 0]) ?_ 0 _ rfl; (with_reducible repeat (first | refine zaj ?_ _ | refine zah ?_ | refine zai ?_ _)); exact BK142.out) hb); replace HB := zac.mk (za5 Yb_PGssKeepsx4_1 hb); (try clear hb); (try clear hb2); (try clear hk); (try clear hi)))
            go_meet
            case rel => exact ⟨_, (true), Yfs, H', ⟨by have := HJ6.out; have := HK2.out; have := HJ39.out; first | omega | exact Nat.le_refl _⟩, ⟨Yr HO_15⟩, ⟨by (with_reducible repeat (first | apply Kd.V_alloc | apply Kd.zbu | apply Kd.zbw)); exact Kd.zb8 HO139.out (fun _ hk => ⟨hk.1.1, ⟨hk.1.2, hk.2⟩⟩)⟩, ⟨Yg BK119⟩, ⟨Yg BK142⟩, ⟨Yb_PGssKeepsx4_1⟩⟩
           ·rw [if_neg c63] at H
            have c63b0 := decide_eq_false c63
            clear c63
            (first | rw [c63b0] | (simp only [zcj, zcw]; rw [c63b0]) | skip)
            have H' := zac.mk H
            clear H
            have hnb67 := NB142_119.out
            have hnc67 := NB119_142.out
            obtain ⟨hcz68_0, hfz68_0⟩ := Yc1 BK142.out
            go_wp2_with (first | ((with_reducible refine zaw (f := 8) rfl ?_); refine Ygl (some 114) Try.func8 #[.agg #[.slice Ao58 t137.length co58]] ?_; (with_reducible refine (zad.calls kj39 _ _ t137 true _ ?side1 ?side2 A61.out).mono ?_); (case side1 => refine (Kd.V_reads' (e := 38) (base := w.heap.size) (ok := fun k_ => ((some k_ ≠ (v128 : Value).ownBlock ∧ k_ ≠ gb119) ∧ k_ ≠ gb142)) (n := t137.length) (c := co58) ?_).2.2; exact (by (with_reducible repeat (first | apply Kd.V_alloc | apply Kd.zbu | apply Kd.zbw)); exact (Kd.zb8 (Kd.V_far (p := ⟨gb142, 0, none⟩) (Kd.zb8 HO139.out (fun k_ hk => (⟨hk, hk.2⟩ : _ ∧ k_ ≠ gb142))) (fun _ hk => hk.2) (.slice Ao58 t137.length co58)) (fun _ h_ => h_.1)))); (case side2 => exact (Kd.V_reads' HO139.out).2.1); rintro e w69 ⟨rfl, hb⟩; refine ⟨_, rfl, ?_⟩; replace HO_15 := zac.mk (Kd.zbi (by (with_reducible repeat (first | apply Kd.zcr | apply Kd.zc6 | apply Kd.zco)); exact (Kd.zbr (Kd.R_far (p := ⟨gb142, 0, none⟩) (Kd.zd5 HO_15.out BK142.out (by decide)) (fun _ hk => hk.2) (.slice Ao58 t137.length co58)) (fun _ h_ => h_.1))) hb); replace HO139 := zac.mk (Kd.zcm (by (with_reducible repeat (first | apply Kd.V_alloc | apply Kd.zbu | apply Kd.zbw)); exact (Kd.zb8 (Kd.V_far (p := ⟨gb142, 0, none⟩) (Kd.zb8 HO139.out (fun k_ hk => (⟨hk, hk.2⟩ : _ ∧ k_ ≠ gb142))) (fun _ hk => hk.2) (.slice Ao58 t137.length co58)) (fun _ h_ => h_.1))) hb); replace BK119 := zac.mk (zaq (g := gb119) (o := .cells #[.slice A0_0 l0_0.length c0_0] 24 (0, 0)) (by (with_reducible repeat (first | refine zaj ?_ _ | refine zah ?_ | refine zai ?_ _)); refine zbb ?_ NB119_142.out _; (with_reducible repeat (first | refine zaj ?_ _ | refine zah ?_ | refine zai ?_ _)); exact BK119.out) hb); replace BK142 := zac.mk (zaq (g := gb142) (o := .cells #[.slice Ao58 t137.length co58] 24 (0, 0)) (by (with_reducible repeat (first | refine zaj ?_ _ | refine zah ?_ | refine zai ?_ _)); refine za4 (cs := #[.slice none 0 0]) ?_ 0 _ rfl; (with_reducible repeat (first | refine zaj ?_ _ | refine zah ?_ | refine zai ?_ _)); exact BK142.out) hb); replace HB := zac.mk (za5 Yb_PGssKeepsx4_1 hb); (try clear hb); (try clear hb2); (try clear hk); (try clear hi); obtain ⟨hcz70_0, hfz70_0⟩ := Yc1 BK119.out))
            go_meet
            case rel => exact ⟨_, (decide (a1 ≥ (l0_0.length : Int))), Yfs, H', ⟨by have := HJ6.out; have := HK2.out; have := HJ39.out; first | omega | exact Nat.le_refl _⟩, ⟨Yr HO_15⟩, ⟨by (with_reducible repeat (first | apply Kd.V_alloc | apply Kd.zbu | apply Kd.zbw)); exact Kd.zb8 HO139.out (fun _ hk => ⟨hk.1.1, ⟨hk.1.2, hk.2⟩⟩)⟩, ⟨Yg BK119⟩, ⟨Yg BK142⟩, ⟨Yb_PGssKeepsx4_1⟩⟩
          ·replace c62 := Bool.eq_false_iff.mpr c62
           subst c62
           have H1 : (zab.j5 kj39 a1 a2 t127 true l0_0 t137) = some r := by rw [if_neg (show ¬ (false = true) by decide)] at H; exact H
           clear H;have H := H1;clear H1
           have H' := zac.mk H
           clear H
           have hnb71 := NB142_119.out
           have hnc71 := NB119_142.out
           obtain ⟨hcz72_0, hfz72_0⟩ := Yc1 BK142.out
           go_wp2_with (first | ((with_reducible refine zaw (f := 8) rfl ?_); refine Ygl (some 114) Try.func8 #[.agg #[.slice Ao58 t137.length co58]] ?_; (with_reducible refine (zad.calls kj39 _ _ t137 false _ ?side1 ?side2 A61.out).mono ?_); (case side1 => refine (Kd.V_reads' (e := 38) (base := w.heap.size) (ok := fun k_ => ((some k_ ≠ (v128 : Value).ownBlock ∧ k_ ≠ gb119) ∧ k_ ≠ gb142)) (n := t137.length) (c := co58) ?_).2.2; exact (by (with_reducible repeat (first | apply Kd.V_alloc | apply Kd.zbu | apply Kd.zbw)); exact (Kd.zb8 (Kd.V_far (p := ⟨gb142, 0, none⟩) (Kd.zb8 HO139.out (fun k_ hk => (⟨hk, hk.2⟩ : _ ∧ k_ ≠ gb142))) (fun _ hk => hk.2) (.slice Ao58 t137.length co58)) (fun _ h_ => h_.1)))); (case side2 => exact (Kd.V_reads' HO139.out).2.1); rintro e w73 ⟨rfl, hb⟩; refine ⟨_, rfl, ?_⟩; replace HO_15 := zac.mk (Kd.zbi (by (with_reducible repeat (first | apply Kd.zcr | apply Kd.zc6 | apply Kd.zco)); exact (Kd.zbr (Kd.R_far (p := ⟨gb142, 0, none⟩) (Kd.zd5 HO_15.out BK142.out (by decide)) (fun _ hk => hk.2) (.slice Ao58 t137.length co58)) (fun _ h_ => h_.1))) hb); replace HO139 := zac.mk (Kd.zcm (by (with_reducible repeat (first | apply Kd.V_alloc | apply Kd.zbu | apply Kd.zbw)); exact (Kd.zb8 (Kd.V_far (p := ⟨gb142, 0, none⟩) (Kd.zb8 HO139.out (fun k_ hk => (⟨hk, hk.2⟩ : _ ∧ k_ ≠ gb142))) (fun _ hk => hk.2) (.slice Ao58 t137.length co58)) (fun _ h_ => h_.1))) hb); replace BK119 := zac.mk (zaq (g := gb119) (o := .cells #[.slice A0_0 l0_0.length c0_0] 24 (0, 0)) (by (with_reducible repeat (first | refine zaj ?_ _ | refine zah ?_ | refine zai ?_ _)); refine zbb ?_ NB119_142.out _; (with_reducible repeat (first | refine zaj ?_ _ | refine zah ?_ | refine zai ?_ _)); exact BK119.out) hb); replace BK142 := zac.mk (zaq (g := gb142) (o := .cells #[.slice Ao58 t137.length co58] 24 (0, 0)) (by (with_reducible repeat (first | refine zaj ?_ _ | refine zah ?_ | refine zai ?_ _)); refine za4 (cs := #[.slice none 0 0]) ?_ 0 _ rfl; (with_reducible repeat (first | refine zaj ?_ _ | refine zah ?_ | refine zai ?_ _)); exact BK142.out) hb); replace HB := zac.mk (za5 Yb_PGssKeepsx4_1 hb); (try clear hb); (try clear hb2); (try clear hk); (try clear hi)))
           go_meet
           case rel => exact ⟨_, (true), Yfs, H', ⟨by have := HJ6.out; have := HK2.out; have := HJ39.out; first | omega | exact Nat.le_refl _⟩, ⟨Yr HO_15⟩, ⟨by (with_reducible repeat (first | apply Kd.V_alloc | apply Kd.zbu | apply Kd.zbw)); exact Kd.zb8 HO139.out (fun _ hk => ⟨hk.1.1, ⟨hk.1.2, hk.2⟩⟩)⟩, ⟨Yg BK119⟩, ⟨Yg BK142⟩, ⟨Yb_PGssKeepsx4_1⟩⟩
         case rest =>
          clear HC54
          obtain ⟨kq, x126_53, rfl, HA, HJ53, HO_15, HO_143000, BK119, BK142, HB⟩ := hcut
          cases kq with
          | zero => exact absurd HA.out (by simp [zab.j5])
          | succ kj53 =>
           have H := HA.out;clear HA
           simp only [zab.j5] at H
           by_cases c74 : x126_53 = true
           ·subst c74
            have H1 : ((zad.f kj53 t137).bind fun t144 => (if t144 = true then ((zax.f).bind fun t145 => (some t145)) else (some false))) = some r := by rw [if_pos rfl] at H; exact H
            clear H;have H := H1;clear H1;replace H := Option.bind_eq_some_iff.mp H
            obtain ⟨t144, A750, H⟩ := H
            replace H : (if t144 = true then ((zax.f).bind fun t145 => (some t145)) else (some false)) = some r := H
            have A75 := zac.mk A750;clear A750
            by_cases c76 : t144 = true
            ·subst c76
             have H1 : ((zax.f).bind fun t145 => (some t145)) = some r := by rw [if_pos rfl] at H; exact H
             clear H;have H := H1;clear H1;replace H := Option.bind_eq_some_iff.mp H
             obtain ⟨t145, A770, H⟩ := H
             replace H : (some t145) = some r := H
             have A77 := zac.mk A770;clear A770;obtain rfl := Option.some.inj H
             have hnb78 := NB142_119.out
             have hnc78 := NB119_142.out
             obtain ⟨hcz79_0, hfz79_0⟩ := Yc1 BK142.out
             go_wp2_with (first | ((with_reducible refine zaw (f := 8) rfl ?_); refine Ygl (some 128) Try.func8 #[.agg #[.slice Ao58 t137.length co58]] ?_; (with_reducible refine (zad.calls kj53 _ _ t137 true _ ?side1 ?side2 A75.out).mono ?_); (case side1 => repeat (first | exact (Kd.V_reads' HO_143000.out).2.2 | (with_reducible refine Kd.C_alloc ?_ _) | (with_reducible refine Kd.C_drewN ?_ _) | (with_reducible refine Kd.C_drew ?_))); (case side2 => exact (Kd.V_reads' HO_143000.out).2.1); rintro e w80 ⟨rfl, hb⟩; refine ⟨_, rfl, ?_⟩; replace HO_15 := zac.mk (Kd.zbi (Yr HO_15) hb); replace HO_143000 := zac.mk (Kd.zcm (by (with_reducible repeat (first | apply Kd.V_alloc | apply Kd.zbu | apply Kd.zbw)); exact HO_143000.out) hb); replace BK119 := Ykb BK119 hb; replace BK142 := Ykb BK142 hb; replace HB := zac.mk (za5 Yb_PGssKeepsx4_1 hb); (try clear hb); (try clear hb2); (try clear hk); (try clear hi)) | (go_at_call 9; (with_reducible refine (zax.calls  t145 _ A77.out).mono ?_); rintro e w81 ⟨rfl, hb⟩; replace HO_15 := zac.mk (Kd.zbi (Yr HO_15) hb); replace HO_143000 := zac.mk (Kd.zcm (by (with_reducible repeat (first | apply Kd.V_alloc | apply Kd.zbu | apply Kd.zbw)); exact HO_143000.out) hb); replace BK119 := Ykb BK119 hb; replace BK142 := Ykb BK142 hb; replace HB := zac.mk (za5 Yb_PGssKeepsx4_1 hb); (try clear hb); (try clear hb2); (try clear hk); (try clear hi)))
             go_ret
             exact ⟨Yfi, Yb_PGssKeepsx4_1⟩
            ·replace c76 := Bool.eq_false_iff.mpr c76
             subst c76
             have H1 : (some false) = some r := by rw [if_neg (show ¬ (false = true) by decide)] at H; exact H
             clear H;have H := H1;clear H1;obtain rfl := Option.some.inj H
             have hnb82 := NB142_119.out
             have hnc82 := NB119_142.out
             obtain ⟨hcz83_0, hfz83_0⟩ := Yc1 BK142.out
             go_wp2_with (first | ((with_reducible refine zaw (f := 8) rfl ?_); refine Ygl (some 128) Try.func8 #[.agg #[.slice Ao58 t137.length co58]] ?_; (with_reducible refine (zad.calls kj53 _ _ t137 false _ ?side1 ?side2 A75.out).mono ?_); (case side1 => repeat (first | exact (Kd.V_reads' HO_143000.out).2.2 | (with_reducible refine Kd.C_alloc ?_ _) | (with_reducible refine Kd.C_drewN ?_ _) | (with_reducible refine Kd.C_drew ?_))); (case side2 => exact (Kd.V_reads' HO_143000.out).2.1); rintro e w84 ⟨rfl, hb⟩; refine ⟨_, rfl, ?_⟩; replace HO_15 := zac.mk (Kd.zbi (Yr HO_15) hb); replace HO_143000 := zac.mk (Kd.zcm (by (with_reducible repeat (first | apply Kd.V_alloc | apply Kd.zbu | apply Kd.zbw)); exact HO_143000.out) hb); replace BK119 := Ykb BK119 hb; replace BK142 := Ykb BK142 hb; replace HB := zac.mk (za5 Yb_PGssKeepsx4_1 hb); (try clear hb); (try clear hb2); (try clear hk); (try clear hi)))
             go_ret
             exact ⟨Yfi, Yb_PGssKeepsx4_1⟩
           ·replace c74 := Bool.eq_false_iff.mpr c74
            subst c74
            have H1 : (if 0 ≤ a1 then (if a1 < (l0_0.length : Int) then ((zan.f kj53 t137 ((zaa l0_0 a1).f0) ((zaa l0_0 a1).f1)).bind fun t148 => ((zb5.f t137 t148 a2).bind fun t149 => (zab.l3 kj53 t149 t127 (t127.length : Int) 0 l0_0 t137))) else (none)) else (none)) = some r := by rw [if_neg (show ¬ (false = true) by decide)] at H; exact H
            clear H;have H := H1;clear H1
            by_cases c85 : 0 ≤ a1
            ·rw [if_pos c85] at H
             have c85b0 := decide_eq_true c85
             clear c85
             by_cases c86 : a1 < (l0_0.length : Int)
             ·rw [if_pos c86] at H
              have c86b0 := decide_eq_true c86
              clear c86;replace H := Option.bind_eq_some_iff.mp H
              obtain ⟨t148, A870, H⟩ := H
              replace H : ((zb5.f t137 t148 a2).bind fun t149 => (zab.l3 kj53 t149 t127 (t127.length : Int) 0 l0_0 t137)) = some r := H
              have A87 := zac.mk A870;clear A870;replace H := Option.bind_eq_some_iff.mp H
              obtain ⟨t149, A880, H⟩ := H
              replace H : (zab.l3 kj53 t149 t127 (t127.length : Int) 0 l0_0 t137) = some r := H
              have A88 := zac.mk A880;clear A880
              have H' := zac.mk H
              clear H
              try go_wp2
              replace HO_15 := zac.mk (Kd.zco HO_15.out)
              replace HO_143000 := zac.mk (Kd.zbw HO_143000.out)
              replace BK119 := zac.mk (zah BK119.out)
              replace BK142 := zac.mk (zah BK142.out)
              replace HB := zac.mk (zas HB.out)
              have p146 : 0 ≤ (a1 : Int) := Yod
              have q146 : a1 < (l0_0.length : Int) := Yod
              obtain ⟨ad146, A146_2, c146_2, e146, hx146_0, hx146_1, hx146_2, hl146_2, hi146_2⟩ := zbx HR0_0.out a1 p146 q146
              have hw146_2 := hx146_2;have hw146_1 := hx146_1;have hw146_0 := hx146_0
              cases e146
              replace hx146_0 := zaf HB.out hx146_0
              replace hx146_1 := zaf HB.out hx146_1
              replace hx146_2 := zaf HB.out hx146_2
              have HR146_2 := zac.mk hi146_2;have HC146_2 := zac.mk hl146_2;clear hi146_2 hl146_2
              replace p146 := eq_true p146
              replace q146 := eq_true q146
              have p147 : 0 ≤ (a1 : Int) := Yod
              have q147 : a1 < (l0_0.length : Int) := Yod
              obtain ⟨ad147, A147_2, c147_2, e147, hx147_0, hx147_1, hx147_2, hl147_2, hi147_2⟩ := zbx HR0_0.out a1 p147 q147
              have hw147_2 := hx147_2;have hw147_1 := hx147_1;have hw147_0 := hx147_0
              obtain rfl : ad146 = ad147 := (by injection e147)
              replace hx147_0 := zaf HB.out hx147_0
              replace hx147_1 := zaf HB.out hx147_1
              replace hx147_2 := zaf HB.out hx147_2
              have HR147_2 := zac.mk hi147_2;have HC147_2 := zac.mk hl147_2;clear hi147_2 hl147_2
              replace p147 := eq_true p147
              replace q147 := eq_true q147
              have ea_ := Option.some.inj (hx146_2.symm.trans hx147_2)
              injection ea_ with ea_ en_ ec_
              subst ea_;subst ec_;clear en_
              refine zbd (n := 18) (S := fun w' => w'.cell? ⟨gb142, 0, none⟩ = some (.slice Ao58 t137.length co58) ∧ w'.cell? ⟨gb119, 0, none⟩ = some (.slice (some ad146) l0_0.length c0_0) ∧ w'.cell? (ad146.add ((a1).toNat * 3)) = some (.int .i64 ((zaa l0_0 a1).f0)) ∧ w'.cell? ⟨(ad146.add ((a1).toNat * 3)).block, (ad146.add ((a1).toNat * 3)).off + 1, none⟩ = some (.int .i64 ((zaa l0_0 a1).f1)) ∧ w'.cell? ⟨(ad146.add ((a1).toNat * 3)).block, (ad146.add ((a1).toNat * 3)).off + 2, none⟩ = some (.slice A146_2 ((zaa l0_0 a1).f2).length c146_2) ∧ w'.cell? (ad146.add ((a1).toNat * 3)) = some (.int .i64 ((zaa l0_0 a1).f0)) ∧ w'.cell? ⟨(ad146.add ((a1).toNat * 3)).block, (ad146.add ((a1).toNat * 3)).off + 1, none⟩ = some (.int .i64 ((zaa l0_0 a1).f1)) ∧ w'.cell? ⟨(ad146.add ((a1).toNat * 3)).block, (ad146.add ((a1).toNat * 3)).off + 2, none⟩ = some (.slice A146_2 ((zaa l0_0 a1).f2).length c146_2)) (ds := []) (Ymk 18 0) (by kernel_rfl) rfl rfl ⟨(zae BK142.out 0).trans rfl, (zae BK119.out 0).trans rfl, ((HB.out.cell (World.block_lt_of_cell? w _ hw146_0)).trans hw146_0), ((HB.out.cell (World.block_lt_of_cell? w _ hw146_1)).trans hw146_1), ((HB.out.cell (World.block_lt_of_cell? w _ hw146_2)).trans hw146_2), ((HB.out.cell (World.block_lt_of_cell? w _ hw147_0)).trans hw147_0), ((HB.out.cell (World.block_lt_of_cell? w _ hw147_1)).trans hw147_1), ((HB.out.cell (World.block_lt_of_cell? w _ hw147_2)).trans hw147_2)⟩ (fun hHeld => ?_); refine za9 zab.tab27 zab.bits27 (fun HT_ HW_ => ?_)
              generalize wc.drew = w89 at HO_15 HO_143000 BK119 BK142 HB HR146_2 HR147_2 hx146_0 hx146_1 hx146_2 hx147_0 hx147_1 hx147_2 hHeld ⊢
              refine Ypt 2 134 18 4 HT_ ?_
              refine Ypt 4 136 18 20 HT_ ?_
              refine Ypt 8 140 18 276 HT_ ?_
              refine Ypt 10 142 18 1300 HT_ ?_
              refine Ypt 15 147 18 34068 HT_ ?_
              refine Ytt 0 132 18 34069 HT_ HW_ hHeld ?_
              refine Ytt 1 133 18 34071 HT_ HW_ hHeld ?_
              refine Ytt 3 135 18 34079 HT_ HW_ hHeld ?_
              refine Ypt 5 137 18 34111 HT_ ?_
              refine Ypt 6 138 18 34175 HT_ ?_
              refine Ytt 7 139 18 34303 HT_ HW_ hHeld ?_
              refine Ytt 9 141 18 34815 HT_ HW_ hHeld ?_
              refine Ypt 11 143 18 36863 HT_ ?_
              refine Ypt 12 144 18 40959 HT_ ?_
              refine Ytt 13 145 18 49151 HT_ HW_ hHeld ?_
              refine Yot 14 146 18 65535 HT_ (fun K hK => ?_)
              refine Ygs Try.func14 #[.agg #[.slice Ao58 t137.length co58], .int .i64 ((zaa l0_0 a1).f0), .int .i64 ((zaa l0_0 a1).f1)] ?_
              with_reducible refine (zan.calls kj53 _ _ t137 ((zaa l0_0 a1).f0) ((zaa l0_0 a1).f1) t148 _ ?side1 ?side2 A87.out).mono ?_
              (case side1 => repeat (first | exact (Kd.V_reads' HO_143000.out).2.2 | (with_reducible refine Kd.C_alloc ?_ _) | (with_reducible refine Kd.C_drewN ?_ _) | (with_reducible refine Kd.C_drew ?_)))
              (case side2 => exact (Kd.V_reads' HO_143000.out).2.1)
              rintro e w90 ⟨rfl, hb⟩
              refine ⟨_, rfl, ?_⟩
              replace HO_15 := zac.mk (Kd.zbi (Yr HO_15) hb)
              replace HO_143000 := zac.mk (Kd.zcm (by (with_reducible repeat (first | apply Kd.V_alloc | apply Kd.zbu | apply Kd.zbw)); exact HO_143000.out) hb)
              replace BK119 := Ykb BK119 hb
              replace BK142 := Ykb BK142 hb
              replace HB := zac.mk (za5 Yb_PGssKeepsx4_1 hb)
              (try clear hb)
              (try clear hb2)
              (try clear hk)
              (try clear hi)
              refine hK.out _ _ ⟨(zae BK142.out 0).trans rfl, (zae BK119.out 0).trans rfl, ((HB.out.cell (World.block_lt_of_cell? w _ hw146_0)).trans hw146_0), ((HB.out.cell (World.block_lt_of_cell? w _ hw146_1)).trans hw146_1), ((HB.out.cell (World.block_lt_of_cell? w _ hw146_2)).trans hw146_2), ((HB.out.cell (World.block_lt_of_cell? w _ hw147_0)).trans hw147_0), ((HB.out.cell (World.block_lt_of_cell? w _ hw147_1)).trans hw147_1), ((HB.out.cell (World.block_lt_of_cell? w _ hw147_2)).trans hw147_2)⟩ (fun hHeld => ?_)
              clear hK K
              refine Ynw 146 ?_
              refine Yot 16 148 18 131071 HT_ (fun K hK => ?_)
              refine Ygs Try.func11 #[.agg #[.slice Ao58 t137.length co58], .int .i64 t148, .int .i64 a2] ?_
              with_reducible refine (zb5.calls _ _ t137 t148 a2 t149 _ ?side1 ?side2 A88.out).mono ?_
              (case side1 => repeat (first | exact (Kd.V_reads' HO_143000.out).2.2 | (with_reducible refine Kd.C_alloc ?_ _) | (with_reducible refine Kd.C_drewN ?_ _) | (with_reducible refine Kd.C_drew ?_)))
              (case side2 => exact (Kd.V_reads' HO_143000.out).2.1)
              rintro e w91 ⟨v150, rfl, ho0, hb⟩
              refine ⟨_, rfl, ?_⟩
              replace HO_143000 := zac.mk (Kd.V_elder' (by (with_reducible repeat (first | apply Kd.V_alloc | apply Kd.zbu | apply Kd.zbw)); exact HO_143000.out) (Kd.R_base ho0) hb)
              have HO151 := zac.mk (Kd.zck (Kd.R_new' ho0 (Kd.R_lt (Yr HO_15))) (zcv Yb_PGssKeepsx4_1))
              replace HO_15 := zac.mk (Kd.R_elder' (Yr HO_15) (Kd.R_base ho0) hb)
              replace BK119 := Ykb BK119 hb
              replace BK142 := Ykb BK142 hb
              replace HB := zac.mk (za5 Yb_PGssKeepsx4_1 hb)
              (try clear hb)
              (try clear hb2)
              (try clear hk)
              (try clear hi)
              (try clear ho0)
              refine hK.out _ _ ⟨(zae BK142.out 0).trans rfl, (zae BK119.out 0).trans rfl, ((HB.out.cell (World.block_lt_of_cell? w _ hw146_0)).trans hw146_0), ((HB.out.cell (World.block_lt_of_cell? w _ hw146_1)).trans hw146_1), ((HB.out.cell (World.block_lt_of_cell? w _ hw146_2)).trans hw146_2), ((HB.out.cell (World.block_lt_of_cell? w _ hw147_0)).trans hw147_0), ((HB.out.cell (World.block_lt_of_cell? w _ hw147_1)).trans hw147_1), ((HB.out.cell (World.block_lt_of_cell? w _ hw147_2)).trans hw147_2)⟩ (fun hHeld => ?_)
              clear hK K
              refine Ynw 148 ?_
              refine Ypt 17 26 18 262143 HT_ ?_
              refine zbo (zbl HT_.out (by kernel_rfl)) ?_
              obtain ⟨Ao92, co92, eo92⟩ := Kd.zb6 HO_15.out
              subst eo92
              try go_wp2
              go_loopg [151] kj53 (fun kq v151 w' => ∃ (x151_5 : Int), v151 = .int .i64 x151_5 ∧ zac (zab.l3 kq t149 t127 (t127.length : Int) x151_5 l0_0 t137 = some r) ∧ zac (kq ≤ kj53) ∧ zac (Kd.R (Kd.int .i64) 3 w' w.heap.size (fun k_ => some k_ ≠ ((.slice Ao92 t127.length co92) : Value).ownBlock) v150 t149) ∧ zac (Kd.R (Kd.int .i64) 3 w' w.heap.size (fun k_ => some k_ ≠ (v150 : Value).ownBlock) (.slice Ao92 t127.length co92) t127) ∧ zac (Kd.V k38 38 w' w.heap.size (fun k_ => some k_ ≠ (v150 : Value).ownBlock ∧ some k_ ≠ ((.slice Ao92 t127.length co92) : Value).ownBlock ∧ k_ ≠ gb119 ∧ k_ ≠ gb142) (.slice Ao58 t137.length co58) t137) ∧ zac (w'.heap[gb119]? = some (.cells #[(.slice (some ad146) l0_0.length c0_0)] 24 (0, 0))) ∧ zac (w'.heap[gb142]? = some (.cells #[(.slice Ao58 t137.length co58)] 24 (0, 0))) ∧ zac (Below w.heap.size w w'))
              case atStart => exact ⟨(0), Yfs, H', ⟨Nat.le_refl _⟩, ⟨by (with_reducible repeat (first | apply Kd.zcr | apply Kd.zc6 | apply Kd.zco)); exact Kd.zbr HO151.out (fun _ hk => hk.2)⟩, ⟨by (with_reducible repeat (first | apply Kd.zcr | apply Kd.zc6 | apply Kd.zco)); exact Kd.zbr HO_15.out (fun _ hk => hk.2)⟩, ⟨by (with_reducible repeat (first | apply Kd.V_alloc | apply Kd.zbu | apply Kd.zbw)); exact Kd.zb8 HO_143000.out (fun _ hk => ⟨hk.2, ⟨hk.1.1, ⟨hk.1.2.1, hk.1.2.2⟩⟩⟩)⟩, ⟨Yg BK119⟩, ⟨Yg BK142⟩, ⟨Yb_PGssKeepsx4_1⟩⟩
              case round =>
               clear H'
               obtain ⟨x151_5, rfl, HA, HK5, HO_26, HO_149, HO_143000, BK119, BK142, HB⟩ := hrel
               cases gk with
               | zero => exact absurd HA.out (by simp [zab.l3])
               | succ k5 =>
                have H := HA.out;clear HA
                simp only [zab.l3] at H
                by_cases c93 : x151_5 < (t127.length : Int)
                ·rw [if_pos c93] at H
                 have c93b0 := decide_eq_true c93
                 clear c93
                 by_cases c94 : 0 ≤ x151_5
                 ·rw [if_pos c94] at H
                  have c94b0 := decide_eq_true c94
                  clear c94
                  by_cases c95 : x151_5 < (t127.length : Int)
                  ·rw [if_pos c95] at H
                   have c95b0 := decide_eq_true c95
                   clear c95
                   by_cases c96 : 0 ≤ (rd t127 x151_5)
                   ·rw [if_pos c96] at H
                    have c96b0 := decide_eq_true c96
                    clear c96
                    by_cases c97 : (rd t127 x151_5) < (l0_0.length : Int)
                    ·rw [if_pos c97] at H
                     have c97b0 := decide_eq_true c97
                     clear c97;replace H := Option.bind_eq_some_iff.mp H
                     obtain ⟨t156, A980, H⟩ := H
                     replace H : ((zau.f k5 t149 t156).bind fun t157 => (if t157 = true then (zab.l3 k5 t149 t127 (t127.length : Int) (wrap64 (x151_5 + 1)) l0_0 t137) else (some false))) = some r := H
                     have A98 := zac.mk A980;clear A980;replace H := Option.bind_eq_some_iff.mp H
                     obtain ⟨t157, A990, H⟩ := H
                     replace H : (if t157 = true then (zab.l3 k5 t149 t127 (t127.length : Int) (wrap64 (x151_5 + 1)) l0_0 t137) else (some false)) = some r := H
                     have A99 := zac.mk A990;clear A990
                     by_cases c100 : t157 = true
                     ·subst c100
                      have H1 : (zab.l3 k5 t149 t127 (t127.length : Int) (wrap64 (x151_5 + 1)) l0_0 t137) = some r := by rw [if_pos rfl] at H; exact H
                      clear H;have H := H1;clear H1
                      have H' := zac.mk H
                      clear H
                      have p153 : 0 ≤ (x151_5 : Int) := Yod
                      have q153 : x151_5 < (t127.length : Int) := Yod
                      obtain ⟨ad153, e153, hx153_0⟩ := Kd.zbe (Kd.R_reads' HO_149.out).2.2 x151_5 p153 q153
                      cases e153
                      replace p153 := eq_true p153
                      replace q153 := eq_true q153
                      try go_wp2
                      replace HO_26 := zac.mk (Kd.zco HO_26.out)
                      replace HO_149 := zac.mk (Kd.zco HO_149.out)
                      replace HO_143000 := zac.mk (Kd.zbw HO_143000.out)
                      replace BK119 := zac.mk (zah BK119.out)
                      replace BK142 := zac.mk (zah BK142.out)
                      replace HB := zac.mk (zas HB.out)
                      have p154 : 0 ≤ ((rd t127 x151_5) : Int) := Yod
                      have q154 : (rd t127 x151_5) < (l0_0.length : Int) := Yod
                      obtain ⟨ad154, A154_2, c154_2, e154, hx154_0, hx154_1, hx154_2, hl154_2, hi154_2⟩ := zbx HR0_0.out (rd t127 x151_5) p154 q154
                      have hw154_2 := hx154_2;have hw154_1 := hx154_1;have hw154_0 := hx154_0
                      obtain rfl : ad146 = ad154 := (by injection e154)
                      replace hx154_0 := zaf HB.out hx154_0
                      replace hx154_1 := zaf HB.out hx154_1
                      replace hx154_2 := zaf HB.out hx154_2
                      have HR154_2 := zac.mk hi154_2;have HC154_2 := zac.mk hl154_2;clear hi154_2 hl154_2
                      replace p154 := eq_true p154
                      replace q154 := eq_true q154
                      have p155 : 0 ≤ ((rd t127 x151_5) : Int) := Yod
                      have q155 : (rd t127 x151_5) < (l0_0.length : Int) := Yod
                      obtain ⟨ad155, A155_2, c155_2, e155, hx155_0, hx155_1, hx155_2, hl155_2, hi155_2⟩ := zbx HR0_0.out (rd t127 x151_5) p155 q155
                      have hw155_2 := hx155_2;have hw155_1 := hx155_1;have hw155_0 := hx155_0
                      obtain rfl : ad146 = ad155 := (by injection e155)
                      replace hx155_0 := zaf HB.out hx155_0
                      replace hx155_1 := zaf HB.out hx155_1
                      replace hx155_2 := zaf HB.out hx155_2
                      have HR155_2 := zac.mk hi155_2;have HC155_2 := zac.mk hl155_2;clear hi155_2 hl155_2
                      replace p155 := eq_true p155
                      replace q155 := eq_true q155
                      have ea_ := Option.some.inj (hx154_2.symm.trans hx155_2)
                      injection ea_ with ea_ en_ ec_
                      subst ea_;subst ec_;clear en_
                      refine zbd (n := 17) (S := fun w' => w'.cell? ⟨gb142, 0, none⟩ = some (.slice Ao58 t137.length co58) ∧ w'.cell? ⟨gb119, 0, none⟩ = some (.slice (some ad146) l0_0.length c0_0) ∧ w'.cell? (ad146.add (((rd t127 x151_5)).toNat * 3)) = some (.int .i64 ((zaa l0_0 (rd t127 x151_5)).f0)) ∧ w'.cell? ⟨(ad146.add (((rd t127 x151_5)).toNat * 3)).block, (ad146.add (((rd t127 x151_5)).toNat * 3)).off + 1, none⟩ = some (.int .i64 ((zaa l0_0 (rd t127 x151_5)).f1)) ∧ w'.cell? ⟨(ad146.add (((rd t127 x151_5)).toNat * 3)).block, (ad146.add (((rd t127 x151_5)).toNat * 3)).off + 2, none⟩ = some (.slice A154_2 ((zaa l0_0 (rd t127 x151_5)).f2).length c154_2) ∧ w'.cell? (ad146.add (((rd t127 x151_5)).toNat * 3)) = some (.int .i64 ((zaa l0_0 (rd t127 x151_5)).f0)) ∧ w'.cell? ⟨(ad146.add (((rd t127 x151_5)).toNat * 3)).block, (ad146.add (((rd t127 x151_5)).toNat * 3)).off + 1, none⟩ = some (.int .i64 ((zaa l0_0 (rd t127 x151_5)).f1)) ∧ w'.cell? ⟨(ad146.add (((rd t127 x151_5)).toNat * 3)).block, (ad146.add (((rd t127 x151_5)).toNat * 3)).off + 2, none⟩ = some (.slice A154_2 ((zaa l0_0 (rd t127 x151_5)).f2).length c154_2)) (ds := []) (Ymk 17 0) (by kernel_rfl) rfl rfl ⟨(zae BK142.out 0).trans rfl, (zae BK119.out 0).trans rfl, ((HB.out.cell (World.block_lt_of_cell? w _ hw154_0)).trans hw154_0), ((HB.out.cell (World.block_lt_of_cell? w _ hw154_1)).trans hw154_1), ((HB.out.cell (World.block_lt_of_cell? w _ hw154_2)).trans hw154_2), ((HB.out.cell (World.block_lt_of_cell? w _ hw155_0)).trans hw155_0), ((HB.out.cell (World.block_lt_of_cell? w _ hw155_1)).trans hw155_1), ((HB.out.cell (World.block_lt_of_cell? w _ hw155_2)).trans hw155_2)⟩ (fun hHeld => ?_); refine za9 zab.tab31 zab.bits31 (fun HT_ HW_ => ?_)
                      generalize wr.drew = w101 at HO_26 HO_149 HO_143000 BK119 BK142 HB HR154_2 HR155_2 hx154_0 hx154_1 hx154_2 hx155_0 hx155_1 hx155_2 hHeld ⊢
                      refine Ypt 0 155 17 1 HT_ ?_
                      refine Ypt 2 157 17 5 HT_ ?_
                      refine Ypt 4 159 17 21 HT_ ?_
                      refine Ypt 8 163 17 277 HT_ ?_
                      refine Ypt 10 165 17 1301 HT_ ?_
                      refine Ytt 1 156 17 1303 HT_ HW_ hHeld ?_
                      refine Ytt 3 158 17 1311 HT_ HW_ hHeld ?_
                      refine Ypt 5 160 17 1343 HT_ ?_
                      refine Ypt 6 161 17 1407 HT_ ?_
                      refine Ytt 7 162 17 1535 HT_ HW_ hHeld ?_
                      refine Ytt 9 164 17 2047 HT_ HW_ hHeld ?_
                      refine Ypt 11 166 17 4095 HT_ ?_
                      refine Ypt 12 167 17 8191 HT_ ?_
                      refine Ytt 13 168 17 16383 HT_ HW_ hHeld ?_
                      refine Yot 14 169 17 32767 HT_ (fun K hK => ?_)
                      refine Ygs Try.func14 #[.agg #[.slice Ao58 t137.length co58], .int .i64 ((zaa l0_0 (rd t127 x151_5)).f0), .int .i64 ((zaa l0_0 (rd t127 x151_5)).f1)] ?_
                      with_reducible refine (zan.calls k5 _ _ t137 ((zaa l0_0 (rd t127 x151_5)).f0) ((zaa l0_0 (rd t127 x151_5)).f1) t156 _ ?side1 ?side2 A98.out).mono ?_
                      (case side1 => repeat (first | exact (Kd.V_reads' HO_143000.out).2.2 | (with_reducible refine Kd.C_alloc ?_ _) | (with_reducible refine Kd.C_drewN ?_ _) | (with_reducible refine Kd.C_drew ?_)))
                      (case side2 => exact (Kd.V_reads' HO_143000.out).2.1)
                      rintro e w102 ⟨rfl, hb⟩
                      refine ⟨_, rfl, ?_⟩
                      replace HO_26 := zac.mk (Kd.zbi (Yr HO_26) hb)
                      replace HO_149 := zac.mk (Kd.zbi (Yr HO_149) hb)
                      replace HO_143000 := zac.mk (Kd.zcm (by (with_reducible repeat (first | apply Kd.V_alloc | apply Kd.zbu | apply Kd.zbw)); exact HO_143000.out) hb)
                      replace BK119 := Ykb BK119 hb
                      replace BK142 := Ykb BK142 hb
                      replace HB := zac.mk (za5 Yb_PGssKeepsx4_1 hb)
                      (try clear hb)
                      (try clear hb2)
                      (try clear hk)
                      (try clear hi)
                      obtain ⟨Ao103, co103, eo103⟩ := Kd.zb6 HO_26.out
                      (first | subst eo103 | (injection eo103 with f1_ f2_ f3_; have f4_ := f1_.symm; have f5_ := f3_.symm; clear f1_ f2_ f3_; subst f4_; subst f5_))
                      refine hK.out _ _ ⟨(zae BK142.out 0).trans rfl, (zae BK119.out 0).trans rfl, ((HB.out.cell (World.block_lt_of_cell? w _ hw154_0)).trans hw154_0), ((HB.out.cell (World.block_lt_of_cell? w _ hw154_1)).trans hw154_1), ((HB.out.cell (World.block_lt_of_cell? w _ hw154_2)).trans hw154_2), ((HB.out.cell (World.block_lt_of_cell? w _ hw155_0)).trans hw155_0), ((HB.out.cell (World.block_lt_of_cell? w _ hw155_1)).trans hw155_1), ((HB.out.cell (World.block_lt_of_cell? w _ hw155_2)).trans hw155_2)⟩ (fun hHeld => ?_)
                      clear hK K
                      refine Ynw 169 ?_
                      refine Yot 15 170 17 65535 HT_ (fun K hK => ?_)
                      refine Ygs Try.func12 #[.slice Ao103 t149.length co103, .int .i64 t156] ?_
                      with_reducible refine (zau.calls k5 _ _ t149 t156 true _ ?side1 ?side2 A99.out).mono ?_
                      (case side1 => repeat (first | exact (Kd.R_reads' HO_26.out).2.2 | (with_reducible refine Kd.C_alloc ?_ _) | (with_reducible refine Kd.C_drewN ?_ _) | (with_reducible refine Kd.C_drew ?_)))
                      (case side2 => exact (Kd.R_reads' HO_26.out).2.1)
                      rintro e w' ⟨rfl, ⟨nd, rfl⟩⟩
                      refine ⟨_, rfl, ?_⟩
                      refine hK.out _ _ ⟨(zae BK142.out 0).trans rfl, (zae BK119.out 0).trans rfl, ((HB.out.cell (World.block_lt_of_cell? w _ hw154_0)).trans hw154_0), ((HB.out.cell (World.block_lt_of_cell? w _ hw154_1)).trans hw154_1), ((HB.out.cell (World.block_lt_of_cell? w _ hw154_2)).trans hw154_2), ((HB.out.cell (World.block_lt_of_cell? w _ hw155_0)).trans hw155_0), ((HB.out.cell (World.block_lt_of_cell? w _ hw155_1)).trans hw155_1), ((HB.out.cell (World.block_lt_of_cell? w _ hw155_2)).trans hw155_2)⟩ (fun hHeld => ?_)
                      clear hK K
                      refine Ynw 170 ?_
                      refine Ypt 16 171 17 131071 HT_ ?_
                      refine zbo (zbl HT_.out (by kernel_rfl)) ?_
                      try go_wp2
                      go_roundg k5
                      case measure => have := HJ6.out; have := HK2.out; have := HJ39.out; have := HJ53.out; have := HK5.out; omega
                      case rel => exact ⟨(wrap64 (x151_5 + 1)), Yfs, H', ⟨by have := HJ6.out; have := HK2.out; have := HJ39.out; have := HJ53.out; have := HK5.out; omega⟩, ⟨Yr HO_26⟩, ⟨Yr HO_149⟩, ⟨by (with_reducible repeat (first | apply Kd.V_alloc | apply Kd.zbu | apply Kd.zbw)); exact HO_143000.out⟩, ⟨Yg BK119⟩, ⟨Yg BK142⟩, ⟨Yb_PGssKeepsx4_1⟩⟩
                     ·replace c100 := Bool.eq_false_iff.mpr c100
                      subst c100
                      have H1 : (some false) = some r := by rw [if_neg (show ¬ (false = true) by decide)] at H; exact H
                      clear H;have H := H1;clear H1;obtain rfl := Option.some.inj H
                      have p153 : 0 ≤ (x151_5 : Int) := Yod
                      have q153 : x151_5 < (t127.length : Int) := Yod
                      obtain ⟨ad153, e153, hx153_0⟩ := Kd.zbe (Kd.R_reads' HO_149.out).2.2 x151_5 p153 q153
                      cases e153
                      replace p153 := eq_true p153
                      replace q153 := eq_true q153
                      try go_wp2
                      replace HO_26 := zac.mk (Kd.zco HO_26.out)
                      replace HO_149 := zac.mk (Kd.zco HO_149.out)
                      replace HO_143000 := zac.mk (Kd.zbw HO_143000.out)
                      replace BK119 := zac.mk (zah BK119.out)
                      replace BK142 := zac.mk (zah BK142.out)
                      replace HB := zac.mk (zas HB.out)
                      have p154 : 0 ≤ ((rd t127 x151_5) : Int) := Yod
                      have q154 : (rd t127 x151_5) < (l0_0.length : Int) := Yod
                      obtain ⟨ad154, A154_2, c154_2, e154, hx154_0, hx154_1, hx154_2, hl154_2, hi154_2⟩ := zbx HR0_0.out (rd t127 x151_5) p154 q154
                      have hw154_2 := hx154_2;have hw154_1 := hx154_1;have hw154_0 := hx154_0
                      obtain rfl : ad146 = ad154 := (by injection e154)
                      replace hx154_0 := zaf HB.out hx154_0
                      replace hx154_1 := zaf HB.out hx154_1
                      replace hx154_2 := zaf HB.out hx154_2
                      have HR154_2 := zac.mk hi154_2;have HC154_2 := zac.mk hl154_2;clear hi154_2 hl154_2
                      replace p154 := eq_true p154
                      replace q154 := eq_true q154
                      have p155 : 0 ≤ ((rd t127 x151_5) : Int) := Yod
                      have q155 : (rd t127 x151_5) < (l0_0.length : Int) := Yod
                      obtain ⟨ad155, A155_2, c155_2, e155, hx155_0, hx155_1, hx155_2, hl155_2, hi155_2⟩ := zbx HR0_0.out (rd t127 x151_5) p155 q155
                      have hw155_2 := hx155_2;have hw155_1 := hx155_1;have hw155_0 := hx155_0
                      obtain rfl : ad146 = ad155 := (by injection e155)
                      replace hx155_0 := zaf HB.out hx155_0
                      replace hx155_1 := zaf HB.out hx155_1
                      replace hx155_2 := zaf HB.out hx155_2
                      have HR155_2 := zac.mk hi155_2;have HC155_2 := zac.mk hl155_2;clear hi155_2 hl155_2
                      replace p155 := eq_true p155
                      replace q155 := eq_true q155
                      have ea_ := Option.some.inj (hx154_2.symm.trans hx155_2)
                      injection ea_ with ea_ en_ ec_
                      subst ea_;subst ec_;clear en_
                      refine zbd (n := 17) (S := fun w' => w'.cell? ⟨gb142, 0, none⟩ = some (.slice Ao58 t137.length co58) ∧ w'.cell? ⟨gb119, 0, none⟩ = some (.slice (some ad146) l0_0.length c0_0) ∧ w'.cell? (ad146.add (((rd t127 x151_5)).toNat * 3)) = some (.int .i64 ((zaa l0_0 (rd t127 x151_5)).f0)) ∧ w'.cell? ⟨(ad146.add (((rd t127 x151_5)).toNat * 3)).block, (ad146.add (((rd t127 x151_5)).toNat * 3)).off + 1, none⟩ = some (.int .i64 ((zaa l0_0 (rd t127 x151_5)).f1)) ∧ w'.cell? ⟨(ad146.add (((rd t127 x151_5)).toNat * 3)).block, (ad146.add (((rd t127 x151_5)).toNat * 3)).off + 2, none⟩ = some (.slice A154_2 ((zaa l0_0 (rd t127 x151_5)).f2).length c154_2) ∧ w'.cell? (ad146.add (((rd t127 x151_5)).toNat * 3)) = some (.int .i64 ((zaa l0_0 (rd t127 x151_5)).f0)) ∧ w'.cell? ⟨(ad146.add (((rd t127 x151_5)).toNat * 3)).block, (ad146.add (((rd t127 x151_5)).toNat * 3)).off + 1, none⟩ = some (.int .i64 ((zaa l0_0 (rd t127 x151_5)).f1)) ∧ w'.cell? ⟨(ad146.add (((rd t127 x151_5)).toNat * 3)).block, (ad146.add (((rd t127 x151_5)).toNat * 3)).off + 2, none⟩ = some (.slice A154_2 ((zaa l0_0 (rd t127 x151_5)).f2).length c154_2)) (ds := []) (Ymk 17 0) (by kernel_rfl) rfl rfl ⟨(zae BK142.out 0).trans rfl, (zae BK119.out 0).trans rfl, ((HB.out.cell (World.block_lt_of_cell? w _ hw154_0)).trans hw154_0), ((HB.out.cell (World.block_lt_of_cell? w _ hw154_1)).trans hw154_1), ((HB.out.cell (World.block_lt_of_cell? w _ hw154_2)).trans hw154_2), ((HB.out.cell (World.block_lt_of_cell? w _ hw155_0)).trans hw155_0), ((HB.out.cell (World.block_lt_of_cell? w _ hw155_1)).trans hw155_1), ((HB.out.cell (World.block_lt_of_cell? w _ hw155_2)).trans hw155_2)⟩ (fun hHeld => ?_); refine za9 zab.tab31 zab.bits31 (fun HT_ HW_ => ?_)
                      generalize wr.drew = w104 at HO_26 HO_149 HO_143000 BK119 BK142 HB HR154_2 HR155_2 hx154_0 hx154_1 hx154_2 hx155_0 hx155_1 hx155_2 hHeld ⊢
                      refine Ypt 0 155 17 1 HT_ ?_
                      refine Ypt 2 157 17 5 HT_ ?_
                      refine Ypt 4 159 17 21 HT_ ?_
                      refine Ypt 8 163 17 277 HT_ ?_
                      refine Ypt 10 165 17 1301 HT_ ?_
                      refine Ytt 1 156 17 1303 HT_ HW_ hHeld ?_
                      refine Ytt 3 158 17 1311 HT_ HW_ hHeld ?_
                      refine Ypt 5 160 17 1343 HT_ ?_
                      refine Ypt 6 161 17 1407 HT_ ?_
                      refine Ytt 7 162 17 1535 HT_ HW_ hHeld ?_
                      refine Ytt 9 164 17 2047 HT_ HW_ hHeld ?_
                      refine Ypt 11 166 17 4095 HT_ ?_
                      refine Ypt 12 167 17 8191 HT_ ?_
                      refine Ytt 13 168 17 16383 HT_ HW_ hHeld ?_
                      refine Yot 14 169 17 32767 HT_ (fun K hK => ?_)
                      refine Ygs Try.func14 #[.agg #[.slice Ao58 t137.length co58], .int .i64 ((zaa l0_0 (rd t127 x151_5)).f0), .int .i64 ((zaa l0_0 (rd t127 x151_5)).f1)] ?_
                      with_reducible refine (zan.calls k5 _ _ t137 ((zaa l0_0 (rd t127 x151_5)).f0) ((zaa l0_0 (rd t127 x151_5)).f1) t156 _ ?side1 ?side2 A98.out).mono ?_
                      (case side1 => repeat (first | exact (Kd.V_reads' HO_143000.out).2.2 | (with_reducible refine Kd.C_alloc ?_ _) | (with_reducible refine Kd.C_drewN ?_ _) | (with_reducible refine Kd.C_drew ?_)))
                      (case side2 => exact (Kd.V_reads' HO_143000.out).2.1)
                      rintro e w105 ⟨rfl, hb⟩
                      refine ⟨_, rfl, ?_⟩
                      replace HO_26 := zac.mk (Kd.zbi (Yr HO_26) hb)
                      replace HO_149 := zac.mk (Kd.zbi (Yr HO_149) hb)
                      replace HO_143000 := zac.mk (Kd.zcm (by (with_reducible repeat (first | apply Kd.V_alloc | apply Kd.zbu | apply Kd.zbw)); exact HO_143000.out) hb)
                      replace BK119 := Ykb BK119 hb
                      replace BK142 := Ykb BK142 hb
                      replace HB := zac.mk (za5 Yb_PGssKeepsx4_1 hb)
                      (try clear hb)
                      (try clear hb2)
                      (try clear hk)
                      (try clear hi)
                      obtain ⟨Ao106, co106, eo106⟩ := Kd.zb6 HO_26.out
                      (first | subst eo106 | (injection eo106 with f1_ f2_ f3_; have f4_ := f1_.symm; have f5_ := f3_.symm; clear f1_ f2_ f3_; subst f4_; subst f5_))
                      refine hK.out _ _ ⟨(zae BK142.out 0).trans rfl, (zae BK119.out 0).trans rfl, ((HB.out.cell (World.block_lt_of_cell? w _ hw154_0)).trans hw154_0), ((HB.out.cell (World.block_lt_of_cell? w _ hw154_1)).trans hw154_1), ((HB.out.cell (World.block_lt_of_cell? w _ hw154_2)).trans hw154_2), ((HB.out.cell (World.block_lt_of_cell? w _ hw155_0)).trans hw155_0), ((HB.out.cell (World.block_lt_of_cell? w _ hw155_1)).trans hw155_1), ((HB.out.cell (World.block_lt_of_cell? w _ hw155_2)).trans hw155_2)⟩ (fun hHeld => ?_)
                      clear hK K
                      refine Ynw 169 ?_
                      refine Yot 15 170 17 65535 HT_ (fun K hK => ?_)
                      refine Ygs Try.func12 #[.slice Ao106 t149.length co106, .int .i64 t156] ?_
                      with_reducible refine (zau.calls k5 _ _ t149 t156 false _ ?side1 ?side2 A99.out).mono ?_
                      (case side1 => repeat (first | exact (Kd.R_reads' HO_26.out).2.2 | (with_reducible refine Kd.C_alloc ?_ _) | (with_reducible refine Kd.C_drewN ?_ _) | (with_reducible refine Kd.C_drew ?_)))
                      (case side2 => exact (Kd.R_reads' HO_26.out).2.1)
                      rintro e w' ⟨rfl, ⟨nd, rfl⟩⟩
                      refine ⟨_, rfl, ?_⟩
                      refine hK.out _ _ ⟨(zae BK142.out 0).trans rfl, (zae BK119.out 0).trans rfl, ((HB.out.cell (World.block_lt_of_cell? w _ hw154_0)).trans hw154_0), ((HB.out.cell (World.block_lt_of_cell? w _ hw154_1)).trans hw154_1), ((HB.out.cell (World.block_lt_of_cell? w _ hw154_2)).trans hw154_2), ((HB.out.cell (World.block_lt_of_cell? w _ hw155_0)).trans hw155_0), ((HB.out.cell (World.block_lt_of_cell? w _ hw155_1)).trans hw155_1), ((HB.out.cell (World.block_lt_of_cell? w _ hw155_2)).trans hw155_2)⟩ (fun hHeld => ?_)
                      clear hK K
                      refine Ynw 170 ?_
                      refine Ypt 16 171 17 131071 HT_ ?_
                      refine zbo (zbl HT_.out (by kernel_rfl)) ?_
                      try go_wp2
                      go_ret
                      exact ⟨Yfi, Yb_PGssKeepsx4_1⟩
                    ·rw [if_neg c97] at H
                     exact absurd H (by simp)
                   ·rw [if_neg c96] at H
                    exact absurd H (by simp)
                  ·rw [if_neg c95] at H
                   exact absurd H (by simp)
                 ·rw [if_neg c94] at H
                  exact absurd H (by simp)
                ·rw [if_neg c93] at H
                 have c93b0 := decide_eq_false c93
                 clear c93;replace H := Option.bind_eq_some_iff.mp H
                 obtain ⟨t152, A1070, H⟩ := H
                 replace H : (some t152) = some r := H
                 have A107 := zac.mk A1070;clear A1070;obtain rfl := Option.some.inj H
                 go_wp2_with (first | ((with_reducible refine zaw (f := 9) rfl ?_); refine Ygl (some 173) Try.func9 #[] ?_; (with_reducible refine (zax.calls  t152 _ A107.out).mono ?_); rintro e w108 ⟨rfl, hb⟩; refine ⟨_, rfl, ?_⟩; replace HO_26 := zac.mk (Kd.zbi (Yr HO_26) hb); replace HO_149 := zac.mk (Kd.zbi (Yr HO_149) hb); replace HO_143000 := zac.mk (Kd.zcm (by (with_reducible repeat (first | apply Kd.V_alloc | apply Kd.zbu | apply Kd.zbw)); exact HO_143000.out) hb); replace BK119 := Ykb BK119 hb; replace BK142 := Ykb BK142 hb; replace HB := zac.mk (za5 Yb_PGssKeepsx4_1 hb); (try clear hb); (try clear hb2); (try clear hk); (try clear hi)))
                 go_ret
                 exact ⟨Yfi, Yb_PGssKeepsx4_1⟩
             ·rw [if_neg c86] at H
              exact absurd H (by simp)
            ·rw [if_neg c85] at H
             exact absurd H (by simp)
end Go.Proofs.ZZ.PGssKeeps
end
section
namespace Go.Proofs.ZZ.PGssKeeps
open Go.RowKit Go.Proofs.ZW.PrintWords Go.Proofs.ZW.PrintLast
def ok38 (s : S38) : Prop := ((Lit.int .i64 s.f0).wf = true) ∧ ((Lit.int .i64 s.f1).wf = true) ∧ (s.f2.length * 8 ≤ 140737488351232 ∧ ∀ y ∈ s.f2, ((Lit.int .i64 y).wf = true))
def ok24 (s : S24) : Prop := (s.f0.length * 40 ≤ 140737488351232 ∧ ∀ y ∈ s.f0, ok38 y)
def zab.Pure : Prop := ∀ (s0 : S24) (a1 : Int) (a2 : Int) (a3 : Int) (a4 : Int) (a5 : Int), ok24 s0 → ((Lit.int .i64 a1).wf = true) → ((Lit.int .i64 a2).wf = true) → ((Lit.int .i64 a3).wf = true) → ((Lit.int .i64 a4).wf = true) → ((Lit.int .i64 a5).wf = true) → ∃ k, zab.f k s0.f0 a1 a2 a3 a4 a5 = some true
end Go.Proofs.ZZ.PGssKeeps
end
section
namespace Go.Proofs.ZZ.Pure
open Go.RowKit Go.Proofs.ZZ.PGssKeeps Go.Proofs.ZW.PrintWords Go.Proofs.ZW.PrintLast Go.Proofs.ZW.PrintMore
theorem w64 {x : Int} (h1 : -9223372036854775808 ≤ x) (h2 : x ≤ 9223372036854775807) : wrap64 x = x := by
 unfold wrap64
 omega
theorem evAt {α : Type} {g : Nat → Option α} {r : α} (h : ∀ k, g (k + 1) = some r) : Ev g r := ⟨1, fun k hk => by obtain ⟨m, rfl⟩ : ∃ m, k = m + 1 := ⟨k - 1, by omega⟩; exact h m⟩
open Go.Proofs.ZZ.G16 in
theorem zdj (a : Int) : zay.f a = some (decide (0 ≤ a ∧ a ≤ 65535)) := by
 unfold zay.f
 by_cases h : 0 ≤ a
 ·rw [if_pos h]
  congr 1
  simp [h]
 ·rw [if_neg (by omega)]
  congr 1
  simp [h]
open Go.Proofs.ZZ.G16 in
theorem before_eq (x y : S38) : za2.f x.f0 x.f1 x.f2 y.f0 y.f1 y.f2 = some (decide (x.f1 < y.f1 ∨ x.f1 = y.f1 ∧ x.f0 < y.f0)) := by
 unfold za2.f
 by_cases h : x.f1 < y.f1
 ·rw [if_pos h]; simp [h]
 ·rw [if_neg h]
  by_cases h2 : x.f1 = y.f1
  ·rw [if_pos h2]; simp [h2]
  ·rw [if_neg h2]; simp [h, h2]
theorem rd38 (l : List S38) (i : Nat) (h : i < l.length) : zaa l (i : Int) = l[i] := by
 show l.getD ((i : Int)).toNat z38 = _
 rw [Int.toNat_natCast, List.getD_eq_getElem?_getD, List.getElem?_eq_getElem h]
 rfl
theorem rdI (l : List Int) (i : Nat) (h : i < l.length) : rd l (i : Int) = l[i] := by
 show l.getD ((i : Int)).toNat 0 = _
 rw [Int.toNat_natCast, List.getD_eq_getElem?_getD, List.getElem?_eq_getElem h]
 rfl
def sumW (l : List S38) : Nat := (l.map fun x => 1 + x.f2.length).sum
theorem few_l0 (l : List S38) (hl : l.length ≤ 10000000000000) (hs : ∀ x ∈ l, x.f2.length ≤ 100000000000000) (d : Nat) : ∀ (i : Nat) (c : Int), i + d = l.length → c ≤ 3000 → -100000000000001 ≤ c → ∃ b, Ev (fun k => zav.l0 k c i l) b ∧ (b = true → ((sumW (l.drop i) : Nat) : Int) ≤ c ∧ l.length ≤ 120) := by
 induction d with
 | zero =>
  intro i c hi h1 h2
  by_cases hc : 0 ≤ c
  ·refine ⟨decide ((l.length : Int) ≤ 120), evAt fun k => ?_, fun hb => ?_⟩
   ·simp only [zav.l0]
    rw [if_neg (by omega), if_pos hc]
   ·rw [List.drop_of_length_le (by omega)]
    have := of_decide_eq_true hb
    exact ⟨by simpa [sumW] using hc, by omega⟩
  ·refine ⟨false, evAt fun k => ?_, fun h => nomatch h⟩
   simp only [zav.l0]
   rw [if_neg (by omega), if_neg (by omega)]
 | succ d ih =>
  intro i c hi h1 h2
  have hil : i < l.length := by omega
  by_cases hc : 0 ≤ c
  ·have hx := hs l[i] (List.getElem_mem hil)
   obtain ⟨b, e, g⟩ := ih (i + 1) (c - 1 - (l[i].f2.length : Int)) (by omega) (by omega) (by omega)
   refine ⟨b, Ev.step (fun k => ?_) e, fun hb => ?_⟩
   ·simp only [zav.l0]
    rw [if_pos (by omega), if_pos hc, if_pos (by omega), rd38 l i hil, w64 (x := c - 1) (by omega) (by omega), w64 (x := c - 1 - _) (by omega) (by omega), w64 (x := (i : Int) + 1) (by omega) (by omega)]
    rfl
   ·obtain ⟨g1, g2⟩ := g hb
    refine ⟨?_, g2⟩
    rw [List.drop_eq_getElem_cons hil]
    unfold sumW at g1 ⊢
    rw [List.map_cons, List.sum_cons]
    omega
  ·refine ⟨false, evAt fun k => ?_, fun h => nomatch h⟩
   simp only [zav.l0]
   rw [if_pos (by omega), if_neg (by omega)]
theorem few_Ev (l : List S38) (hl : l.length ≤ 10000000000000) (hs : ∀ x ∈ l, x.f2.length ≤ 100000000000000) : ∃ b, Ev (fun k => zav.f k l) b ∧ (b = true → sumW l ≤ 3000 ∧ l.length ≤ 120) := by
 obtain ⟨b, e, g⟩ := few_l0 l hl hs l.length 0 3000 (by omega) (by omega) (by omega)
 refine ⟨b, e, fun hb => ?_⟩
 obtain ⟨g1, g2⟩ := g hb
 rw [List.drop_zero] at g1
 exact ⟨by omega, g2⟩
def LinkOk (l : List S38) (a : Int) (f2 : List Int) (j : Nat) : Prop := 0 ≤ rd f2 j ∧ rd f2 j < (l.length : Int) ∧ (zaa l (rd f2 j)).f1 ≤ a ∧ (0 < j → rd f2 ((j : Int) - 1) < rd f2 j)
def zd9 (l : List S38) (i : Nat) : Prop := (0 ≤ (zaa l i).f0 ∧ (zaa l i).f0 ≤ 65535) ∧ (0 ≤ (zaa l i).f1 ∧ (zaa l i).f1 ≤ 65535) ∧ (0 < i → (zaa l ((i : Int) - 1)).f1 < (zaa l i).f1 ∨ (zaa l ((i : Int) - 1)).f1 = (zaa l i).f1 ∧ (zaa l ((i : Int) - 1)).f0 < (zaa l i).f0) ∧ ∀ j, j < (zaa l i).f2.length → LinkOk l (zaa l i).f1 (zaa l i).f2 j
theorem fit_l1 (l : List S38) (hl : l.length ≤ 4096) (i : Nat) (f0 f1 : Int) (f2 : List Int) (hf : f2.length ≤ 100000000000000) (hi : i < l.length) {b' : Bool} (h0 : Ev (fun k => zad.l0 k (l.length : Int) ((i : Int) + 1) l) b') (d : Nat) :
  ∀ j : Nat, j + d = f2.length → ∃ b, Ev (fun k => zad.l1 k (l.length : Int) i j l f0 f1 f2) b ∧ (b = true ↔ (∀ q, j ≤ q → q < f2.length → LinkOk l f1 f2 q) ∧ b' = true) := by
 induction d with
 | zero =>
  intro j hj
  refine ⟨b', Ev.step (fun k => ?_) h0, ⟨fun h => ⟨fun q h1 h2 => by omega, h⟩, fun h => h.2⟩⟩
  simp only [zad.l1]
  rw [if_neg (by omega), w64 (x := (i : Int) + 1) (by omega) (by omega)]
 | succ d ih =>
  intro j hj
  have bad : ∀ {b : Bool}, b = false → ¬ LinkOk l f1 f2 j → (b = true ↔ (∀ q, j ≤ q → q < f2.length → LinkOk l f1 f2 q) ∧ b' = true) := fun hb hn => by
   rw [hb]
   exact ⟨fun h => (nomatch h), fun h => absurd (h.1 j (Nat.le_refl _) (by omega)) hn⟩
  by_cases c1 : rd f2 j < 0
  ·refine ⟨false, evAt fun k => ?_, bad rfl (fun h => by have := h.1; omega)⟩
   simp only [zad.l1]
   rw [if_pos (by omega), if_pos (by omega), if_pos c1]
  ·by_cases c2 : (l.length : Int) ≤ rd f2 j
   ·refine ⟨false, evAt fun k => ?_, bad rfl (fun h => by have := h.2.1; omega)⟩
    simp only [zad.l1]
    rw [if_pos (by omega), if_pos (by omega), if_neg c1, if_pos c2]
   ·by_cases c3 : (zaa l (rd f2 j)).f1 > f1
    ·refine ⟨false, evAt fun k => ?_, bad rfl (fun h => by have := h.2.2.1; omega)⟩
     simp only [zad.l1]
     rw [if_pos (by omega), if_pos (by omega), if_neg c1, if_neg (by omega), if_pos (by omega), if_pos (by omega), if_pos c3]
    ·by_cases c4 : 0 < j
     ·by_cases c5 : rd f2 ((j : Int) - 1) ≥ rd f2 j
      ·refine ⟨false, evAt fun k => ?_, bad rfl (fun h => by have := h.2.2.2 c4; omega)⟩
       simp only [zad.l1]
       rw [if_pos (by omega), if_pos (by omega), if_neg c1, if_neg (by omega), if_pos (by omega), if_pos (by omega), if_neg c3, if_pos (by omega), w64 (x := (j : Int) - 1) (by omega) (by omega), if_pos (by omega), if_pos (by omega), if_pos c5]
      ·obtain ⟨b, e, g⟩ := ih (j + 1) (by omega)
       refine ⟨b, Ev.step (fun k => ?_) e, g.trans ⟨fun h => ⟨fun q h1 h2 => ?_, h.2⟩, fun h => ⟨fun q h1 h2 => h.1 q (by omega) h2, h.2⟩⟩⟩
       ·simp only [zad.l1]
        rw [if_pos (by omega), if_pos (by omega), if_neg c1, if_neg (by omega), if_pos (by omega), if_pos (by omega), if_neg c3, if_pos (by omega), w64 (x := (j : Int) - 1) (by omega) (by omega), if_pos (by omega), if_pos (by omega), if_neg c5, w64 (x := (j : Int) + 1) (by omega) (by omega)]
        rfl
       ·by_cases hq : q = j
        ·rw [hq]; exact ⟨by omega, by omega, by omega, fun _ => by omega⟩
        ·exact h.1 q (by omega) h2
     ·obtain ⟨b, e, g⟩ := ih (j + 1) (by omega)
      refine ⟨b, Ev.step (fun k => ?_) e, g.trans ⟨fun h => ⟨fun q h1 h2 => ?_, h.2⟩, fun h => ⟨fun q h1 h2 => h.1 q (by omega) h2, h.2⟩⟩⟩
      ·simp only [zad.l1]
       rw [if_pos (by omega), if_pos (by omega), if_neg c1, if_neg (by omega), if_pos (by omega), if_pos (by omega), if_neg c3, if_neg (by omega), w64 (x := (j : Int) + 1) (by omega) (by omega)]
       rfl
      ·by_cases hq : q = j
       ·rw [hq]; exact ⟨by omega, by omega, by omega, fun h => absurd h c4⟩
       ·exact h.1 q (by omega) h2
theorem fit_l0 (l : List S38) (hl : l.length ≤ 4096) (hs : ∀ x ∈ l, x.f2.length ≤ 100000000000000) (d : Nat) :
  ∀ i : Nat, i + d = l.length → ∃ b, Ev (fun k => zad.l0 k (l.length : Int) i l) b ∧ (b = true ↔ ∀ q, i ≤ q → q < l.length → zd9 l q) := by
 induction d with
 | zero =>
  intro i hi
  refine ⟨true, Ev.step (f := fun k => zad.j1 k (l.length : Int) i false l) (fun k => ?_) (evAt fun k => ?_), ⟨fun _ q h1 h2 => by omega, fun _ => rfl⟩⟩
  ·simp only [zad.l0]
   rw [if_neg (by omega)]
  ·simp only [zad.j1]
   rw [if_neg (by decide), decide_eq_true (by omega)]
 | succ d ih =>
  intro i hi
  have hil : i < l.length := by omega
  obtain ⟨b', e', g'⟩ := ih (i + 1) (by omega)
  have hx : (zaa l i).f2.length ≤ 100000000000000 := by rw [rd38 l i hil]; exact hs _ (List.getElem_mem hil)
  obtain ⟨b, e, g⟩ := fit_l1 l hl i (zaa l i).f0 (zaa l i).f1 (zaa l i).f2 hx hil e' _ 0 (Nat.zero_add _)
  have st : ∀ {b : Bool}, Ev (fun k => zad.j1 k (l.length : Int) i true l) b → Ev (fun k => zad.l0 k (l.length : Int) i l) b := fun h => Ev.step (fun k => by
   simp only [zad.l0]
   rw [if_pos (by omega), decide_eq_true (by omega)]) h
  have no : ¬ zd9 l i → ∀ {b : Bool}, b = false → (b = true ↔ ∀ q, i ≤ q → q < l.length → zd9 l q) := fun hn _ hb => by
   rw [hb]
   exact ⟨fun h => (nomatch h), fun h => absurd (h i (Nat.le_refl _) hil) hn⟩
  have j2f : Ev (fun k => zad.j2 k (l.length : Int) i true l (zaa l i).f0 (zaa l i).f1 (zaa l i).f2) false := evAt fun k => by
   simp only [zad.j2]
   rw [if_pos trivial]
  have j2t : Ev (fun k => zad.j2 k (l.length : Int) i false l (zaa l i).f0 (zaa l i).f1 (zaa l i).f2) b := Ev.step (fun k => by
   simp only [zad.j2]
   rw [if_neg (by decide)]
   rfl) e
  have yes : (0 ≤ (zaa l i).f0 ∧ (zaa l i).f0 ≤ 65535) → (0 ≤ (zaa l i).f1 ∧ (zaa l i).f1 ≤ 65535) → (0 < i → (zaa l ((i : Int) - 1)).f1 < (zaa l i).f1 ∨ (zaa l ((i : Int) - 1)).f1 = (zaa l i).f1 ∧ (zaa l ((i : Int) - 1)).f0 < (zaa l i).f0) → (b = true ↔ ∀ q, i ≤ q → q < l.length → zd9 l q) := fun c1 c2 c3 => by
   rw [g, g']
   refine ⟨fun h q h1 h2 => ?_, fun h => ⟨fun q _ h2 => (h i (Nat.le_refl _) hil).2.2.2 q h2, fun q h1 h2 => h q (by omega) h2⟩⟩
   by_cases hq : q = i
   ·subst hq
    exact ⟨c1, c2, c3, fun j hj => h.1 j (Nat.zero_le _) hj⟩
   ·exact h.2 q (by omega) h2
  by_cases c1 : 0 ≤ (zaa l i).f0 ∧ (zaa l i).f0 ≤ 65535
  ·by_cases c2 : 0 ≤ (zaa l i).f1 ∧ (zaa l i).f1 ≤ 65535
   ·by_cases c3 : 0 < i
    ·by_cases c4 : (zaa l ((i : Int) - 1)).f1 < (zaa l i).f1 ∨ (zaa l ((i : Int) - 1)).f1 = (zaa l i).f1 ∧ (zaa l ((i : Int) - 1)).f0 < (zaa l i).f0
     ·refine ⟨b, st (Ev.step (fun k => ?_) j2t), yes c1 c2 fun _ => c4⟩
      simp only [zad.j1]
      rw [if_pos trivial, if_pos (by omega), if_pos (by omega), zdj, Option.bind_some, if_pos (decide_eq_true c1), zdj, Option.bind_some, if_pos (decide_eq_true c2), if_pos (by omega), w64 (x := (i : Int) - 1) (by omega) (by omega), if_pos (by omega), if_pos (by omega), before_eq, Option.bind_some, decide_eq_true c4]
      rfl
     ·refine ⟨false, st (Ev.step (fun k => ?_) j2f), no (fun h => c4 (h.2.2.1 c3)) rfl⟩
      simp only [zad.j1]
      rw [if_pos trivial, if_pos (by omega), if_pos (by omega), zdj, Option.bind_some, if_pos (decide_eq_true c1), zdj, Option.bind_some, if_pos (decide_eq_true c2), if_pos (by omega), w64 (x := (i : Int) - 1) (by omega) (by omega), if_pos (by omega), if_pos (by omega), before_eq, Option.bind_some, decide_eq_false c4]
      rfl
    ·refine ⟨b, st (Ev.step (fun k => ?_) j2t), yes c1 c2 fun h => absurd h c3⟩
     simp only [zad.j1]
     rw [if_pos trivial, if_pos (by omega), if_pos (by omega), zdj, Option.bind_some, if_pos (decide_eq_true c1), zdj, Option.bind_some, if_pos (decide_eq_true c2), if_neg (by omega)]
   ·refine ⟨false, st (Ev.step (fun k => ?_) j2f), no (fun h => c2 h.2.1) rfl⟩
    simp only [zad.j1]
    rw [if_pos trivial, if_pos (by omega), if_pos (by omega), zdj, Option.bind_some, if_pos (decide_eq_true c1), zdj, Option.bind_some, decide_eq_false c2, if_neg (by decide)]
  ·refine ⟨false, st (Ev.step (fun k => ?_) j2f), no (fun h => c1 h.1) rfl⟩
   simp only [zad.j1]
   rw [if_pos trivial, if_pos (by omega), if_pos (by omega), zdj, Option.bind_some, decide_eq_false c1, if_neg (by decide)]
theorem zga {α : Type} {lt : α → α → Prop} (tr : ∀ {a b c}, lt a b → lt b c → lt a c) : ∀ {l : List α}, (∀ i (h : i + 1 < l.length), lt (l[i]'(by omega)) (l[i + 1]'h)) → l.Pairwise lt
 | [], _ => List.Pairwise.nil
 | [a], _ => List.pairwise_singleton _ _
 | a :: b :: t, h => by
  have h0 : lt a b := h 0 (by simp)
  have ht : (b :: t).Pairwise lt := zga (lt := lt) tr fun i hi => h (i + 1) (by simp at hi ⊢; omega)
  refine List.pairwise_cons.2 ⟨fun x hx => ?_, ht⟩
  rcases List.mem_cons.1 hx with rfl | hx
  ·exact h0
  ·exact tr h0 ((List.pairwise_cons.1 ht).1 x hx)
open Go.Proofs.ZZ.G16 in
theorem nodes_fit {l : List S38} (hl : l.length ≤ 4096) : (∀ q, 0 ≤ q → q < l.length → zd9 l q) ↔ FitG (l.map ndT) := by
 constructor
 ·intro h
  have hx : ∀ x ∈ l.map ndT, ∃ i, ∃ hi : i < l.length, x = ndT l[i] ∧ zd9 l i := by
   intro x hx
   obtain ⟨y, hy, rfl⟩ := List.mem_map.1 hx
   obtain ⟨i, hi, rfl⟩ := List.getElem_of_mem hy
   exact ⟨i, hi, rfl, h i (Nat.zero_le _) hi⟩
  have hk : ∀ i (hi : i < l.length), zd9 l i → ∀ k ∈ l[i].f2, 0 ≤ k ∧ k < (l.length : Int) ∧ (zaa l k).f1 ≤ l[i].f1 := by
   intro i hi ho k hk
   obtain ⟨j, hj, rfl⟩ := List.getElem_of_mem hk
   have e : (zaa l i).f2 = l[i].f2 := by rw [rd38 l i hi]
   obtain ⟨g1, g2, g3, _⟩ := ho.2.2.2 j (by rw [e]; exact hj)
   rw [e, rdI _ j hj] at g1 g2 g3
   rw [rd38 l i hi] at g3
   exact ⟨g1, g2, g3⟩
  refine GAwake.zea (by rw [List.length_map]; exact hl) ?_ ?_ ?_
  ·refine zga (lt := mlt) (fun h1 h2 => zds h1 h2) fun i hi => ?_
   have hi' : i + 1 < l.length := by simpa [marks] using hi
   have h1 := (h (i + 1) (Nat.zero_le _) hi').2.2.1 (by omega)
   have ei : ((i + 1 : Nat) : Int) - 1 = (i : Int) := by omega
   rw [ei, rd38 l i (by omega), rd38 l (i + 1) hi'] at h1
   simp only [marks, List.getElem_map, mlt, mrk, ndT]
   exact h1
  ·intro x hx'
   obtain ⟨i, hi, rfl, ho⟩ := hx x hx'
   have e := rd38 l i hi
   obtain ⟨o1, o2, _, o4⟩ := id ho
   rw [e] at o1 o2 o4
   refine ⟨o1.1, o1.2, o2.1, o2.2, ?_, fun k hk' => ?_⟩
   ·refine zga (lt := fun a b : Int => a < b) (fun h1 h2 => Int.lt_trans h1 h2) fun j hj => ?_
    have hj : j + 1 < l[i].f2.length := hj
    have := (o4 (j + 1) hj).2.2.2 (by omega)
    have ej : ((j + 1 : Nat) : Int) - 1 = (j : Int) := by omega
    rw [ej, rdI _ j (by omega), rdI _ (j + 1) hj] at this
    exact this
   ·obtain ⟨a, b, _⟩ := hk i hi ho k hk'
    exact ⟨a, by rw [List.length_map]; exact b⟩
  ·intro x hx' k hk'
   obtain ⟨i, hi, rfl, ho⟩ := hx x hx'
   obtain ⟨a, b, c⟩ := hk i hi ho k hk'
   have hkl : k.toNat < l.length := by omega
   have e : zaa l k = l[k.toNat] := by
    have := rd38 l k.toNat hkl
    rw [show ((k.toNat : Nat) : Int) = k by omega] at this
    exact this
   rw [e] at c
   simp only [List.getD_eq_getElem?_getD, List.getElem?_map, List.getElem?_eq_getElem hkl]
   exact c
 ·intro h q _ hq
  have e := rd38 l q hq
  have hm : ndT l[q] ∈ l.map ndT := List.mem_map.2 ⟨_, List.getElem_mem hq, rfl⟩
  have o := h.ok _ hm
  refine ⟨by rw [e]; exact ⟨o.s0, o.s1⟩, by rw [e]; exact ⟨o.a0, o.a1⟩, fun h0 => ?_, fun j hj => ?_⟩
  ·have hr := List.pairwise_iff_getElem.1 h.rise (q - 1) q (by simp [marks]; omega) (by simp [marks]; omega) (by omega)
   have eq : ((q : Int) - 1) = ((q - 1 : Nat) : Int) := by omega
   rw [eq, rd38 l (q - 1) (by omega), e]
   simp only [marks, List.getElem_map, mlt, mrk, ndT] at hr
   exact hr
  ·rw [e] at hj ⊢
   have hmj : l[q].f2[j] ∈ l[q].f2 := List.getElem_mem hj
   have hi := o.inn l[q].f2[j] hmj
   rw [List.length_map] at hi
   have hkl : l[q].f2[j].toNat < l.length := by omega
   have ej := rdI l[q].f2 j hj
   refine ⟨by rw [ej]; exact hi.1, by rw [ej]; exact hi.2, ?_, fun h0 => ?_⟩
   ·rw [ej]
    have e2 : zaa l l[q].f2[j] = l[l[q].f2[j].toNat] := by
     have := rd38 l l[q].f2[j].toNat hkl
     rw [show ((l[q].f2[j].toNat : Nat) : Int) = l[q].f2[j] by omega] at this
     exact this
    rw [e2]
    exact h.back (mrk (ndT l[q])) (mrk (ndT l[l[q].f2[j].toNat])) ⟨_, hm, rfl, l[q].f2[j], hmj, hi.1, by simp [marks, List.getElem?_eq_getElem hkl]⟩
   ·have eq : ((j : Int) - 1) = ((j - 1 : Nat) : Int) := by omega
    rw [eq, rdI _ (j - 1) (by omega), ej]
    exact List.pairwise_iff_getElem.1 o.up (j - 1) j (by show j - 1 < l[q].f2.length; omega) hj (by omega)
open Go.Proofs.ZZ.G16 in
theorem fit_Ev (l : List S38) (hl : l.length ≤ 4096) (hs : ∀ x ∈ l, x.f2.length ≤ 100000000000000) : ∃ b, Ev (fun k => zad.f k l) b ∧ (b = true ↔ FitG (l.map ndT)) := by
 obtain ⟨b, e, g⟩ := fit_l0 l hl hs l.length 0 (Nat.zero_add _)
 exact ⟨b, e, g.trans (nodes_fit hl)⟩
open Go.Proofs.ZZ.G16
abbrev Ls (g : List Nd) : List S38 := g.map ndS
theorem Ls_T (l : List S38) : Ls (l.map ndT) = l := by
 show (l.map ndT).map ndS = l
 rw [List.map_map]
 exact List.map_id' l
theorem T_Ls (g : List Nd) : (Ls g).map ndT = g := by
 show (g.map ndS).map ndT = g
 rw [List.map_map]
 exact List.map_id' g
theorem links_le {g : List Nd} (h : FitG g) {x : Nd} (hx : x ∈ g) : x.2.2.length ≤ g.length := by
 have o := h.ok x hx
 have := zcx x.2.2 ((List.range g.length).map Int.ofNat) (zd3 (lt := fun a b : Int => a < b) (fun a => Int.lt_irrefl a) o.up) fun k hk => by
  obtain ⟨a, b⟩ := o.inn k hk
  exact List.mem_map.2 ⟨k.toNat, List.mem_range.2 (by omega), by show ((k.toNat : Nat) : Int) = k; omega⟩
 simpa using this
theorem cnt_le {M : Nat} : ∀ {g : List Nd}, (∀ x ∈ g, x.2.2.length ≤ M) → GAdd.cntG g ≤ g.length * (M + 1)
 | [], _ => by simp [GAdd.cntG]
 | x :: t, h => by
  have h1 := cnt_le (g := t) fun y hy => h y (List.mem_cons_of_mem _ hy)
  have h2 := h x (by simp)
  simp only [GAdd.cntG, List.length_cons, Nat.add_mul]
  omega
theorem cnt_fit {g : List Nd} (h : FitG g) (hl : g.length ≤ 1000) : GAdd.cntG g ≤ 1001000 := by
 have h1 := cnt_le (M := 1000) (g := g) fun x hx => Nat.le_trans (links_le h hx) hl
 have h2 : g.length * 1001 ≤ 1000 * 1001 := Nat.mul_le_mul_right _ hl
 omega
theorem Ls_links {g : List Nd} (h : FitG g) : ∀ x ∈ Ls g, x.f2.length ≤ 100000000000000 := fun x hx => by
 obtain ⟨y, hy, rfl⟩ := List.mem_map.1 hx
 have h1 := links_le h hy
 have h2 := h.len
 show y.2.2.length ≤ _
 omega
theorem zd8 (g : List Nd) : (Ls g).length = g.length := List.length_map _
theorem fit_Ls {g : List Nd} (h : FitG g) : Ev (fun k => zad.f k (Ls g)) true := by
 obtain ⟨b, e, hb⟩ := fit_Ev (Ls g) (by rw [zd8]; exact h.len) (Ls_links h)
 rw [T_Ls] at hb
 rw [hb.2 h] at e
 exact e
theorem ok_len {s : S24} (h : ok24 s) : s.f0.length ≤ 10000000000000 := by
 have := h.1
 omega
theorem ok_links {s : S24} (h : ok24 s) : ∀ x ∈ s.f0, x.f2.length ≤ 100000000000000 := fun x hx => by
 have := (h.2 x hx).2.2.1
 omega
theorem evT {α β : Type} {g : Nat → Option Bool} {f h : Nat → Option β} {r : β} {b : Bool} (e : Ev g b) (k1 : b = true → Ev f r) (k2 : b = false → Ev h r) : Ev (fun n => (g n).bind fun t => if t = true then f n else h n) r := by
 refine Ev.bind e ?_
 cases hb : b with
 | true => exact k1 hb
 | false => exact k2 hb
theorem find_l0 (l : List S38) (hl : l.length ≤ 4096) (s a : Int) (d : Nat) : ∀ i : Nat, i + d = l.length → Ev (fun k => zan.l0 k s a i l) (GFind.zdn s a i ((l.map ndT).drop i)) := by
 induction d with
 | zero =>
  intro i hi
  rw [List.drop_of_length_le (by rw [List.length_map]; omega)]
  refine evAt fun k => ?_
  simp only [zan.l0]
  rw [if_neg (by omega)]
  rfl
 | succ d ih =>
  intro i hi
  have hil : i < l.length := by omega
  have e := rd38 l i hil
  rw [List.drop_eq_getElem_cons (by rw [List.length_map]; exact hil), List.getElem_map]
  unfold GFind.zdn
  have go : Ev (fun k => zan.l0 k s a (wrap64 ((i : Int) + 1)) l) (GFind.zdn s a (i + 1) ((l.map ndT).drop (i + 1))) := by
   rw [w64 (by omega) (by omega)]
   exact ih (i + 1) (by omega)
  by_cases h1 : l[i].f0 = s
  ·by_cases h2 : l[i].f1 = a
   ·rw [if_pos ⟨h1, h2⟩]
    refine evAt fun k => ?_
    simp only [zan.l0]
    rw [if_pos (by omega), if_pos (by omega), e, if_pos h1, if_pos h2]
   ·rw [if_neg (fun h => h2 h.2)]
    refine Ev.step (fun k => ?_) go
    simp only [zan.l0]
    rw [if_pos (by omega), if_pos (by omega), e, if_pos h1, if_neg h2]
  ·rw [if_neg (fun h => h1 h.1)]
   refine Ev.step (fun k => ?_) go
   simp only [zan.l0]
   rw [if_pos (by omega), if_pos (by omega), e, if_neg h1]
theorem find_Ev (l : List S38) (hl : l.length ≤ 4096) (s a : Int) : Ev (fun k => zan.f k l s a) (GFind.zb2 (l.map ndT) s a) := by
 have := find_l0 l hl s a l.length 0 (Nat.zero_add _)
 rw [List.drop_zero] at this
 exact this
theorem has_Ev (l : List Int) (x : Int) (hl : l.length ≤ 100000000000000) : Ev (fun k => zau.f k l x) (decide (x ∈ l)) := by
 have : ∀ d j : Nat, j + d = l.length → Ev (fun k => zau.l0 k x l (l.length : Int) (j : Int)) (decide (x ∈ l.drop j)) := by
  intro d
  induction d with
  | zero =>
   intro j hj
   rw [List.drop_of_length_le (by omega)]
   refine evAt fun k => ?_
   simp only [zau.l0]
   rw [if_neg (by omega)]
   simp
  | succ d ih =>
   intro j hj
   have hjl : j < l.length := by omega
   have e := rdI l j hjl
   rw [List.drop_eq_getElem_cons hjl]
   by_cases h : x = l[j]
   ·rw [decide_eq_true (by rw [h]; exact List.mem_cons_self)]
    refine evAt fun k => ?_
    simp only [zau.l0]
    rw [if_pos (by omega), if_pos (by omega), if_pos (by omega), e, if_pos h]
   ·have e2 : decide (x ∈ l[j] :: l.drop (j + 1)) = decide (x ∈ l.drop (j + 1)) := decide_eq_decide.2 (by rw [List.mem_cons]; exact ⟨fun h' => h'.resolve_left h, .inr⟩)
    rw [e2]
    refine Ev.step (fun k => ?_) (ih (j + 1) (by omega))
    simp only [zau.l0]
    rw [if_pos (by omega), if_pos (by omega), if_pos (by omega), e, if_neg h, w64 (x := (j : Int) + 1) (by omega) (by omega)]
    rfl
 have := this l.length 0 (Nat.zero_add _)
 rw [List.drop_zero] at this
 exact this
theorem Bk_up {g h : List Nd} (hg : FitG g) (hh : FitG h) (hm : ∀ m, m ∈ marks g → m ∈ marks h) (he : ∀ m m', G16.Edge g m m' → G16.Edge h m m') : ∀ (n : Nat) {a b : Int} {x y : Mk}, (marks g)[a.toNat]? = some x → (marks g)[b.toNat]? = some y → 0 ≤ a → 0 ≤ b → Bk g n a b → Bk h n (idx (marks h) x) (idx (marks h) y)
 | 0, a, b, x, y, hx, hy, _, _, hb => by
  have hb : a = b := hb
  subst hb
  rw [hx] at hy
  obtain rfl := Option.some.inj hy
  exact rfl
 | n + 1, a, b, x, y, hx, hy, ha, hb0, ⟨c, hc, hb⟩ => by
  obtain ⟨nd, hnd, rfl⟩ : ∃ nd, g[a.toNat]? = some nd ∧ mrk nd = x := by
   unfold marks at hx
   rw [List.getElem?_map] at hx
   exact Option.map_eq_some_iff.1 hx
  rw [GBack.zed hnd] at hc
  obtain ⟨c0, m', hm', hed⟩ := (hg.link hnd c).1 hc
  have hin := zdh (hm _ (List.mem_of_getElem? hx))
  obtain ⟨nd', hnd', hmk⟩ : ∃ nd', h[(idx (marks h) (mrk nd)).toNat]? = some nd' ∧ mrk nd' = mrk nd := by
   have h1 := hin.1
   conv at h1 => lhs; unfold marks
   rw [List.getElem?_map] at h1
   exact Option.map_eq_some_iff.1 h1
  have hin' := zdh (hm _ (List.mem_of_getElem? hm'))
  refine ⟨idx (marks h) m', ?_, Bk_up hg hh hm he n hm' hy c0 hb0 hb⟩
  rw [GBack.zed hnd']
  refine (hh.link hnd' _).2 ⟨hin'.2.1, m', hin'.1, ?_⟩
  rw [hmk]
  exact he _ _ hed
theorem gpush_ok {g : List Nd} (hg : FitG g) (hl : g.length ≤ 120) (f s a : Int) : FitG (GPush.za6 g f s a).1 ∧ (GPush.za6 g f s a).1.length ≤ 121 ∧ (∀ m, m ∈ marks g → m ∈ marks (GPush.za6 g f s a).1) ∧ ∀ m m', G16.Edge g m m' → G16.Edge (GPush.za6 g f s a).1 m m' := by
 have same : FitG g ∧ g.length ≤ 121 ∧ (∀ m, m ∈ marks g → m ∈ marks g) ∧ ∀ m m', G16.Edge g m m' → G16.Edge g m m' := ⟨hg, by omega, fun _ h => h, fun _ _ h => h⟩
 unfold GPush.za6
 split
 case isFalse => exact same
 rename_i hf
 dsimp only
 split
 case isFalse => exact same
 rename_i hc
 split
 case isTrue => exact same
 split
 case isTrue => exact same
 have hlt : f.toNat < g.length := by omega
 have e : g.getD f.toNat (0, 0, []) = g[f.toNat] := by rw [List.getD_eq_getElem?_getD, List.getElem?_eq_getElem hlt]; rfl
 rw [e] at hc ⊢
 have sy := pushP_says hg (b := mrk g[f.toNat]) (m := (a, s)) (List.mem_map.2 ⟨_, List.getElem_mem hlt, rfl⟩) hc.1 ⟨hc.2.2.1, hc.2.2.2, hc.2.1.1, hc.2.1.2⟩ (.inr (by omega))
 refine ⟨sy.fit, ?_, fun m h => (sy.mem m).2 (.inr h), fun m m' h => (sy.ed m m').2 (.inl h)⟩
 have := zgo sy ((a, s) :: marks g) (fun m hm => List.mem_cons.2 hm)
 rw [List.length_cons, zcf] at this
 exact Nat.le_trans this (by omega)
theorem l0_Ev (n node fr st at_ ec : Int) (R : List (List Int)) (B : List Int) (l : List S38) (hR : R.length ≤ 4000) (hB : B.length ≤ 100000000000000) (hrow : ∀ row ∈ R, (0 ≤ n ∧ n ≤ 64) ∧ (row.length : Int) = n + 1 ∧ rd row 0 = node ∧ rd row n ∈ B)
  (K : Ev (fun k => if ec = 0 then zab.l1 k node n fr st at_ R B B (B.length : Int) 0 l else zab.j4 k node n fr st at_ B l) true) (d : Nat) :
  ∀ j : Nat, j + d = R.length → Ev (fun k => zab.l0 k node n fr st at_ R ec B R (R.length : Int) (j : Int) l) true := by
 induction d with
 | zero =>
  intro j hj
  refine Ev.step (fun k => ?_) K
  simp only [zab.l0]
  rw [if_neg (by omega)]
 | succ d ih =>
  intro j hj
  have hjl : j < R.length := by omega
  have e : za0 R (j : Int) = R[j] := by
   show R.getD ((j : Int)).toNat [] = _
   rw [Int.toNat_natCast, List.getD_eq_getElem?_getD, List.getElem?_eq_getElem hjl]
   rfl
  obtain ⟨⟨n0, n1⟩, h1, h2, h3⟩ := hrow R[j] (List.getElem_mem hjl)
  refine Ev.step (f := fun k => (zau.f k B (rd R[j] n)).bind fun t => if t = true then zab.l0 k node n fr st at_ R ec B R (R.length : Int) ((j + 1 : Nat) : Int) l else some false) (fun k => ?_) ?_
  ·simp only [zab.l0]
   rw [if_pos (by omega), if_pos (by omega), if_pos (by omega), e, w64 (x := n + 1) (by omega) (by omega), if_pos h1, if_pos (by omega), if_pos h2, if_pos n0, if_pos (by omega), w64 (x := (j : Int) + 1) (by omega) (by omega)]
   rfl
  ·refine evT (α := Bool) (has_Ev B _ hB) (fun _ => ih (j + 1) (by omega)) (fun h => ?_)
   rw [decide_eq_true h3] at h
   cases h
theorem l2_Ev (n node fr st at_ x : Int) (R : List (List Int)) (B : List Int) (q : Nat) (l : List S38) (hR : R.length ≤ 4000) (hrow : ∀ row ∈ R, 0 ≤ n ∧ n < (row.length : Int))
  (K : Ev (fun k => zab.l1 k node n fr st at_ R B B (B.length : Int) (wrap64 ((q : Int) + 1)) l) true) (d : Nat) :
  ∀ (j : Nat) (f : Bool), j + d = R.length → (f = true ∨ ∃ row ∈ R.drop j, rd row n = x) → Ev (fun k => zab.l2 k node n fr st at_ R B x f B (B.length : Int) (q : Int) R (R.length : Int) (j : Int) l) true := by
 induction d with
 | zero =>
  intro j f hj hf
  have hf : f = true := by
   rcases hf with h | ⟨row, h, _⟩
   ·exact h
   ·rw [List.drop_of_length_le (by omega)] at h; cases h
  refine Ev.step (fun k => ?_) K
  simp only [zab.l2]
  rw [if_neg (by omega), if_pos hf]
 | succ d ih =>
  intro j f hj hf
  have hjl : j < R.length := by omega
  have e : za0 R (j : Int) = R[j] := by
   show R.getD ((j : Int)).toNat [] = _
   rw [Int.toNat_natCast, List.getD_eq_getElem?_getD, List.getElem?_eq_getElem hjl]
   rfl
  obtain ⟨n0, n1⟩ := hrow R[j] (List.getElem_mem hjl)
  cases hft : f with
  | true =>
   refine Ev.step (fun k => ?_) (ih (j + 1) true (by omega) (.inl rfl))
   simp only [zab.l2]
   rw [if_pos (by omega), if_pos (by omega), if_pos (by omega), if_pos trivial, w64 (x := (j : Int) + 1) (by omega) (by omega)]
   rfl
  | false =>
   refine Ev.step (fun k => ?_) (ih (j + 1) (rd R[j] n == x) (by omega) ?_)
   ·simp only [zab.l2]
    rw [if_pos (by omega), if_pos (by omega), if_pos (by omega), if_neg (by decide), if_pos n0, e, if_pos n1, w64 (x := (j : Int) + 1) (by omega) (by omega)]
    rfl
   ·rcases hf with h | ⟨row, h, hr⟩
    ·rw [hft] at h; cases h
    ·rw [List.drop_eq_getElem_cons hjl] at h
     rcases List.mem_cons.1 h with rfl | h
     ·exact .inl (by rw [hr]; exact beq_self_eq_true x)
     ·exact .inr ⟨row, h, hr⟩
theorem l1_Ev (n node fr st at_ : Int) (R : List (List Int)) (B : List Int) (l : List S38) (hR : R.length ≤ 4000) (hB : B.length ≤ 100000000000000) (hrow : ∀ row ∈ R, 0 ≤ n ∧ n < (row.length : Int)) (hall : ∀ x ∈ B, ∃ row ∈ R, rd row n = x)
  (K : Ev (fun k => zab.j4 k node n fr st at_ B l) true) (d : Nat) :
  ∀ q : Nat, q + d = B.length → Ev (fun k => zab.l1 k node n fr st at_ R B B (B.length : Int) (q : Int) l) true := by
 induction d with
 | zero =>
  intro q hq
  refine Ev.step (fun k => ?_) K
  simp only [zab.l1]
  rw [if_neg (by omega)]
 | succ d ih =>
  intro q hq
  have hql : q < B.length := by omega
  have e := rdI B q hql
  have nx := ih (q + 1) (by omega)
  refine Ev.step (fun k => ?_) (l2_Ev n node fr st at_ B[q] R B q l hR hrow (by rw [w64 (by omega) (by omega)]; exact nx) R.length 0 false (Nat.zero_add _) (.inr (by rw [List.drop_zero]; exact hall _ (List.getElem_mem hql))))
  simp only [zab.l1]
  rw [if_pos (by omega), if_pos (by omega), if_pos (by omega), e]
  rfl
theorem zf1 : Ev (fun _ : Nat => (zax.f).bind fun t => some t) true := Ev.now true
theorem l3_Ev (M B : List Int) (l h : List S38) (hl : l.length ≤ 4096) (hh : h.length ≤ 4096) (hM : M.length ≤ 100000000000000) (hB : B.length ≤ 100000000000000) (hin : ∀ x ∈ B, (0 ≤ x ∧ x < (l.length : Int)) ∧ GFind.zb2 (h.map ndT) (zaa l x).f0 (zaa l x).f1 ∈ M) (d : Nat) :
  ∀ q : Nat, q + d = B.length → Ev (fun k => zab.l3 k M B (B.length : Int) (q : Int) l h) true := by
 induction d with
 | zero =>
  intro q hq
  refine Ev.step (fun k => ?_) zf1
  simp only [zab.l3]
  rw [if_neg (by omega)]
 | succ d ih =>
  intro q hq
  have hql : q < B.length := by omega
  have e := rdI B q hql
  obtain ⟨⟨x0, x1⟩, hx⟩ := hin B[q] (List.getElem_mem hql)
  refine Ev.step (f := fun k => (zan.f k h (zaa l B[q]).f0 (zaa l B[q]).f1).bind fun t => (zau.f k M t).bind fun u => if u = true then zab.l3 k M B (B.length : Int) ((q + 1 : Nat) : Int) l h else some false) (fun k => ?_) ?_
  ·simp only [zab.l3]
   rw [if_pos (by omega), if_pos (by omega), if_pos (by omega), e, if_pos x0, if_pos x1, w64 (x := (q : Int) + 1) (by omega) (by omega)]
   rfl
  ·refine Ev.bind (find_Ev h hh _ _) ?_
   refine evT (α := Bool) (has_Ev M _ hM) (fun _ => ih (q + 1) (by omega)) (fun hf => ?_)
   rw [decide_eq_true hx] at hf
   cases hf
theorem node_mark {g : List Nd} {k : Int} (h0 : 0 ≤ k) (h1 : k < (g.length : Int)) : (marks g)[k.toNat]? = some (mrk (g[k.toNat]'(by omega))) := by
 unfold marks
 rw [List.getElem?_map, List.getElem?_eq_getElem (by omega)]
 rfl
theorem rdk {l : List S38} {k : Int} (h0 : 0 ≤ k) (h1 : k < (l.length : Int)) : zaa l k = l[k.toNat]'(by omega) := by
 have := rd38 l k.toNat (by omega)
 rw [show ((k.toNat : Nat) : Int) = k by omega] at this
 exact this
theorem push_eq {g : List Nd} (hg : FitG g) (hl : g.length ≤ 1000) (f s a : Int) : zdc.f (Ls g) f s a = some (Ls (GPush.za6 g f s a).1, (GPush.za6 g f s a).2.1, (GPush.za6 g f s a).2.2) := by
 unfold zdc.f
 rw [T_Ls, if_pos ⟨GGiv.zf3 hg, by have := cnt_fit hg hl; omega⟩]
theorem backV_mem {g : List Nd} {node n k : Int} (h : k ∈ GBack.zb4 g node n) : (0 ≤ node ∧ node < (g.length : Int) ∧ 0 ≤ n ∧ n ≤ 64) ∧ Bk g n.toNat node k := by
 unfold GBack.zb4 at h
 split at h
 ·rename_i hc
  exact ⟨hc, (GBack.zcp _ _).1 h⟩
 ·cases h
theorem ze7 {g : List Nd} (hg : FitG g) (node n : Int) : (GBack.zb4 g node n).length ≤ 4096 := by
 unfold GBack.zb4
 split
 ·rename_i hc
  exact GBack.backN_len hg hc.1 hc.2.1 _
 ·exact Nat.zero_le _
theorem paths_mem {g : List Nd} {node n : Int} {row : List Int} (h : row ∈ GPaths.zb9 g node n) : (0 ≤ node ∧ node < (g.length : Int) ∧ 0 ≤ n ∧ n ≤ 64) ∧ (row.length : Int) = n + 1 ∧ rd row 0 = node ∧ rd row n ∈ GBack.zb4 g node n := by
 unfold GPaths.zb9 at h
 split at h
 case isFalse => cases h
 rename_i hc
 obtain ⟨tl, rfl, hl, hb⟩ := zfi g n.toNat [] node row h
 refine ⟨hc, by rw [List.nil_append, List.length_cons, hl]; omega, rfl, ?_⟩
 unfold GBack.zb4
 rw [if_pos hc, GBack.zcp]
 have e : rd (node :: tl) n = ((node :: tl).getLast?).getD 0 := by
  show (node :: tl).getD n.toNat 0 = _
  rw [List.getD_eq_getElem?_getD, List.getLast?_eq_getElem?, List.length_cons, hl, Nat.add_sub_cancel]
 rw [List.nil_append, e]
 exact hb
theorem paths_all {g : List Nd} {node n k : Int} (h : k ∈ GBack.zb4 g node n) : ∃ row ∈ GPaths.zb9 g node n, rd row n = k := by
 obtain ⟨hc, hb⟩ := backV_mem h
 obtain ⟨tl, h1, h2⟩ := walkR_all g n.toNat [] node k hb
 rw [List.nil_append, List.nil_append] at h1
 obtain ⟨tl', he, hl, _⟩ := zfi g n.toNat [] node _ h1
 rw [List.nil_append] at he
 injection he with _ he
 subst he
 refine ⟨node :: tl, by unfold GPaths.zb9; rw [if_pos hc]; exact h1, ?_⟩
 show (node :: tl).getD n.toNat 0 = k
 rw [List.getD_eq_getElem?_getD, ← h2, List.getLast?_eq_getElem?, List.length_cons, hl, Nat.add_sub_cancel]
theorem back_eq {g : List Nd} (hg : FitG g) (node n : Int) : zb5.f (Ls g) node n = some (GBack.zb4 g node n) := by
 unfold zb5.f
 rw [T_Ls, if_pos (GGiv.zf3 hg)]
theorem paths_eq {g : List Nd} (hg : FitG g) (node n : Int) : zct.f (Ls g) node n = some (GGivK.zes g node n) := by
 unfold zct.f
 rw [T_Ls, if_pos (GGiv.zf3 hg)]
theorem j5t_Ev {h : List Nd} (hh : FitG h) (node n : Int) (B : List Int) (l : List S38) : Ev (fun k => zab.j5 k node n B true l (Ls h)) true := by
 refine Ev.step (f := fun k => (zad.f k (Ls h)).bind fun t => if t = true then (zax.f).bind fun t => some t else some false) (fun k => ?_) (evT (α := Bool) (fit_Ls hh) (fun _ => zf1) (fun h => nomatch h))
 simp only [zab.j5]
 rw [if_pos trivial]
theorem j4_Ev {g : List Nd} (hg : FitG g) (hl : g.length ≤ 120) (node n fr st at_ : Int) : Ev (fun k => zab.j4 k node n fr st at_ (GBack.zb4 g node n) (Ls g)) true := by
 obtain ⟨hh, hhl, hm, he⟩ := gpush_ok hg hl fr st at_
 obtain ⟨h, hhd⟩ : ∃ h, h = (GPush.za6 g fr st at_).1 := ⟨_, rfl⟩
 rw [← hhd] at hh hhl hm he
 refine Ev.step (f := fun k => (zad.f k (Ls h)).bind fun t => if t = true then (if node < 0 then zab.j5 k node n (GBack.zb4 g node n) true (Ls g) (Ls h) else zab.j5 k node n (GBack.zb4 g node n) (decide (node ≥ ((Ls g).length : Int))) (Ls g) (Ls h)) else zab.j5 k node n (GBack.zb4 g node n) true (Ls g) (Ls h)) (fun k => ?_) ?_
 ·simp only [zab.j4]
  rw [push_eq hg (by omega), Option.bind_some, ← hhd]
 refine evT (α := Bool) (fit_Ls hh) (fun _ => ?_) (fun h => nomatch h)
 by_cases n0 : node < 0
 ·refine Ev.congr (fun k => if_pos n0) (j5t_Ev hh node n _ _)
 refine Ev.congr (fun k => if_neg n0) ?_
 rw [zd8]
 by_cases n1 : node ≥ (g.length : Int)
 ·rw [decide_eq_true n1]
  exact j5t_Ev hh node n _ _
 rw [decide_eq_false n1]
 have n2 : 0 ≤ node := by omega
 have n3 : node < (g.length : Int) := by omega
 have n4 : node < ((Ls g).length : Int) := by rw [zd8]; exact n3
 have hx := node_mark n2 n3
 have hd : zaa (Ls g) node = ndS (g[node.toNat]'(by omega)) := by
  rw [rdk n2 n4, List.getElem_map]
 obtain ⟨x, hxd⟩ : ∃ x, x = g[node.toNat]'(by omega) := ⟨_, rfl⟩
 rw [← hxd] at hx hd
 have hxm : mrk x ∈ marks h := hm _ (List.mem_of_getElem? hx)
 have hfx : GFind.zb2 h x.1 x.2.1 = idx (marks h) (mrk x) := by rw [GFind.zei]; exact if_pos hxm
 have hix := zdh hxm
 rw [zcf] at hix
 refine Ev.step (f := fun k => (zan.f k (Ls h) x.1 x.2.1).bind fun t => (zb5.f (Ls h) t n).bind fun u => zab.l3 k u (GBack.zb4 g node n) ((GBack.zb4 g node n).length : Int) 0 (Ls g) (Ls h)) (fun k => ?_) ?_
 ·simp only [zab.j5]
  rw [if_neg (by decide), if_pos n2, if_pos n4, hd]
  rfl
 refine Ev.bind (find_Ev (Ls h) (by rw [zd8]; omega) _ _) ?_
 rw [T_Ls, hfx]
 refine Ev.congr (fun k => by rw [back_eq hh, Option.bind_some]) ?_
 refine l3_Ev _ _ (Ls g) (Ls h) (by rw [zd8]; omega) (by rw [zd8]; omega) (by have := ze7 hh (idx (marks h) (mrk x)) n; omega) (by have := ze7 hg node n; omega) (fun k hk => ?_) _ 0 (Nat.zero_add _)
 obtain ⟨hc, hb⟩ := backV_mem hk
 have hkr := (GBack.zdl hg n2 n3 n.toNat).2 k ((GBack.zcp _ _).2 hb)
 have hk2 : k < ((Ls g).length : Int) := by rw [zd8]; exact hkr.2
 refine ⟨⟨hkr.1, hk2⟩, ?_⟩
 have hy := node_mark hkr.1 hkr.2
 have hym := hm _ (List.mem_of_getElem? hy)
 rw [rdk hkr.1 hk2, List.getElem_map, T_Ls]
 have hfy : GFind.zb2 h (ndS (g[k.toNat]'(by omega))).f0 (ndS (g[k.toNat]'(by omega))).f1 = idx (marks h) (mrk (g[k.toNat]'(by omega))) := by rw [GFind.zei]; exact if_pos hym
 rw [hfy]
 unfold GBack.zb4
 rw [if_pos ⟨hix.2.1, hix.2.2, hc.2.2.1, hc.2.2.2⟩, GBack.zcp]
 exact Bk_up hg hh hm he n.toNat hx hy n2 hkr.1 hb
theorem keeps_Ev {g : List Nd} (hg : FitG g) (hl : g.length ≤ 120) (node n fr st at_ : Int) : Ev (fun k => zab.j0 k node n fr st at_ false (Ls g)) true := by
 obtain ⟨R, ec, hP⟩ : ∃ R ec, GGivK.zes g node n = (R, ec) := ⟨_, _, rfl⟩
 have hcase : ec = 0 ∧ R = GPaths.zb9 g node n ∧ R.length ≤ 4000 ∨ ec = 15 ∧ R = [] := by
  unfold GGivK.zes at hP
  split at hP
  ·injection hP with h1 h2
   exact .inl ⟨h2.symm, h1.symm, by rw [← h1]; assumption⟩
  ·injection hP with h1 h2
   exact .inr ⟨h2.symm, h1.symm⟩
 have hB := ze7 hg node n
 refine Ev.step (f := fun k => zab.l0 k node n fr st at_ R ec (GBack.zb4 g node n) R (R.length : Int) 0 (Ls g)) (fun k => ?_) ?_
 ·simp only [zab.j0]
  rw [if_neg (by decide), paths_eq hg, Option.bind_some, back_eq hg, Option.bind_some, hP]
 rcases hcase with ⟨rfl, rfl, h4⟩ | ⟨rfl, rfl⟩
 ·refine l0_Ev n node fr st at_ 0 _ _ (Ls g) h4 (by omega) (fun row hr => ?_) ?_ _ 0 (Nat.zero_add _)
  ·obtain ⟨hc, h1, h2, h3⟩ := paths_mem hr
   exact ⟨hc.2.2, h1, h2, h3⟩
  ·refine Ev.congr (fun k => if_pos rfl) ?_
   refine l1_Ev n node fr st at_ _ _ (Ls g) h4 (by omega) (fun row hr => ?_) (fun x hx => paths_all hx) (j4_Ev hg hl node n fr st at_) _ 0 (Nat.zero_add _)
   obtain ⟨hc, h1, _⟩ := paths_mem hr
   omega
 ·refine l0_Ev n node fr st at_ 15 [] _ (Ls g) (by decide) (by omega) (fun row hr => nomatch hr) ?_ _ 0 (Nat.zero_add _)
  exact Ev.congr (fun k => if_neg (by decide)) (j4_Ev hg hl node n fr st at_)
theorem GssKeeps : zab.Pure := by
 intro s0 a1 a2 a3 a4 a5 o0 _ _ _ _ _
 obtain ⟨b0, e0, g0⟩ := few_Ev s0.f0 (ok_len o0) (ok_links o0)
 have z : Ev (fun k => zab.j0 k a1 a2 a3 a4 a5 true s0.f0) true := Ev.step (f := fun _ => (zax.f).bind fun t => some t) (fun k => by
  simp only [zab.j0]
  rw [if_pos trivial]) zf1
 refine Ev.rounds (evT (α := Bool) e0 (fun h0 => ?_) fun _ => z)
 have l0 := (g0 h0).2
 obtain ⟨c0, f0, k0⟩ := fit_Ev s0.f0 (by omega) (ok_links o0)
 refine Ev.bind f0 ?_
 cases hc : c0 with
 | false => exact z
 | true =>
  have := keeps_Ev (k0.1 hc) (by rw [List.length_map]; exact l0) a1 a2 a3 a4 a5
  rw [Ls_T] at this
  exact this
end Go.Proofs.ZZ.Pure
end
section
namespace Go.Proofs.ZZ.Opening
open Go.RowKit Go.Proofs.ZW.PrintWords
section
variable {H : Type} {enc : TypeId × Value → H} {P : Program} {W : World}
def Op {α : Type} (enc : TypeId × Value → H) (P : Program) (W : World) (n : Nat) (t : TypeId) (d : Kd α) (B : α → Prop) : Prop :=
 ∀ fuel, fuel ≤ n → ∀ cs y, DataW.trod enc P W 0 (fun _ => true) true fuel t cs = some y → (DataW.weights P t y.1).all (· ≤ reachBytes) = true → ∃ x, d.K W x cs ∧ B x
theorem Op.mono {α : Type} {n m : Nat} {t : TypeId} {d : Kd α} {B : α → Prop} (h : Op enc P W n t d B) (hm : m ≤ n) : Op enc P W m t d B :=
 fun fuel hf => h fuel (Nat.le_trans hf hm)
theorem op_int {n : Nat} {t : TypeId} {k : IntKind} (hu : P.underlying t = some (.int k)) : Op enc P W n t (Kd.int k) (fun x => (Lit.int k x).wf = true) := by
 intro fuel _ cs y hy _
 obtain ⟨m, rfl, _, hw⟩ := DataW.trod_int hu hy
 exact ⟨m, rfl, hw⟩
theorem zf0 {e : TypeId} : ∀ {ds : List (DataW H)}, (DataW.weightsAll P e ds).all (· ≤ reachBytes) = true → ∀ d ∈ ds, (DataW.weights P e d).all (· ≤ reachBytes) = true
 | [], _, d, hd => by cases hd
 | x :: r, h, d, hd => by
  rw [DataW.weightsAll, List.all_append, Bool.and_eq_true] at h
  rcases List.mem_cons.1 hd with rfl | hd
  ·exact h.1
  ·exact zf0 h.2 d hd
theorem zfr {α : Type} {Q : Nat → α → Prop} : ∀ n : Nat, (∀ i, i < n → ∃ x, Q i x) → ∃ xs : List α, xs.length = n ∧ ∀ i x, xs[i]? = some x → Q i x
 | 0, _ => ⟨[], rfl, by simp⟩
 | n + 1, h => by
  obtain ⟨xs, hl, hq⟩ := zfr n (fun i hi => h i (by omega))
  obtain ⟨x, hx⟩ := h n (by omega)
  refine ⟨xs ++ [x], by simp [hl], fun i y hy => ?_⟩
  by_cases hi : i < n
  ·rw [List.getElem?_append_left (by omega)] at hy
   exact hq i y hy
  ·rw [List.getElem?_append_right (by omega)] at hy
   have : i - xs.length = 0 := by
    by_cases h0 : i - xs.length = 0
    ·exact h0
    ·rw [List.getElem?_eq_none (by simp; omega)] at hy
     cases hy
   rw [this] at hy
   obtain rfl : x = y := by simpa using hy
   obtain rfl : i = n := by omega
   exact hx
theorem op_slice {α : Type} {n : Nat} {t e e' b : TypeId} {d : Kd α} {B : α → Prop} (hu : P.underlying t = some (.slice e)) (hc : P.cellsOf e = d.sz) (hb : P.bytesOf e = b) (h : Op enc P W n e d B) :
  Op enc P W (n + 1) t (Kd.slice e' d) (fun xs => xs.length * b ≤ 140737488351232 ∧ ∀ x ∈ xs, B x) := by
 intro fuel hf cs y hy hw
 rcases DataW.trod_slice hu hy with ⟨rfl, rfl⟩ | ⟨a, len, cap, elems, rest, m, rfl, rfl, rfl, _, hlc, hcap, hel, hget, _, _⟩
 ·exact ⟨[], ⟨none, 0, rfl, Nat.le_refl _, rfl, by simp, fun h0 => absurd h0 (by simp)⟩, by simp⟩
 ·rw [DataW.weights, hu] at hw
  simp only [List.all_cons, List.all_append, Bool.and_eq_true, decide_eq_true_eq, List.length_map] at hw
  obtain ⟨hw0, hw1, _⟩ := hw
  have hall := zf0 hw1
  have key : ∀ i, i < len → ∃ x : α, (∃ c, c.length = d.sz ∧ d.K W x c ∧ ∀ j u, c[j]? = some u → W.cell? (a.add (i * d.sz + j)) = some u) ∧ B x := by
   intro i hi
   have hg := hget i hi
   rw [List.getElem?_eq_getElem (by omega)] at hg
   obtain ⟨c, hc1, hc2⟩ := Option.bind_eq_some_iff.1 hg
   obtain ⟨_, hl, hcell⟩ := World.cells?_some hc1
   obtain ⟨x, hx, hB⟩ := h m (by omega) c _ hc2 (hall _ (List.mem_map.2 ⟨_, List.getElem_mem _, rfl⟩))
   refine ⟨x, ⟨c, by rw [hl, hc], hx, fun j u hu' => ?_⟩, hB⟩
   have hj : j < P.cellsOf e := by
    have := (List.getElem?_eq_some_iff.1 hu').1
    omega
   have := hcell j hj
   rw [Addr.add_add, hc] at this
   rw [this, hu']
  obtain ⟨xs, hl, hxs⟩ := zfr len key
  refine ⟨xs, ⟨some a, cap, by rw [hl], by omega, rfl, ?_, fun _ => ⟨a, rfl, fun j p hj => (hxs j p hj).1⟩⟩, ?_, ?_⟩
  ·have : maxLen = 9223372036854775807 := rfl
   omega
  ·rw [hb] at hw0
   have e1 : reachBytes = 140737488351232 := rfl
   have : xs.length * b ≤ (elems.length + rest.length) * b := Nat.mul_le_mul_right _ (by omega)
   omega
  ·intro x hx
   obtain ⟨i, hi, rfl⟩ := List.mem_iff_getElem.1 hx
   exact (hxs i _ (List.getElem?_eq_getElem hi)).2
def OpFs {α : Type} (enc : TypeId × Value → H) (P : Program) (W : World) (n : Nat) (fs : List Field) (off : Nat) (d : Kd α) (B : α → Prop) : Prop :=
 ∀ fuel, fuel ≤ n → ∀ (cs : List Value) (ys : List (DataW H × List MemPlace)), ys.length = fs.length → (∀ (i : Nat) (f : Field), fs[i]? = some f → DataW.trod enc P W 0 (fun _ => true) true fuel f.type ((cs.drop f.offset).take (P.cellsOf f.type)) = ys[i]?) →
  cs.length = off + d.sz → (DataW.weightsEach P (fs.map (·.type)) (ys.map (·.1))).all (· ≤ reachBytes) = true → ∃ x, d.K W x (cs.drop off) ∧ B x
theorem opf_last {α : Type} {n off : Nat} {f : Field} {d : Kd α} {B : α → Prop} (ho : f.offset = off) (hc : P.cellsOf f.type = d.sz) (h : Op enc P W n f.type d B) : OpFs enc P W n [f] off d B := by
 intro fuel hf cs ys hl hget hlen hw
 match ys, hl with
 | [y], _ =>
  have hg := hget 0 f rfl
  simp only [List.map_cons, List.map_nil, DataW.weightsEach, List.append_nil] at hw
  rw [ho, hc, List.take_of_length_le (by rw [List.length_drop]; omega)] at hg
  exact h fuel hf _ y hg hw
theorem opf_cons {α β : Type} {n off : Nat} {f : Field} {fs : List Field} {a : Kd α} {b : Kd β} {Ba : α → Prop} {Bb : β → Prop} (ho : f.offset = off) (hc : P.cellsOf f.type = a.sz) (h : Op enc P W n f.type a Ba) (hr : OpFs enc P W n fs (off + a.sz) b Bb) :
  OpFs enc P W n (f :: fs) off (Kd.pair a b) (fun x => Ba x.1 ∧ Bb x.2) := by
 intro fuel hf cs ys hl hget hlen hw
 have hlen' : cs.length = off + (a.sz + b.sz) := hlen
 match ys, hl with
 | y :: ys, hl =>
  have hg := hget 0 f rfl
  simp only [List.map_cons, DataW.weightsEach, List.all_append, Bool.and_eq_true] at hw
  rw [ho, hc] at hg
  obtain ⟨x, hx, hB⟩ := h fuel hf _ y hg hw.1
  obtain ⟨z, hz, hB'⟩ := hr fuel hf cs ys (by simpa using hl) (fun i g hi => hget (i + 1) g hi) (by omega) hw.2
  refine ⟨(x, z), ⟨_, _, ?_, hx, hz⟩, hB, hB'⟩
  have e : cs.drop (off + a.sz) = (cs.drop off).drop a.sz := by simp [List.drop_drop, Nat.add_comm]
  rw [e, List.take_append_drop]
theorem op_struct {α β : Type} {n : Nat} {t : TypeId} {fs : Array Field} {d : Kd α} {B : α → Prop} {f : β → α} (g : α → β) (hfg : ∀ x, f (g x) = x) (hu : P.underlying t = some (.struct fs)) (hc : P.cellsOf t = d.sz) (h : OpFs enc P W n fs.toList 0 d B) :
  Op enc P W (n + 1) t (Kd.iso d f) (fun s => B (f s)) := by
 intro fuel hf cs y hy hw
 obtain ⟨xs, m, rfl, rfl, hl, hlen, hget⟩ := DataW.trod_struct hu hy
 rw [DataW.weights, hu] at hw
 obtain ⟨x, hx, hB⟩ := h m (by omega) cs xs (by simpa using hlen) (fun i f hi => hget i f (by simpa using hi)) (by omega) hw
 refine ⟨g x, ?_, by show B (f (g x)); rw [hfg]; exact hB⟩
 show d.K W (f (g x)) cs
 rw [hfg]
 exact hx
theorem ops_slice {α : Type} {t e e' b : TypeId} {d : Kd α} {B : α → Prop} (hu : P.underlying t = some (.slice e)) (hc : P.cellsOf e = d.sz) (hb : P.bytesOf e = b) (h : ∀ n, Op enc P W n e d B) :
  ∀ n, Op enc P W n t (Kd.slice e' d) (fun xs => xs.length * b ≤ 140737488351232 ∧ ∀ x ∈ xs, B x) := fun n => (op_slice hu hc hb (h n)).mono (Nat.le_succ n)
theorem zgi {α β : Type} {t : TypeId} {fs : Array Field} {d : Kd α} {B : α → Prop} {f : β → α} (g : α → β) (hfg : ∀ x, f (g x) = x) (hu : P.underlying t = some (.struct fs)) (hc : P.cellsOf t = d.sz) (h : ∀ n, OpFs enc P W n fs.toList 0 d B) :
  ∀ n, Op enc P W n t (Kd.iso d f) (fun s => B (f s)) := fun n => (op_struct g hfg hu hc (h n)).mono (Nat.le_succ n)
theorem opsf_last {α : Type} {off : Nat} {f : Field} {d : Kd α} {B : α → Prop} (ho : f.offset = off) (hc : P.cellsOf f.type = d.sz) (h : ∀ n, Op enc P W n f.type d B) : ∀ n, OpFs enc P W n [f] off d B := fun n => opf_last ho hc (h n)
theorem opsf_cons {α β : Type} {off : Nat} {f : Field} {fs : List Field} {a : Kd α} {b : Kd β} {Ba : α → Prop} {Bb : β → Prop} (ho : f.offset = off) (hc : P.cellsOf f.type = a.sz) (h : ∀ n, Op enc P W n f.type a Ba) (hr : ∀ n, OpFs enc P W n fs (off + a.sz) b Bb) :
  ∀ n, OpFs enc P W n (f :: fs) off (Kd.pair a b) (fun x => Ba x.1 ∧ Bb x.2) := fun n => opf_cons ho hc (h n) (hr n)
theorem op_arg {α : Type} {t : TypeId} {d : Kd α} {B : α → Prop} (h : ∀ n, Op enc P W n t d B) {v : Value} {y : DataW H} {ps : List MemPlace} (ht : DataW.Trod enc P W 0 (fun _ => true) true t v y ps) {ts : List TypeId} {ds : List (DataW H)} {j : Nat}
  (hsz : (DataW.weightsEach P ts ds).all (· ≤ reachBytes) = true) (hj : ts[j]? = some t) (hd : ds[j]? = some y) : ∃ x, d.K W x v.cells.toList ∧ B x := by
 obtain ⟨fuel, hf⟩ := ht
 refine h fuel fuel (Nat.le_refl _) _ _ hf ?_
 rw [List.all_eq_true] at hsz ⊢
 intro n hn
 exact hsz n (DataW.weights_mem_each hj hd n hn)
end
end Go.Proofs.ZZ.Opening
end
section
namespace Go.Proofs.Ytkfjhkkbbcpjjaa.gssKeeps
open Go.ChangeShapes Go.WideShapes Go.ChangeAt Go.RowKit Go.Proofs.ZW.PrintWords Go.Proofs.ZZ.Opening Go.Proofs.ZZ.PGssKeeps
open Go.ChangeMaps (open_string shut_string)
theorem own : ownKnob Try.prog.godebug = none := by kernel_rfl
theorem laidOut : laidOutB Try.prog = true := by kernel_rfl
theorem lifted (os : Os) (started : os.Started) (H : Type) (enc : TypeId × Value → H) :
  ReturnsInHanded {} Try.checked os 3 .any (Rows.gssKeepsSpec.pre6 enc Try.prog Try.f3 Rows.gssKeepsRow.domain false) (Rows.gssKeepsSpec.post enc Try.prog Try.f3 false true false false) := by
 refine returnsInHanded_of_change_sized (C := Try.checked) own started (by kernel_rfl) Try.func3
  (ChangeSpec.witness6 (enc := enc) (C := Try.checked) false ⟨#[], #[.agg #[.slice none 0 0], .int .i64 0, .int .i64 0, .int .i64 0, .int .i64 0, .int .i64 0], []⟩ 8 (by kernel_rfl) (by kernel_rfl) (by kernel_rfl) (by kernel_rfl)) ?_
 intro W base args ds gs before hval0 hW hcnd hsz0 _
 have hsz : (DataW.weightsEach Try.prog (Try.f3.params.toList ++ Rows.gssKeepsSpec.plain.varTypes Try.prog) (ds ++ gs)).all (· ≤ reachBytes) = true := hsz0
 have hval : ∀ (j : Nat) t v, Try.f3.params[j]? = some t → args[j]? = some v → Value.okWide Try.prog W .any base t v := hval0
 have hW' := hW
 obtain ⟨p, q, hA0, hV, rfl, hfz, hnd⟩ := hW
 have hA : DataW.TrodAll enc Try.prog W 0 (fun _ => true) true Try.f3.params.toList args.toList ds p := hA0
 rw [Try.params3] at hA hval hsz
 obtain ⟨v0, vs0, d0, ds0, p0, q0, hargs, rfl, rfl, h0, r0⟩ := trodAll_cons hA
 obtain ⟨v1, vs1, d1, ds1, p1, q1, rfl, rfl, rfl, h1, r1⟩ := trodAll_cons r0
 obtain ⟨v2, vs2, d2, ds2, p2, q2, rfl, rfl, rfl, h2, r2⟩ := trodAll_cons r1
 obtain ⟨v3, vs3, d3, ds3, p3, q3, rfl, rfl, rfl, h3, r3⟩ := trodAll_cons r2
 obtain ⟨v4, vs4, d4, ds4, p4, q4, rfl, rfl, rfl, h4, r4⟩ := trodAll_cons r3
 obtain ⟨v5, vs5, d5, ds5, p5, q5, rfl, rfl, rfl, h5, r5⟩ := trodAll_cons r4
 obtain ⟨rfl, rfl, rfl⟩ := trodAll_nil r5
 obtain rfl : args = #[v0, v1, v2, v3, v4, v5] := by cases args; simp_all
 obtain ⟨rfl, rfl⟩ := trodVars_none hV
 have k0 := h0
 have lt0 : ∀ x ∈ p0, x.block < W.heap.size := by obtain ⟨m, hm⟩ := k0; exact DataW.trod_lt m _ _ _ hm
 have oq38 := (zgi (enc := enc) (W := W) (f := fun x : S38 => (x.f0, x.f1, x.f2)) (fun x => ⟨x.1, x.2.1, x.2.2⟩) (fun _ => rfl) Try.underlying38 (by kernel_rfl) (opsf_cons rfl (by kernel_rfl) (fun _ => op_int Try.underlying3) (opsf_cons rfl (by kernel_rfl) (fun _ => op_int Try.underlying3) (opsf_last rfl (by kernel_rfl) (ops_slice (b := 8) (e' := 3) Try.underlying31 (by kernel_rfl) (by kernel_rfl) (fun _ => op_int Try.underlying3))))))
 have oq24 := (zgi (enc := enc) (W := W) (f := fun x : S24 => x.f0) (fun x => ⟨x⟩) (fun _ => rfl) Try.underlying24 (by kernel_rfl) (opsf_last rfl (by kernel_rfl) (ops_slice (b := 40) (e' := 38) Try.underlying22 (by kernel_rfl) (by kernel_rfl) oq38)))
 have o0 := op_arg (j := 0) oq24 h0 hsz rfl rfl
 obtain ⟨cs0, rfl, _⟩ := okWide_struct Try.underlying24 (hval 0 24 v0 rfl rfl)
 obtain ⟨s0, hK0, w0⟩ := o0
 obtain ⟨A0_0, c0_0, e0, hc0_0, hr0_0⟩ := hK0
 obtain rfl : cs0 = #[.slice A0_0 s0.f0.length c0_0] := by
  apply Array.toList_inj.1
  simpa [Value.cells] using e0
 obtain ⟨a1, rfl, rfl, rfl, w1⟩ := open_int Try.underlying3 (hval 1 3 v1 rfl rfl) h1
 obtain ⟨a2, rfl, rfl, rfl, w2⟩ := open_int Try.underlying3 (hval 2 3 v2 rfl rfl) h2
 obtain ⟨a3, rfl, rfl, rfl, w3⟩ := open_int Try.underlying3 (hval 3 3 v3 rfl rfl) h3
 obtain ⟨a4, rfl, rfl, rfl, w4⟩ := open_int Try.underlying3 (hval 4 3 v4 rfl rfl) h4
 obtain ⟨a5, rfl, rfl, rfl, w5⟩ := open_int Try.underlying3 (hval 5 3 v5 rfl rfl) h5
 clear hA0 hval0 hsz0 hsz
 obtain ⟨k, hk⟩ := Go.Proofs.ZZ.Pure.GssKeeps s0 a1 a2 a3 a4 a5 w0 w1 w2 w3 w4 w5
 refine (zab.calls k _ _ s0.f0 a1 a2 a3 a4 a5 true W hr0_0 hc0_0 hk).mono ?_
 rintro e W' ⟨rfl, bel0⟩
 have bel : Below W.heap.size W W' := bel0
 exact ⟨_, rfl, _, _, _, [], _, [], hW', trodAll_mk1 (shut_bool Try.underlying4 _), (trodAll_cons_mk (Below.trod laidOut (by kernel_rfl) (of_decide_eq_true (by kernel_rfl)) k0 bel lt0) (trodAll_cons_mk (shut_int Try.underlying3 w1) (trodAll_cons_mk (shut_int Try.underlying3 w2) (trodAll_cons_mk (shut_int Try.underlying3 w3) (trodAll_cons_mk (shut_int Try.underlying3 w4) (trodAll_cons_mk (shut_int Try.underlying3 w5) trodAll_mk0)))))), rfl, bel.frame _, fun h => by cases h⟩
theorem over : Rows.gssKeepsRow.holds Try.pinned (OpenSpec.ofChange Rows.gssKeepsSpec) :=
 OpenClaim.holds_of_wide 3 Try.f3 rfl rfl rfl rfl rfl rfl rfl ⟨rfl, rfl, rfl, rfl, rfl⟩ rfl rfl rfl rfl rfl (by kernel_rfl) Try.func3 (by kernel_rfl)
  (of_decide_eq_true (by kernel_rfl)) (by unfold Func.isWrapper; first | (rw [if_pos (by decide +kernel)]; kernel_rfl) | (rw [if_neg (by decide +kernel)]; exact ⟨rfl, rfl⟩))
  (fun os started H enc _ => lifted os started H enc)
theorem proved : Rows.GssKeepsSaid := over
end Go.Proofs.Ytkfjhkkbbcpjjaa.gssKeeps
namespace Go.Proofs.Ytkfjhkkbbcpjjaa
theorem gssKeeps_holds : Rows.GssKeepsSaid := gssKeeps.proved
end Go.Proofs.Ytkfjhkkbbcpjjaa
end
