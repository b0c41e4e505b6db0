import Derived.Test.YtkfjhkkbbcpjjaaProg
import Derived.Below
import Derived.Deep.Draws
import Derived.Deep.AppendLies
import Derived.Maps.AppendAt
import Derived.OwnWalk
import Derived.Laws.BytesArg
import Derived.Laws.MakeOwn
import Derived.Laws.OwnMore
import Derived.Deep.OwnRows
import Derived.Tactics
import Derived.Lib.ConvBytes
import Derived.Laws.Slices
import Derived.WalkKit
import Derived.KernelRfl
import Derived.RowKit3
import Derived.Deep.LoopGhost
import Derived.Deep.QuietTactic
import Derived.BigQuiet
import Derived.WideLaws
import Derived.Deep.DeepCutAuto
import Derived.Deep.CutBlock
import Derived.Deep.RegionHeld3
import Derived.Laws.Rows
import Derived.Lib.AppendStr
import Derived.ArgAppend
import Derived.Laws.IdiomCopy
import Derived.OrdersHeld
import Derived.Laws.BitsLemmas
import Derived.RowKit
import Derived.Lib.Strings
import Derived.Lib.Bytealg
import Derived.Lib.Slices
import Derived.Lib.Walk
import Derived.Test.YtkfjhkkbbcpjjaaPackGssMerges2
set_option linter.unusedVariables false
set_option linter.unusedSimpArgs false
set_option maxRecDepth 100000
set_option maxHeartbeats 8000000
section
namespace Go.Proofs.ZZ.GAwake
open Go Go.RowKit Go.Shelf Go.Maps Go.Proofs.ZW.PrintWords Go.Proofs.ZW.PrintLast Go.Proofs.ZZ.RangeG Go.Proofs.ZZ.GMap Go.Proofs.ZZ.GK Go.Proofs.ZZ.G16 Go.Proofs.ZZ.GGr Go.Proofs.ZZ.GAdd Go.Proofs.ZZ.GTop Go.Proofs.ZZ.GStk Go.Proofs.ZZ.GPush Go.Proofs.ZZ.GBack Go.Proofs.ZZ.GCount Go.Proofs.ZZ.GSeq Go.Proofs.ZZ.GRow Go.Proofs.ZZ.GPaths
theorem zd2 {g : List Nd} (h1 : g.length ≤ 4096) (h2 : (marks g).Pairwise mlt) (h3 : ∀ x ∈ g, NdOk g.length x) (h4 : ∀ x ∈ g, ∀ k ∈ x.2.2, (g.getD k.toNat (0, 0, [])).2.1 ≤ x.2.1) : FitG g := by
 refine ⟨h1, h2, h3, ?_⟩
 rintro m m' ⟨x, hx, rfl, k, hk, k0, hk'⟩
 have := h4 x hx k hk
 obtain ⟨y, hy, rfl⟩ : ∃ y, g[k.toNat]? = some y ∧ mrk y = m' := by
  unfold marks at hk'
  rw [List.getElem?_map] at hk'
  obtain ⟨y, hy, he⟩ := Option.map_eq_some_iff.1 hk'
  exact ⟨y, hy, he⟩
 rw [List.getD_eq_getElem?_getD, hy] at this
 exact this
def X0 : List Nd := [(0, 0, [])]
def X1 : List Nd := [(0, 0, []), (1, 1, [0])]
def X2 : List Nd := [(0, 0, []), (1, 1, [0]), (2, 1, [0])]
def X3 : List Nd := [(0, 0, []), (1, 1, [0]), (2, 1, [0]), (3, 2, [1])]
def X4 : List Nd := [(0, 0, []), (1, 1, [0]), (2, 1, [0]), (3, 2, [1, 2])]
theorem nd_ok {n : Nat} {x : Nd} (h : 0 ≤ x.1 ∧ x.1 ≤ 65535 ∧ 0 ≤ x.2.1 ∧ x.2.1 ≤ 65535 ∧ x.2.2.Pairwise (· < ·) ∧ ∀ k ∈ x.2.2, 0 ≤ k ∧ k < (n : Int)) : NdOk n x := ⟨h.1, h.2.1, h.2.2.1, h.2.2.2.1, h.2.2.2.2.1, h.2.2.2.2.2⟩
theorem fit0 : FitG X0 := zd2 (by decide) (by unfold X0 marks; simp) (fun x hx => nd_ok (by unfold X0 at *; simp at hx; subst hx; simp)) (fun x hx k hk => by unfold X0 at *; simp at hx; subst hx; simp at hk)
theorem fit1 : FitG X1 := zd2 (by decide) (by unfold X1 marks mlt mrk; simp) (fun x hx => nd_ok (by unfold X1 at *; simp at hx; rcases hx with rfl | rfl <;> simp)) (fun x hx k hk => by unfold X1 at *; simp at hx; rcases hx with rfl | rfl <;> simp at hk <;> subst hk <;> simp)
theorem fit2 : FitG X2 := zd2 (by decide) (by unfold X2 marks mlt mrk; simp) (fun x hx => nd_ok (by unfold X2 at *; simp at hx; rcases hx with rfl | rfl | rfl <;> simp)) (fun x hx k hk => by unfold X2 at *; simp at hx; rcases hx with rfl | rfl | rfl <;> simp at hk <;> subst hk <;> simp)
theorem fit3 : FitG X3 := zd2 (by decide) (by unfold X3 marks mlt mrk; simp) (fun x hx => nd_ok (by unfold X3 at *; simp at hx; rcases hx with rfl | rfl | rfl | rfl <;> simp)) (fun x hx k hk => by unfold X3 at *; simp at hx; rcases hx with rfl | rfl | rfl | rfl <;> simp at hk <;> subst hk <;> simp)
theorem fit4 : FitG X4 := zd2 (by decide) (by unfold X4 marks mlt mrk; simp) (fun x hx => nd_ok (by unfold X4 at *; simp at hx; rcases hx with rfl | rfl | rfl | rfl <;> simp)) (fun x hx k hk => by unfold X4 at *; simp at hx; rcases hx with rfl | rfl | rfl | rfl <;> simp at hk <;> (try rcases hk with rfl | rfl) <;> (try subst hk) <;> simp)
theorem back1 : backV X4 3 1 = [1, 2] := by
 have h := zd1 fit4 (node := 3) (by decide) (by decide) 1
 have e : zb6 X4 3 1 = [1, 2] := zco (lt := (· < ·)) (fun a => by omega) (fun h1 h2 => Int.lt_trans h1 h2) h.1 (by simp) (fun z => by rw [zdi]; simp [Bk, lnk, X4]; try omega)
 exact e
theorem back2 : backV X4 3 2 = [0] := by
 have h := zd1 fit4 (node := 3) (by decide) (by decide) 2
 have e : zb6 X4 3 2 = [0] := zco (lt := (· < ·)) (fun a => by omega) (fun h1 h2 => Int.lt_trans h1 h2) h.1 (by simp) (fun z => by rw [zdi]; simp [Bk, lnk, X4]; try omega)
 exact e
theorem g1 : zbm X0 0 1 1 = (X1, 1, true) := by rfl
theorem g2 : zbm X1 0 2 1 = (X2, 2, true) := by rfl
theorem g3 : zbm X2 1 3 2 = (X3, 3, true) := by rfl
theorem g4 : zbm X3 2 3 2 = (X4, 3, true) := by rfl
theorem p4 : zda X4 3 2 = [[3, 1, 0], [3, 2, 0]] := by rfl
theorem f4 : PFit.zau.f 30 [⟨0, 0, []⟩, ⟨1, 1, [0]⟩, ⟨2, 1, [0]⟩, ⟨3, 2, [1, 2]⟩] = some true := by kernel_rfl
theorem i1 : PInts.zbp.f 9 [1, 2] [1, 2] = some true := by kernel_rfl
theorem i2 : PInts.zbp.f 9 [0] [0] = some true := by kernel_rfl
theorem n0 : PNew.zff.f 0 = some [⟨0, 0, []⟩] := by rfl
theorem C_iso {α β : Type} {d : Kd α} {f : β → α} {w : World} {A : Option Addr} {n : Nat} {xs : List β} (h : Kd.C (Kd.iso d f) w A n xs) : Kd.C d w A n (xs.map f) := by
 obtain ⟨h1, h2, h3⟩ := h
 refine ⟨by simpa using h1, h2, fun h0 => ?_⟩
 obtain ⟨ad, e, hc⟩ := h3 h0
 refine ⟨ad, e, fun j p hj => ?_⟩
 rw [List.getElem?_map] at hj
 cases hx : xs[j]? with
 | none => rw [hx] at hj; cases hj
 | some x =>
  rw [hx] at hj
  obtain rfl : f x = p := by simpa using hj
  exact hc j x hx
theorem C_uniso {α β : Type} {d : Kd α} {f : β → α} {w : World} {A : Option Addr} {n : Nat} {xs : List β} (h : Kd.C d w A n (xs.map f)) : Kd.C (Kd.iso d f) w A n xs := by
 obtain ⟨h1, h2, h3⟩ := h
 refine ⟨by simpa using h1, h2, fun h0 => ?_⟩
 obtain ⟨ad, e, hc⟩ := h3 h0
 refine ⟨ad, e, fun j p hj => ?_⟩
 exact hc j (f p) (by rw [List.getElem?_map, hj]; rfl)
theorem new_calls (w : World) : Calls Try.prog 21 #[.int .i64 0] w fun e w' => ∃ A c, e = .returned (.agg #[.slice A 1 c]) ∧ 1 ≤ c ∧ Kd.C kN w' A 1 X0 ∧ Below w.heap.size w w' := by
 refine (PNew.zff.calls 0 _ w n0).mono ?_
 rintro e w' ⟨v, rfl, hR, hB⟩
 obtain ⟨A, c, rfl, hc, h⟩ := Kd.zch hR
 exact ⟨A, c, rfl, hc, C_iso h, hB⟩
theorem push1 (A : Option Addr) (c : Nat) (w : World) (hc : 1 ≤ c) (h : Kd.C kN w A 1 X0) : Calls Try.prog 13 #[.agg #[.slice A 1 c], .int .i64 0, .int .i64 1, .int .i64 1] w fun e w' => ∃ A' c', e = .returned (.tuple #[.agg #[.slice A' 2 c'], .int .i64 1, .bool true]) ∧ 2 ≤ c' ∧ Kd.C kN w' A' 2 X1 ∧ Below w.heap.size w w' := by
 have := zdv A c X0 0 1 1 w h hc fit0 (by decide)
 rwa [g1] at this
theorem push2 (A : Option Addr) (c : Nat) (w : World) (hc : 2 ≤ c) (h : Kd.C kN w A 2 X1) : Calls Try.prog 13 #[.agg #[.slice A 2 c], .int .i64 0, .int .i64 2, .int .i64 1] w fun e w' => ∃ A' c', e = .returned (.tuple #[.agg #[.slice A' 3 c'], .int .i64 2, .bool true]) ∧ 3 ≤ c' ∧ Kd.C kN w' A' 3 X2 ∧ Below w.heap.size w w' := by
 have := zdv A c X1 0 2 1 w h hc fit1 (by decide)
 rwa [g2] at this
theorem push3 (A : Option Addr) (c : Nat) (w : World) (hc : 3 ≤ c) (h : Kd.C kN w A 3 X2) : Calls Try.prog 13 #[.agg #[.slice A 3 c], .int .i64 1, .int .i64 3, .int .i64 2] w fun e w' => ∃ A' c', e = .returned (.tuple #[.agg #[.slice A' 4 c'], .int .i64 3, .bool true]) ∧ 4 ≤ c' ∧ Kd.C kN w' A' 4 X3 ∧ Below w.heap.size w w' := by
 have := zdv A c X2 1 3 2 w h hc fit2 (by decide)
 rwa [g3] at this
theorem push4 (A : Option Addr) (c : Nat) (w : World) (hc : 4 ≤ c) (h : Kd.C kN w A 4 X3) : Calls Try.prog 13 #[.agg #[.slice A 4 c], .int .i64 2, .int .i64 3, .int .i64 2] w fun e w' => ∃ A' c', e = .returned (.tuple #[.agg #[.slice A' 4 c'], .int .i64 3, .bool true]) ∧ 4 ≤ c' ∧ Kd.C kN w' A' 4 X4 ∧ Below w.heap.size w w' := by
 have := zdv A c X3 2 3 2 w h hc fit3 (by decide)
 rwa [g4] at this
theorem paths4 (A : Option Addr) (c : Nat) (w : World) (h : Kd.C kN w A 4 X4) : Calls Try.prog 10 #[.agg #[.slice A 4 c], .int .i64 3, .int .i64 2] w fun e w' => ∃ A' c' ec, e = .returned (.tuple #[.slice A' 2 c', .int .i64 ec]) ∧ ec = 0 ∧ Below w.heap.size w w' := by
 refine (paths_calls A c X4 3 2 w h fit4).mono ?_
 rintro e w' ⟨v, ys, ec, rfl, ho, _, hB, _, hs⟩
 have hs : ec = 0 ∧ ys.map (·.2) = zda X4 3 2 := by
  rcases hs with hs | ⟨_, _, hs⟩
  ·exact hs
  ·exact absurd hs (by decide)
 have hy : ys.length = 2 := by
  have := congrArg List.length hs.2
  rw [p4] at this
  simpa using this
 rw [hy] at ho
 rcases ho.2 with ⟨_, h0⟩ | ⟨g, cap, cur, hv, _⟩
 ·omega
 ·exact ⟨_, _, ec, by rw [hv], hs.1, hB⟩
theorem back4 (A : Option Addr) (c : Nat) (w : World) (n : Int) (l : List Int) (hl : backV X4 3 n = l) (h : Kd.C kN w A 4 X4) : Calls Try.prog 11 #[.agg #[.slice A 4 c], .int .i64 3, .int .i64 n] w fun e w' => ∃ A' c', e = .returned (.slice A' l.length c') ∧ l.length ≤ c' ∧ Kd.C (Kd.int .i64) w' A' l.length l ∧ Below w.heap.size w w' := by
 refine (back_calls A c X4 3 n w h fit4).mono ?_
 rintro e w' ⟨v, rfl, hR, hB⟩
 rw [hl] at hR
 obtain ⟨A', c', rfl, hc, h⟩ := Kd.zch hR
 exact ⟨A', c', rfl, hc, h, hB⟩
theorem fit4_calls (A : Option Addr) (c : Nat) (w : World) (hc : 4 ≤ c) (h : Kd.C kN w A 4 X4) : Calls Try.prog 19 #[.agg #[.slice A 4 c]] w fun e w' => e = .returned (.bool true) ∧ Below w.heap.size w w' :=
 PFit.zau.calls 30 A c [⟨0, 0, []⟩, ⟨1, 1, [0]⟩, ⟨2, 1, [0]⟩, ⟨3, 2, [1, 2]⟩] true w (C_uniso h) hc f4
theorem not_box {w : World} {b : Nat} {v : Value} {t : TypeId} {fr : Nat × Nat} (hb : w.heap[b]? = some (.cells #[v] t fr)) (hv : ∀ i, v ≠ .int .i64 i) {a : Addr} {x : Int} (h : w.cell? a = some (.int .i64 x)) : a.block ≠ b := by
 intro e
 unfold World.cell? at h
 rw [e, hb] at h
 simp at h
 obtain ⟨_, h⟩ := h
 cases ho : a.off with
 | zero => rw [ho] at h; simp at h; exact hv _ h
 | succ k => rw [ho] at h; simp at h
theorem add_block (a : Addr) (k : Nat) : (a.add k).block = a.block := by
 unfold Addr.add
 split <;> rfl
theorem rows_box {α : Type} {K : Kd α} {w w' : World} {b : Nat} (hk : ∀ (a : Addr) u, w.cell? a = some u → a.block ≠ b → w'.cell? a = some u) {A : Option Addr} {n : Nat} {xs : List α} (h : Kd.C K w A n xs) (hK : ∀ p cs, K.K w p cs → K.K w' p cs) (hne : ∀ ad, A = some ad → 0 < n → ad.block ≠ b) : Kd.C K w' A n xs := by
 obtain ⟨h1, h2, h3⟩ := h
 refine ⟨h1, h2, fun h0 => ?_⟩
 obtain ⟨ad, e, hc⟩ := h3 h0
 refine ⟨ad, e, fun j p hj => ?_⟩
 obtain ⟨cs, hl, hKp, hcs⟩ := hc j p hj
 exact ⟨cs, hl, hK _ _ hKp, fun i u hi => hk _ _ (hcs i u hi) (by rw [add_block]; exact hne ad e h0)⟩
theorem ints_box {w w' : World} {b : Nat} {v : Value} {t : TypeId} {fr : Nat × Nat} (hb : w.heap[b]? = some (.cells #[v] t fr)) (hv : ∀ i, v ≠ .int .i64 i) (hk : ∀ (a : Addr) u, w.cell? a = some u → a.block ≠ b → w'.cell? a = some u) {A : Option Addr} {l : List Int} (h : Kd.C (Kd.int .i64) w A l.length l) : Kd.C (Kd.int .i64) w' A l.length l :=
 rows_box hk h (fun _ _ h => h) (fun ad e h0 => by
  obtain ⟨ad2, e2, hc⟩ := atI h (List.getElem?_eq_getElem h0)
  rw [e] at e2
  injection e2 with e2
  subst e2
  have := not_box hb hv hc
  rwa [add_block] at this)
theorem nodes_box {w w' : World} {b : Nat} {v : Value} {t : TypeId} {fr : Nat × Nat} (hb : w.heap[b]? = some (.cells #[v] t fr)) (hv : ∀ i, v ≠ .int .i64 i) (hk : ∀ (a : Addr) u, w.cell? a = some u → a.block ≠ b → w'.cell? a = some u) {A : Option Addr} {xs : List Nd} (h : Kd.C kN w A xs.length xs) : Kd.C kN w' A xs.length xs :=
 rows_box hk h (fun p cs h => by
  obtain ⟨A, c, rfl, l, g⟩ := kN_open h
  exact kN_mk l (ints_box hb hv hk g)) (fun ad e h0 => by
  obtain ⟨ad2, A2, c2, e2, hc, _⟩ := zcu h (List.getElem?_eq_getElem h0)
  rw [e] at e2
  injection e2 with e2
  subst e2
  have := not_box hb hv hc
  rwa [add_block] at this)
theorem set_cell_far {w : World} {b : Nat} {v : Value} (a : Addr) (u : Value) (h : w.cell? a = some u) (hne : a.block ≠ b) : (w.setCell ⟨b, 0, none⟩ v).cell? a = some u := by
 unfold World.cell? at h ⊢
 rw [Below.heap_setCell _ _ _ _ hne]
 exact h
theorem box_step {W V : World} {b n : Nat} {v : Value} {A : Option Addr} {c : Nat} {xs : List Nd} (hB : W.heap[b]? = some (.cells #[v] TG (0, 0))) (hv : ∀ i, v ≠ .int .i64 i) (hV : W.setCell ⟨b, 0, none⟩ (.slice A n c) = V) (hn : xs.length = n) (h : Kd.C kN W A n xs) : Kd.C kN V A n xs ∧ V.heap[b]? = some (.cells #[.slice A n c] TG (0, 0)) ∧ V.heap.size = W.heap.size := by
 subst hn;subst hV
 exact ⟨nodes_box hB hv set_cell_far h, Boxed.set _ hB, by simp⟩
theorem box_new {W V : World} {n : Nat} {A : Option Addr} {c : Nat} {xs : List Nd} (hV : W.alloc (.cells #[.slice A n c] TG) = V) (h : Kd.C kN W A n xs) : Kd.C kN V A n xs ∧ V.heap[W.heap.size]? = some (.cells #[.slice A n c] TG (0, 0)) ∧ Below W.heap.size W V := by
 subst hV
 exact ⟨Kd.zaq h ((Below.refl _ _).alloc (Nat.le_refl _) _), zba _ _, (Below.refl _ _).alloc (Nat.le_refl _) _⟩
theorem zf2 (A0 A1 : Option Addr) (c0 c1 : Nat) (l : List Int) (w : World) (h0 : Kd.C (Kd.int .i64) w A0 l.length l) (h1 : Kd.C (Kd.int .i64) w A1 l.length l) (hc0 : l.length ≤ c0) (hc1 : l.length ≤ c1) (h : PInts.zbp.f 9 l l = some true) : Calls Try.prog 24 #[.slice A0 l.length c0, .slice A1 l.length c1] w fun e w' => e = .returned (.bool true) ∧ Below w.heap.size w w' := by
 refine (PInts.zbp.calls 9 A0 c0 l A1 c1 l true w h0 hc0 h1 hc1 h).mono ?_
 rintro e w' ⟨rfl, hd⟩
 exact ⟨rfl, hd.below⟩
theorem ints_two (A0 A1 : Option Addr) (c0 : Nat) (w : World) (h0 : Kd.C (Kd.int .i64) w A0 2 [1, 2]) (h1 : Kd.C (Kd.int .i64) w A1 2 [1, 2]) (hc0 : 2 ≤ c0) : Calls Try.prog 24 #[.slice A0 2 c0, .slice A1 2 2] w fun e w' => e = .returned (.bool true) ∧ Below w.heap.size w w' := zf2 A0 A1 c0 2 [1, 2] w h0 h1 hc0 (by decide) i1
theorem ints_one (A0 A1 : Option Addr) (c0 : Nat) (w : World) (h0 : Kd.C (Kd.int .i64) w A0 1 [0]) (h1 : Kd.C (Kd.int .i64) w A1 1 [0]) (hc0 : 1 ≤ c0) : Calls Try.prog 24 #[.slice A0 1 c0, .slice A1 1 1] w fun e w' => e = .returned (.bool true) ∧ Below w.heap.size w w' := zf2 A0 A1 c0 1 [0] w h0 h1 hc0 (by decide) i2
theorem row_new (W : World) (l : List Int) (V : World) (hV : W.alloc (.cells ((l.map (Value.int .i64)).toArray) TI) = V) (hl : l.length ≤ 100) : Kd.C (Kd.int .i64) V (some ⟨W.heap.size, 0, none⟩) l.length l := by
 have ho : V.ownsRow W.heap.size TI 1 (.slice (some ⟨W.heap.size, 0, none⟩) l.length l.length) l.length (ints l) := by
  refine ⟨by rw [ints_len]; omega, .inr ⟨W.heap.size, l.length, (l.map (Value.int .i64)).toArray, rfl, Nat.le_refl _, by rw [← hV]; exact zba W _, by omega, by unfold maxLen; omega, by simp, by rw [Nat.mul_one]; show List.take l.length (List.map (Value.int IntKind.i64) l) = List.map (Value.int IntKind.i64) l; exact List.take_of_length_le (by simp)⟩⟩
 obtain ⟨A, c, e, _, h⟩ := Kd.zch (GSrt.own_R ho)
 injection e with e1 _ _
 rw [e1]
 exact h
theorem row_two {W V : World} (h : W.alloc (.cells #[.int .i64 1, .int .i64 2] TI) = V) : Kd.C (Kd.int .i64) V (some ⟨W.heap.size, 0, none⟩) [1, 2].length [1, 2] := row_new W [1, 2] V h (by decide)
theorem row_one' {W V : World} (h : W.alloc (.cells #[.int .i64 0] TI) = V) : Kd.C (Kd.int .i64) V (some ⟨W.heap.size, 0, none⟩) [0].length [0] := row_new W [0] V h (by decide)
theorem row_below {W V : World} {o : Obj} (h : W.alloc o = V) : Below W.heap.size W V := by
 rw [← h]
 exact (Below.refl _ _).alloc (Nat.le_refl _) _
theorem awake_calls (w : World) : Calls Try.prog 9 #[] w fun e w' => e = .returned (.bool true) ∧ Below w.heap.size w w' := by
 have hnew := new_calls w
 go_enter Try.func9, Try.ntmps9
 go_wp2_with (first
  | (go_at_call 21; refine hnew.mono ?_; rintro e W1 ⟨A1, c1, rfl, k1, h1, b1⟩)
  | (go_at_call 13; with_reducible refine (push1 A1 c1 W1 k1 h1).mono ?_; rintro e W2 ⟨A2, c2, rfl, k2, h2, b2⟩; clear hnew h1; obtain ⟨V2, hV2⟩ : ∃ X, W2.alloc (.cells #[.slice A2 2 c2] TG) = X := ⟨_, rfl⟩; obtain ⟨C2, B2, d2⟩ := box_new hV2 h2; have cc2 := zac B2 0)
  | (go_at_call 13; with_reducible refine (push2 A2 c2 V2 k2 C2).mono ?_; rintro e W3 ⟨A3, c3, rfl, k3, h3, b3⟩; clear C2 h2; have B3 := zaw B2 b3; have cc3 := zac B3 0; have ff3 := zbj B3 0; obtain ⟨V3, hV3⟩ : ∃ X, W3.setCell ⟨W2.heap.size, 0, none⟩ (.slice A3 3 c3) = X := ⟨_, rfl⟩; obtain ⟨C3, B4, z3⟩ := box_step B3 (fun i h => by cases h) hV3 rfl h3; have cc4 := zac B4 0; have Z3 := Lib.hid z3; clear z3)
  | (go_at_call 13; with_reducible refine (push3 A3 c3 V3 k3 C3).mono ?_; rintro e W4 ⟨A4, c4, rfl, k4, h4, b4⟩; clear C3 h3; obtain ⟨V4, hV4⟩ : ∃ X, W4.alloc (.cells #[.slice A4 4 c4] TG) = X := ⟨_, rfl⟩; obtain ⟨C4, B5, d4⟩ := box_new hV4 h4; have cc5 := zac B5 0)
  | (go_at_call 13; with_reducible refine (push4 A4 c4 V4 k4 C4).mono ?_; rintro e W5 ⟨A5, c5, rfl, k5, h5, b5⟩; clear C4 h4; have B6 := zaw B5 b5; have cc6 := zac B6 0; have ff6 := zbj B6 0; obtain ⟨V5, hV5⟩ : ∃ X, W5.setCell ⟨W4.heap.size, 0, none⟩ (.slice A5 4 c5) = X := ⟨_, rfl⟩; obtain ⟨C5, B7, z5⟩ := box_step B6 (fun i h => by cases h) hV5 rfl h5; have cc7 := zac B7 0; have Z5 := Lib.hid z5; clear z5)
  | (go_at_call 10; refine (paths4 A5 c5 V5 C5).mono ?_; rintro e W6 ⟨A6, c6, ec, rfl, rfl, b6⟩; have C6 := Kd.zaq C5 b6; have B8x := zaw B7 b6; have cc8 := zac B8x 0)
  | (go_at_call 11; with_reducible refine (back4 A5 c5 W6 1 [1, 2] back1 C6).mono ?_; rintro e W7 ⟨A7, c7, rfl, k7, h7, b7⟩; have C7 := Kd.zaq C6 b7; have B9x := zaw B8x b7; have cc9 := zac B9x 0; obtain ⟨V7, hV7⟩ : ∃ X, W7.alloc (.cells #[.int .i64 1, .int .i64 2] TI) = X := ⟨_, rfl⟩; have r7 := row_two hV7; have d7 := row_below hV7; have g7 := Kd.zaq h7 d7; have D7 := Kd.zaq C7 d7; have B10x := zaw B9x d7; have cc10 := zac B10x 0)
  | (go_at_call 24; have q7 := ints_two A7 _ c7 V7 g7 r7 k7; with_reducible refine q7.mono ?_; rintro e W8 ⟨rfl, b8⟩; have C8 := Kd.zaq D7 b8; have B11x := zaw B10x b8; have cc11 := zac B11x 0)
  | (go_at_call 11; with_reducible refine (back4 A5 c5 W8 2 [0] back2 C8).mono ?_; rintro e W9 ⟨A9, c9, rfl, k9, h9, b9⟩; have C9 := Kd.zaq C8 b9; have B12x := zaw B11x b9; have cc12 := zac B12x 0; obtain ⟨V9, hV9⟩ : ∃ X, W9.alloc (.cells #[.int .i64 0] TI) = X := ⟨_, rfl⟩; have r9 := row_one' hV9; have d9 := row_below hV9; have g9 := Kd.zaq h9 d9; have D9 := Kd.zaq C9 d9; have B13x := zaw B12x d9; have cc13 := zac B13x 0)
  | (go_at_call 24; have q9 := ints_one A9 _ c9 V9 g9 r9 k9; with_reducible refine q9.mono ?_; rintro e W10 ⟨rfl, b10⟩; have C10 := Kd.zaq D9 b10; have B14x := zaw B13x b10; have cc14 := zac B14x 0)
  | (go_at_call 19; refine (fit4_calls A5 c5 W10 k5 C10).mono ?_; rintro e W11 ⟨rfl, b11⟩)
  | go_in)
 go_ret
 refine ⟨rfl, ?_⟩
 have x2 := b1.trans (b2.mono b1.size)
 have y2 := x2.trans (d2.mono x2.size)
 have x3 := y2.trans (b3.mono y2.size)
 have y3 : Below w.heap.size w V3 := by rw [← hV3]; exact x3.setCell (p := ⟨W2.heap.size, 0, none⟩) x2.size _
 have x4 := y3.trans (b4.mono y3.size)
 have y4 := x4.trans (d4.mono x4.size)
 have x5 := y4.trans (b5.mono y4.size)
 have y5 : Below w.heap.size w V5 := by rw [← hV5]; exact x5.setCell (p := ⟨W4.heap.size, 0, none⟩) x4.size _
 have x6 := y5.trans (b6.mono y5.size)
 have x7 := x6.trans (b7.mono x6.size)
 have y7 := x7.trans (d7.mono x7.size)
 have x8 := y7.trans (b8.mono y7.size)
 have x9 := x8.trans (b9.mono x8.size)
 have y9 := x9.trans (d9.mono x9.size)
 have x10 := y9.trans (b10.mono y9.size)
 exact x10.trans (b11.mono x10.size)
end Go.Proofs.ZZ.GAwake
end
section
namespace Go.Proofs.ZZ.GGiv
open Go Go.RowKit Go.Shelf Go.Maps Go.Proofs.ZW.PrintWords Go.Proofs.ZW.PrintLast Go.Proofs.ZZ.GK Go.Proofs.ZZ.G16 Go.Proofs.ZZ.GGr Go.Proofs.ZZ.GAdd
instance mltDec (a b : Mk) : Decidable (mlt a b) := by unfold mlt; infer_instance
def fitB (g : List Nd) : Bool := decide (g.length ≤ 4096) && decide ((marks g).Pairwise mlt) && g.all fun x => decide (0 ≤ x.1) && decide (x.1 ≤ 65535) && decide (0 ≤ x.2.1) && decide (x.2.1 ≤ 65535) && decide (x.2.2.Pairwise (· < ·)) && x.2.2.all fun k => decide (0 ≤ k) && decide (k < (g.length : Int)) && decide ((g.getD k.toNat (0, 0, [])).2.1 ≤ x.2.1)
theorem fit_fit {g : List Nd} (h : fitB g = true) : FitG g := by
 unfold fitB at h
 simp only [Bool.and_eq_true, decide_eq_true_eq, List.all_eq_true] at h
 obtain ⟨⟨h1, h2⟩, h3⟩ := h
 refine GAwake.zd2 h1 h2 (fun x hx => ?_) (fun x hx k hk => ((h3 x hx).2 k hk).2)
 obtain ⟨⟨⟨⟨⟨a, b⟩, c⟩, d⟩, e⟩, f⟩ := h3 x hx
 exact ⟨a, b, c, d, e, fun k hk => (f k hk).1⟩
theorem fit_test {g : List Nd} (h : FitG g) : fitB g = true := by
 unfold fitB
 simp only [Bool.and_eq_true, decide_eq_true_eq, List.all_eq_true]
 refine ⟨⟨h.len, h.rise⟩, fun x hx => ?_⟩
 have o := h.ok x hx
 refine ⟨⟨⟨⟨⟨o.s0, o.s1⟩, o.a0⟩, o.a1⟩, o.up⟩, fun k hk => ⟨o.inn k hk, ?_⟩⟩
 obtain ⟨k0, k1⟩ := o.inn k hk
 have hl : k.toNat < g.length := by omega
 have := h.back (mrk x) (mrk g[k.toNat]) ⟨x, hx, rfl, k, hk, k0, by unfold marks; rw [List.getElem?_map, List.getElem?_eq_getElem hl]; rfl⟩
 rw [List.getD_eq_getElem?_getD, List.getElem?_eq_getElem hl]
 exact this
theorem R_map {α β : Type} {d : Kd α} {d' : Kd β} {g : α → β} {e : Nat} {w : World} {base : Nat} {ok : Nat → Prop} {v : Value} {xs : List α} (hz : d'.sz = d.sz) (hM : ∀ ok x cs, d.M w base ok x cs → d'.M w base ok (g x) cs) (h : Kd.R d e w base ok v xs) : Kd.R d' e w base ok v (xs.map g) := by
 obtain ⟨h0, inner, ho, hr⟩ := h
 refine ⟨h0, inner, by rw [List.length_map, hz]; exact ho, by rw [List.length_map, hz]; exact hr.1, fun j p hj => ?_⟩
 rw [List.getElem?_map] at hj
 cases hx : xs[j]? with
 | none => rw [hx] at hj; cases hj
 | some x =>
  rw [hx] at hj
  obtain rfl : g x = p := by simpa using hj
  rw [hz]
  exact hM _ _ _ (hr.2 j x hx)
end Go.Proofs.ZZ.GGiv
end
section
namespace Go.Proofs.ZZ.PGssMerges
open Go.RowKit Go.Proofs.ZW.PrintWords Go.Proofs.ZW.PrintLast Go.Proofs.ZW.PrintMore
attribute [local go_sem] zcc zci
structure S38 where
 f0 : Int
 f1 : Int
 f2 : (List Int)
def z38 : S38 := ⟨(0 : Int), (0 : Int), ([] : List Int)⟩
def k38 : Kd S38 := Kd.iso (Kd.pair (Kd.int .i64) (Kd.pair (Kd.int .i64) (Kd.slice 3 (Kd.int .i64)))) (fun x : S38 => (x.f0, x.f1, x.f2))
theorem zft {w : World} {x : S38} {cs : List Value} (h : k38.K w x cs) : ∃ A2 c2, cs = [.int .i64 x.f0, .int .i64 x.f1, .slice A2 x.f2.length c2] ∧ x.f2.length ≤ c2 ∧ (Kd.int .i64).C w A2 x.f2.length x.f2 := by
 obtain ⟨_, _, rfl, rfl, ⟨_, _, rfl, rfl, ⟨A2, c2, rfl, l2, g2⟩⟩⟩ := h
 exact ⟨A2, c2, rfl, l2, g2⟩
def zaa (xs : List S38) (i : Int) : S38 := xs.getD i.toNat z38
theorem zb3 {w : World} {A : Option Addr} {n : Nat} {xs : List S38} (h : Kd.C k38 w A n xs) (i : Int) (h0 : 0 ≤ i) (h1 : i < n) : ∃ ad A2 c2, A = some ad ∧ w.cell? (ad.add (i.toNat * 3)) = some (.int .i64 (zaa xs i).f0) ∧ w.cell? ⟨(ad.add (i.toNat * 3)).block, (ad.add (i.toNat * 3)).off + 1, none⟩ = some (.int .i64 (zaa xs i).f1) ∧ w.cell? ⟨(ad.add (i.toNat * 3)).block, (ad.add (i.toNat * 3)).off + 2, none⟩ = some (.slice A2 (zaa xs i).f2.length c2) ∧ (zaa xs i).f2.length ≤ c2 ∧ (Kd.int .i64).C w A2 (zaa xs i).f2.length (zaa xs i).f2 := by
 obtain ⟨ad, c, e, _, hK, hc0⟩ := Kd.C_get h z38 i h0 h1
 have hc : ∀ j u, c[j]? = some u → w.cell? (ad.add (i.toNat * 3 + j)) = some u := hc0
 obtain ⟨A2, c2, rfl, l2, g2⟩ := zft hK
 exact ⟨ad, A2, c2, e, hc 0 _ rfl, by rw [← zc3 _ _ 1 (by omega)]; exact hc 1 _ rfl, by rw [← zc3 _ _ 2 (by omega)]; exact hc 2 _ rfl, l2, g2⟩
structure S24 where
 f0 : (List S38)
theorem Yb_PGssMergesx1_0 {n : Nat} {w w' : World} (h : Below n w w' := by repeat (first | (with_reducible first | exact HB.out | apply za9 | apply za7 | apply zav | refine za4 ?_ GE101.out) | exact HB.out)) : Below n w w' := h
theorem Yb_PGssMergesx1_1 {n : Nat} {w w' : World} (h : Below n w w' := by repeat (first | (with_reducible first | exact HB.out | apply za9 | apply za7 | apply zav | refine za4 ?_ GE103.out) | exact HB.out)) : Below n w w' := h
theorem Yb_PGssMergesx1_2 {n : Nat} {w w' : World} (h : Below n w w' := by repeat (first | (with_reducible first | exact HB.out | apply za9 | apply za7 | apply zav | refine za4 ?_ GE103.out | refine za4 ?_ GE104.out) | exact HB.out)) : Below n w w' := h
def zam.l0 : Nat → Int → Int → List (S38) → Option (Bool)
 | 0, _, _, _ => none
 | k + 1, x3, x4, x102000 => if x4 < (x102000.length : Int) then (if x3 ≥ 0 then (if 0 ≤ x4 then (zam.l0 k (wrap64 ((wrap64 (x3 - 1)) - (((zaa x102000 x4).f2).length : Int))) (wrap64 (x4 + 1)) x102000) else (none)) else (some false)) else (if x3 ≥ 0 then (some (decide ((x102000.length : Int) ≤ 120))) else (some false))
def zam.f (k : Nat) (l0_0 : List (S38)) : Option (Bool) := zam.l0 k 3000 0 l0_0
theorem zam.calls (k : Nat) (A0_0 : Option Addr) (c0_0 : Nat) (l0_0 : List (S38)) (r : Bool) (w : World) (hr0_0 : Kd.C k38 w A0_0 l0_0.length l0_0) (hc0_0 : l0_0.length ≤ c0_0) (h : zam.f k l0_0 = some r) :
  Calls Try.prog 7 #[.agg #[.slice A0_0 l0_0.length c0_0]] w fun e w' => e = .returned (.bool r) ∧ Below w.heap.size w w' := by
 have hu24 := Try.underlying24
 have HR0_0 := zab.mk hr0_0;have HC0_0 := zab.mk hc0_0;clear hr0_0 hc0_0
 have HB := zab.mk (Below.refl w.heap.size w)
 have H : (zam.l0 k 3000 0 l0_0) = some r := h
 clear h
 have H' := zab.mk H
 clear H
 go_enter Try.func7, Try.ntmps7
 go_wp2_with (first | ((with_reducible refine za6 (N := 1) rfl ?_); (try (refine zdr (by rfl) ?_; dsimp only)); refine Ybx 1 #[.slice A0_0 l0_0.length c0_0] 24 ?_; intro gb101 hg w2 hbox hb; obtain ⟨BK101, GW101, GE101, HB⟩ := Yb4 hbox hg hb Ybe; clear hb hbox hg))
 go_loopg [3, 4] k (fun kq v3 v4 w' => ∃ (x3_1 : Int) (x4_1 : Int), v3 = .int .i64 x3_1 ∧ v4 = .int .i64 x4_1 ∧ zab (zam.l0 kq x3_1 x4_1 l0_0 = some r) ∧ zab (kq ≤ k) ∧ zab (w'.heap[gb101]? = some (.cells #[(.slice A0_0 l0_0.length c0_0)] 24 (0, 0))) ∧ zab (Below w.heap.size w w'))
 case atStart => exact ⟨(3000), (0), Yfs, Yfs, H', ⟨Nat.le_refl _⟩, ⟨Yg BK101⟩, ⟨Yb_PGssMergesx1_0⟩⟩
 case round =>
  clear H'
  obtain ⟨x3_1, x4_1, rfl, rfl, HA, HK1, BK101, HB⟩ := hrel
  cases gk with
  | zero => exact absurd HA.out (by simp [zam.l0])
  | succ k1 =>
   have H := HA.out;clear HA
   simp only [zam.l0] at H
   by_cases c3 : x4_1 < (l0_0.length : Int)
   ·rw [if_pos c3] at H
    have c3b0 := decide_eq_true c3
    clear c3
    by_cases c4 : x3_1 ≥ 0
    ·rw [if_pos c4] at H
     have c4b0 := decide_eq_true c4
     clear c4
     by_cases c5 : 0 ≤ x4_1
     ·rw [if_pos c5] at H
      have c5b0 := decide_eq_true c5
      clear c5
      have H' := zab.mk H
      clear H
      obtain ⟨hcz6_0, hfz6_0⟩ := Yc1 BK101.out
      have p102 : 0 ≤ (x4_1 : Int) := Yod
      have q102 : x4_1 < (l0_0.length : Int) := Yod
      obtain ⟨ad102, A102_2, c102_2, e102, hx102_0, hx102_1, hx102_2, hl102_2, hi102_2⟩ := zb3 HR0_0.out x4_1 p102 q102
      cases e102
      replace hx102_0 := zaj HB.out hx102_0
      replace hx102_1 := zaj HB.out hx102_1
      replace hx102_2 := zaj HB.out hx102_2
      have HR102_2 := zab.mk hi102_2;have HC102_2 := zab.mk hl102_2;clear hi102_2 hl102_2
      replace p102 := eq_true p102
      replace q102 := eq_true q102
      go_wp2
      go_roundg k1
      case measure => have := HK1.out; omega
      case rel => exact ⟨(wrap64 ((wrap64 (x3_1 - 1)) - (((zaa l0_0 x4_1).f2).length : Int))), (wrap64 (x4_1 + 1)), Yfs, Yfs, H', ⟨by have := HK1.out; omega⟩, ⟨Yg BK101⟩, ⟨Yb_PGssMergesx1_0⟩⟩
     ·rw [if_neg c5] at H
      exact absurd H (by simp)
    ·rw [if_neg c4] at H
     have c4b0 := decide_eq_false c4
     clear c4;obtain rfl := Option.some.inj H
     obtain ⟨hcz7_0, hfz7_0⟩ := Yc1 BK101.out
     go_wp2;go_ret
     exact ⟨Yfi, Yb_PGssMergesx1_0⟩
   ·rw [if_neg c3] at H
    have c3b0 := decide_eq_false c3
    clear c3
    by_cases c8 : x3_1 ≥ 0
    ·rw [if_pos c8] at H
     have c8b0 := decide_eq_true c8
     clear c8;obtain rfl := Option.some.inj H
     obtain ⟨hcz9_0, hfz9_0⟩ := Yc1 BK101.out
     go_wp2;go_ret
     exact ⟨Yfi, Yb_PGssMergesx1_0⟩
    ·rw [if_neg c8] at H
     have c8b0 := decide_eq_false c8
     clear c8;obtain rfl := Option.some.inj H
     obtain ⟨hcz10_0, hfz10_0⟩ := Yc1 BK101.out
     go_wp2;go_ret
     exact ⟨Yfi, Yb_PGssMergesx1_0⟩
def za8.f (a0 : Int) : Option (Bool) := if a0 ≥ 0 then (some (decide (a0 ≤ 65535))) else (some false)
theorem za8.calls (a0 : Int) (r : Bool) (w : World) (h : za8.f a0 = some r) :
  Calls Try.prog 30 #[.int .i64 a0] w fun e w' => e = .returned (.bool r) ∧ zax w w' := by
 have H : (if a0 ≥ 0 then (some (decide (a0 ≤ 65535))) else (some false)) = some r := h
 clear h
 by_cases c2 : a0 ≥ 0
 ·rw [if_pos c2] at H
  have c2b0 := decide_eq_true c2
  clear c2;obtain rfl := Option.some.inj H
  go_enter Try.func30, Try.ntmps30
  go_wp2;go_ret
  exact ⟨Yfs, by repeat (first | exact zax.refl _ | apply zax.step)⟩
 ·rw [if_neg c2] at H
  have c2b0 := decide_eq_false c2
  clear c2;obtain rfl := Option.some.inj H
  go_enter Try.func30, Try.ntmps30
  go_wp2;go_ret
  exact ⟨Yfs, by repeat (first | exact zax.refl _ | apply zax.step)⟩
def zbb.f (a0_0 : Int) (a0_1 : Int) (l0_2 : List Int) (a1_0 : Int) (a1_1 : Int) (l1_2 : List Int) : Option (Bool) := if a0_1 < a1_1 then (some true) else (if a0_1 = a1_1 then (some (decide (a0_0 < a1_0))) else (some false))
theorem zbb.calls (a0_0 : Int) (a0_1 : Int) (A0_2 : Option Addr) (c0_2 : Nat) (l0_2 : List Int) (a1_0 : Int) (a1_1 : Int) (A1_2 : Option Addr) (c1_2 : Nat) (l1_2 : List Int) (r : Bool) (w : World) (hr0_2 : Kd.C (Kd.int .i64) w A0_2 l0_2.length l0_2) (hc0_2 : l0_2.length ≤ c0_2) (hr1_2 : Kd.C (Kd.int .i64) w A1_2 l1_2.length l1_2) (hc1_2 : l1_2.length ≤ c1_2) (h : zbb.f a0_0 a0_1 l0_2 a1_0 a1_1 l1_2 = some r) :
  Calls Try.prog 31 #[.agg #[.int .i64 a0_0, .int .i64 a0_1, .slice A0_2 l0_2.length c0_2], .agg #[.int .i64 a1_0, .int .i64 a1_1, .slice A1_2 l1_2.length c1_2]] w fun e w' => e = .returned (.bool r) ∧ Below w.heap.size w w' := by
 have hu38 := Try.underlying38
 have HR0_2 := zab.mk hr0_2;have HC0_2 := zab.mk hc0_2;clear hr0_2 hc0_2;have HR1_2 := zab.mk hr1_2;have HC1_2 := zab.mk hc1_2;clear hr1_2 hc1_2
 have HB := zab.mk (Below.refl w.heap.size w)
 have H : (if a0_1 < a1_1 then (some true) else (if a0_1 = a1_1 then (some (decide (a0_0 < a1_0))) else (some false))) = some r := h
 clear h
 by_cases c3 : a0_1 < a1_1
 ·rw [if_pos c3] at H
  have c3b0 := decide_eq_true c3
  clear c3;obtain rfl := Option.some.inj H
  go_enter Try.func31, Try.ntmps31
  go_wp2_with (first | ((with_reducible refine za6 (N := 2) rfl ?_); refine Ybx 2 #[.int .i64 a0_0, .int .i64 a0_1, .slice A0_2 l0_2.length c0_2] 38 ?_; intro gb103 hg w4 hbox hb; obtain ⟨BK103, GW103, GE103, HB⟩ := Yb4 hbox hg hb Ybe; clear hb hbox hg) | ((with_reducible refine za6 (N := 3) rfl ?_); refine Ybx 3 #[.int .i64 a1_0, .int .i64 a1_1, .slice A1_2 l1_2.length c1_2] 38 ?_; intro gb104 hg w5 hbox hb; obtain ⟨BK104, GW104, GE104, HB⟩ := Yb4 hbox hg hb Yb_PGssMergesx1_1; have NB103_104 := Ynl BK103 hg; have NB104_103 := Yng BK103 hg; replace BK103 := Ykb BK103 hb; clear hb hbox hg; have hnb6 := NB103_104.out; have hnc6 := NB104_103.out; obtain ⟨hcz7_0, hfz7_0, hcz7_1, hfz7_1, hcz7_2, hfz7_2⟩ := Yc3 BK103.out; obtain ⟨hcz8_0, hfz8_0, hcz8_1, hfz8_1, hcz8_2, hfz8_2⟩ := Yc3 BK104.out))
  go_ret
  exact ⟨Yfi, Yb_PGssMergesx1_2⟩
 ·rw [if_neg c3] at H
  have c3b0 := decide_eq_false c3
  clear c3
  by_cases c9 : a0_1 = a1_1
  ·rw [if_pos c9] at H
   have c9b0 : (a0_1 == a1_1) = true := beq_iff_eq.mpr c9
   have c9b1 : (a0_1 != a1_1) = false := bne_eq_false_iff_eq.mpr c9
   clear c9;obtain rfl := Option.some.inj H
   go_enter Try.func31, Try.ntmps31
   go_wp2_with (first | ((with_reducible refine za6 (N := 2) rfl ?_); refine Ybx 2 #[.int .i64 a0_0, .int .i64 a0_1, .slice A0_2 l0_2.length c0_2] 38 ?_; intro gb103 hg w10 hbox hb; obtain ⟨BK103, GW103, GE103, HB⟩ := Yb4 hbox hg hb Ybe; clear hb hbox hg) | ((with_reducible refine za6 (N := 3) rfl ?_); refine Ybx 3 #[.int .i64 a1_0, .int .i64 a1_1, .slice A1_2 l1_2.length c1_2] 38 ?_; intro gb104 hg w11 hbox hb; obtain ⟨BK104, GW104, GE104, HB⟩ := Yb4 hbox hg hb Yb_PGssMergesx1_1; have NB103_104 := Ynl BK103 hg; have NB104_103 := Yng BK103 hg; replace BK103 := Ykb BK103 hb; clear hb hbox hg; have hnb12 := NB103_104.out; have hnc12 := NB104_103.out; obtain ⟨hcz13_0, hfz13_0, hcz13_1, hfz13_1, hcz13_2, hfz13_2⟩ := Yc3 BK103.out; obtain ⟨hcz14_0, hfz14_0, hcz14_1, hfz14_1, hcz14_2, hfz14_2⟩ := Yc3 BK104.out))
   go_ret
   exact ⟨Yfi, Yb_PGssMergesx1_2⟩
  ·rw [if_neg c9] at H
   have c9b0 : (a0_1 == a1_1) = false := beq_eq_false_iff_ne.mpr c9
   have c9b1 : (a0_1 != a1_1) = true := bne_iff_ne.mpr c9
   obtain rfl := Option.some.inj H
   go_enter Try.func31, Try.ntmps31
   go_wp2_with (first | ((with_reducible refine za6 (N := 2) rfl ?_); refine Ybx 2 #[.int .i64 a0_0, .int .i64 a0_1, .slice A0_2 l0_2.length c0_2] 38 ?_; intro gb103 hg w15 hbox hb; obtain ⟨BK103, GW103, GE103, HB⟩ := Yb4 hbox hg hb Ybe; clear hb hbox hg) | ((with_reducible refine za6 (N := 3) rfl ?_); refine Ybx 3 #[.int .i64 a1_0, .int .i64 a1_1, .slice A1_2 l1_2.length c1_2] 38 ?_; intro gb104 hg w16 hbox hb; obtain ⟨BK104, GW104, GE104, HB⟩ := Yb4 hbox hg hb Yb_PGssMergesx1_1; have NB103_104 := Ynl BK103 hg; have NB104_103 := Yng BK103 hg; replace BK103 := Ykb BK103 hb; clear hb hbox hg; have hnb17 := NB103_104.out; have hnc17 := NB104_103.out; obtain ⟨hcz18_0, hfz18_0, hcz18_1, hfz18_1, hcz18_2, hfz18_2⟩ := Yc3 BK103.out; obtain ⟨hcz19_0, hfz19_0, hcz19_1, hfz19_1, hcz19_2, hfz19_2⟩ := Yc3 BK104.out))
   go_ret
   exact ⟨Yfi, Yb_PGssMergesx1_2⟩
theorem Yb_PGssMergesx2_0 {n : Nat} {w w' : World} (h : Below n w w' := by repeat (first | (with_reducible first | exact HB.out | apply za9 | apply za7 | apply zav | refine za4 ?_ GE105.out) | exact HB.out)) : Below n w w' := h
theorem Yb_PGssMergesx2_1 {n : Nat} {w w' : World} (h : Below n w w' := by repeat (first | (with_reducible first | exact HB.out | apply za9 | apply za7 | apply zav | refine za4 ?_ GE105.out | refine za4 ?_ GE107.out) | exact HB.out)) : Below n w w' := h
mutual
def zae.l0 : Nat → Int → Int → List (S38) → Option (Bool)
 | 0, _, _, _ => none
 | k + 1, x3, x4, x106000 => if x4 < x3 then (zae.j1 k x3 x4 (decide (x3 ≤ 4096)) x106000) else (zae.j1 k x3 x4 false x106000)
def zae.j1 : Nat → Int → Int → Bool → List (S38) → Option (Bool)
 | 0, _, _, _, _ => none
 | k + 1, x3, x4, x17, x106000 => if x17 = true then (if 0 ≤ x4 then (if x4 < (x106000.length : Int) then ((za8.f ((zaa x106000 x4).f0)).bind fun t108 => (if t108 = true then ((za8.f ((zaa x106000 x4).f1)).bind fun t109 => (if t109 = true then (if x4 > 0 then (if 0 ≤ (wrap64 (x4 - 1)) then (if (wrap64 (x4 - 1)) < (x106000.length : Int) then ((zbb.f ((zaa x106000 (wrap64 (x4 - 1))).f0) ((zaa x106000 (wrap64 (x4 - 1))).f1) ((zaa x106000 (wrap64 (x4 - 1))).f2) ((zaa x106000 x4).f0) ((zaa x106000 x4).f1) ((zaa x106000 x4).f2)).bind fun t111 => (zae.j2 k x3 x4 (!t111) x106000 ((zaa x106000 x4).f0) ((zaa x106000 x4).f1) ((zaa x106000 x4).f2))) else (none)) else (none)) else (zae.j2 k x3 x4 false x106000 ((zaa x106000 x4).f0) ((zaa x106000 x4).f1) ((zaa x106000 x4).f2))) else (zae.j2 k x3 x4 true x106000 ((zaa x106000 x4).f0) ((zaa x106000 x4).f1) ((zaa x106000 x4).f2)))) else (zae.j2 k x3 x4 true x106000 ((zaa x106000 x4).f0) ((zaa x106000 x4).f1) ((zaa x106000 x4).f2)))) else (none)) else (none)) else (some (decide (x3 ≤ 4096)))
def zae.j2 : Nat → Int → Int → Bool → List (S38) → Int → Int → List Int → Option (Bool)
 | 0, _, _, _, _, _, _, _ => none
 | k + 1, x3, x4, x49, x106000, x108000, x108001, x108002 => if x49 = true then (some false) else (zae.l1 k x3 x4 0 x106000 x108000 x108001 x108002)
def zae.l1 : Nat → Int → Int → Int → List (S38) → Int → Int → List Int → Option (Bool)
 | 0, _, _, _, _, _, _, _ => none
 | k + 1, x3, x4, x6, x106000, x108000, x108001, x108002 => if x6 < (x108002.length : Int) then (if 0 ≤ x6 then (if (rd x108002 x6) < 0 then (some false) else (if (rd x108002 x6) ≥ x3 then (some false) else (if 0 ≤ (rd x108002 x6) then (if (rd x108002 x6) < (x106000.length : Int) then (if ((zaa x106000 (rd x108002 x6)).f1) > x108001 then (some false) else (if x6 > 0 then (if 0 ≤ (wrap64 (x6 - 1)) then (if (wrap64 (x6 - 1)) < (x108002.length : Int) then (if (rd x108002 (wrap64 (x6 - 1))) ≥ (rd x108002 x6) then (some false) else (zae.l1 k x3 x4 (wrap64 (x6 + 1)) x106000 x108000 x108001 x108002)) else (none)) else (none)) else (zae.l1 k x3 x4 (wrap64 (x6 + 1)) x106000 x108000 x108001 x108002))) else (none)) else (none)))) else (none)) else (zae.l0 k x3 (wrap64 (x4 + 1)) x106000)
end
def zae.f (k : Nat) (l0_0 : List (S38)) : Option (Bool) := zae.l0 k (l0_0.length : Int) 0 l0_0
def zae.T6 : Bool × List (List Nat × List Nat) := (true, [([], []), ([0], [0]), ([1], [1]), ([2], [2]), ([3, 2], [3]), ([4], [4]), ([5, 4], [4, 5]), ([6, 4, 4], [4, 6]), ([7, 4], [4, 7]), ([4, 8], [4, 8]), ([9, 7], [9]), ([10], [10]), ([11, 10], [10, 11]), ([12, 10, 10], [10, 12]), ([13], [13]), ([14, 13], [13, 14]), ([13], [13]), ([16, 13], [13, 16]), ([15, 17, 13], [13, 15, 17]), ([18, 13], [13, 18]), ([13], [13]), ([19, 20, 13, 13], [13, 19, 20]), ([21, 13], [13, 21]), ([13, 22, 10], [10, 13, 22]), ([10, 23], [10, 23])])
def zae.B6 : List Nat := [0, 1, 3, 7, 15, 31, 63, 127, 255, 511, 1023, 2047, 4095, 8191, 16383, 32767, 16383, 81919, 262143, 524287, 16383, 2097151, 4194303, 8388607, 16777215]
theorem zae.tab6 : rtab .any (opsOf Try.f8 6) = zae.T6 := by kernel_rfl
theorem zae.zdo : zck zae.T6.2 zae.B6 = true := by kernel_rfl
def zae.T12 : Bool × List (List Nat × List Nat) := (true, [([], []), ([0], [0]), ([1], [1]), ([2], [2]), ([2], [2]), ([3, 4, 2], [2, 3, 4]), ([2, 5], [2, 5]), ([6, 2], [6]), ([7], [7]), ([8, 7], [7, 8]), ([7], [7]), ([9, 10, 7], [7, 9, 10]), ([11, 7], [7, 11]), ([12, 7], [7, 12]), ([7], [7]), ([14, 7], [7, 14]), ([13, 15, 7], [7, 13, 15]), ([7, 16], [7, 16]), ([17, 7], [17]), ([18], [18]), ([19, 18], [18, 19]), ([20, 18, 18], [18, 20]), ([21], [21]), ([22, 21], [21, 22]), ([21], [21]), ([24, 21], [21, 24]), ([23, 25, 21], [21, 23, 25]), ([26, 21], [21, 26]), ([21], [21]), ([27, 28, 21], [21, 27, 28]), ([21, 29, 18], [18, 21, 29]), ([18, 30], [18, 30])])
def zae.B12 : List Nat := [0, 1, 3, 7, 7, 31, 63, 127, 255, 511, 255, 2047, 4095, 8191, 255, 16639, 65535, 131071, 262143, 524287, 1048575, 2097151, 4194303, 8388607, 4194303, 20971519, 67108863, 134217727, 4194303, 536870911, 1073741823, 2147483647]
theorem zae.zdb : rtab .any (opsOf Try.f8 12) = zae.T12 := by kernel_rfl
theorem zae.zcx : zck zae.T12.2 zae.B12 = true := by kernel_rfl
theorem zae.calls (k : Nat) (A0_0 : Option Addr) (c0_0 : Nat) (l0_0 : List (S38)) (r : Bool) (w : World) (hr0_0 : Kd.C k38 w A0_0 l0_0.length l0_0) (hc0_0 : l0_0.length ≤ c0_0) (h : zae.f k l0_0 = some r) :
  Calls Try.prog 8 #[.agg #[.slice A0_0 l0_0.length c0_0]] w fun e w' => e = .returned (.bool r) ∧ Below w.heap.size w w' := by
 have hu24 := Try.underlying24
 have hu38 := Try.underlying38
 have HR0_0 := zab.mk hr0_0;have HC0_0 := zab.mk hc0_0;clear hr0_0 hc0_0
 have HB := zab.mk (Below.refl w.heap.size w)
 have H : (zae.l0 k (l0_0.length : Int) 0 l0_0) = some r := h
 clear h
 have H' := zab.mk H
 clear H
 go_enter Try.func8, Try.ntmps8
 go_wp2_with (first | ((with_reducible refine za6 (N := 1) rfl ?_); refine Ybx 1 #[.slice A0_0 l0_0.length c0_0] 24 ?_; intro gb105 hg w2 hbox hb; obtain ⟨BK105, GW105, GE105, HB⟩ := Yb4 hbox hg hb Ybe; clear hb hbox hg; obtain ⟨hcz3_0, hfz3_0⟩ := Yc1 BK105.out))
 go_loopg [4] k (fun kq v4 w' => ∃ (x4_1 : Int), v4 = .int .i64 x4_1 ∧ zab (zae.l0 kq (l0_0.length : Int) x4_1 l0_0 = some r) ∧ zab (kq ≤ k) ∧ zab (w'.heap[gb105]? = some (.cells #[(.slice A0_0 l0_0.length c0_0)] 24 (0, 0))) ∧ zab (Below w.heap.size w w'))
 case atStart => exact ⟨(0), Yfs, H', ⟨Nat.le_refl _⟩, ⟨Yg BK105⟩, ⟨Yb_PGssMergesx2_0⟩⟩
 case round =>
  clear H'
  obtain ⟨x4_1, rfl, HA, HK1, BK105, HB⟩ := hrel
  cases gk with
  | zero => exact absurd HA.out (by simp [zae.l0])
  | succ k1 =>
   have H := HA.out;clear HA
   simp only [zae.l0] at H
   have HC4 := zab.mk H;clear H
   go_upto_region 3 with (fail)
   go_cut [17] (fun v17 wc => ∃ (kq : Nat) (x17_3 : Bool), v17 = .bool x17_3 ∧ zab (zae.j1 kq (l0_0.length : Int) x4_1 x17_3 l0_0 = some r) ∧ zab (kq ≤ k1) ∧ zab (wc.heap[gb105]? = some (.cells #[(.slice A0_0 l0_0.length c0_0)] 24 (0, 0))) ∧ zab (Below w.heap.size w wc))
   case first =>
    have H := HC4.out;clear HC4
    by_cases c5 : x4_1 < (l0_0.length : Int)
    ·rw [if_pos c5] at H
     have c5b0 := decide_eq_true c5
     clear c5
     (first | rw [c5b0] | (simp only [zcm, zc0]; rw [c5b0]) | skip)
     have H' := zab.mk H
     clear H;go_wp2
     go_meet
     case rel => exact ⟨_, (decide ((l0_0.length : Int) ≤ 4096)), Yfs, H', ⟨by have := HK1.out; first | omega | exact Nat.le_refl _⟩, ⟨Yg BK105⟩, ⟨Yb_PGssMergesx2_0⟩⟩
    ·rw [if_neg c5] at H
     have c5b0 := decide_eq_false c5
     clear c5
     (first | rw [c5b0] | (simp only [zcm, zc0]; rw [c5b0]) | skip)
     have H' := zab.mk H
     clear H;go_wp2
     go_meet
     case rel => exact ⟨_, (false), Yfs, H', ⟨by have := HK1.out; first | omega | exact Nat.le_refl _⟩, ⟨Yg BK105⟩, ⟨Yb_PGssMergesx2_0⟩⟩
   case rest =>
    clear HC4
    obtain ⟨kq, x17_3, rfl, HA, HJ3, BK105, HB⟩ := hcut
    cases kq with
    | zero => exact absurd HA.out (by simp [zae.j1])
    | succ kj3 =>
     have H := HA.out;clear HA
     simp only [zae.j1] at H
     by_cases c6 : x17_3 = true
     ·subst c6
      have H1 : (if 0 ≤ x4_1 then (if x4_1 < (l0_0.length : Int) then ((za8.f ((zaa l0_0 x4_1).f0)).bind fun t108 => (if t108 = true then ((za8.f ((zaa l0_0 x4_1).f1)).bind fun t109 => (if t109 = true then (if x4_1 > 0 then (if 0 ≤ (wrap64 (x4_1 - 1)) then (if (wrap64 (x4_1 - 1)) < (l0_0.length : Int) then ((zbb.f ((zaa l0_0 (wrap64 (x4_1 - 1))).f0) ((zaa l0_0 (wrap64 (x4_1 - 1))).f1) ((zaa l0_0 (wrap64 (x4_1 - 1))).f2) ((zaa l0_0 x4_1).f0) ((zaa l0_0 x4_1).f1) ((zaa l0_0 x4_1).f2)).bind fun t111 => (zae.j2 kj3 (l0_0.length : Int) x4_1 (!t111) l0_0 ((zaa l0_0 x4_1).f0) ((zaa l0_0 x4_1).f1) ((zaa l0_0 x4_1).f2))) else (none)) else (none)) else (zae.j2 kj3 (l0_0.length : Int) x4_1 false l0_0 ((zaa l0_0 x4_1).f0) ((zaa l0_0 x4_1).f1) ((zaa l0_0 x4_1).f2))) else (zae.j2 kj3 (l0_0.length : Int) x4_1 true l0_0 ((zaa l0_0 x4_1).f0) ((zaa l0_0 x4_1).f1) ((zaa l0_0 x4_1).f2)))) else (zae.j2 kj3 (l0_0.length : Int) x4_1 true l0_0 ((zaa l0_0 x4_1).f0) ((zaa l0_0 x4_1).f1) ((zaa l0_0 x4_1).f2)))) else (none)) else (none)) = some r := by rw [if_pos rfl] at H; exact H
      clear H;have H := H1;clear H1
      by_cases c7 : 0 ≤ x4_1
      ·rw [if_pos c7] at H
       have c7b0 := decide_eq_true c7
       clear c7
       by_cases c8 : x4_1 < (l0_0.length : Int)
       ·rw [if_pos c8] at H
        have c8b0 := decide_eq_true c8
        clear c8;have HC9 := zab.mk H;clear H
        obtain ⟨hcz10_0, hfz10_0⟩ := Yc1 BK105.out
        have p106 : 0 ≤ (x4_1 : Int) := Yod
        have q106 : x4_1 < (l0_0.length : Int) := Yod
        obtain ⟨ad106, A106_2, c106_2, e106, hx106_0, hx106_1, hx106_2, hl106_2, hi106_2⟩ := zb3 HR0_0.out x4_1 p106 q106
        cases e106
        replace hx106_0 := zaj HB.out hx106_0
        replace hx106_1 := zaj HB.out hx106_1
        replace hx106_2 := zaj HB.out hx106_2
        have HR106_2 := zab.mk hi106_2;have HC106_2 := zab.mk hl106_2;clear hi106_2 hl106_2
        replace p106 := eq_true p106
        replace q106 := eq_true q106
        go_upto_region 6 with (first | ((with_reducible refine za6 (N := 5) rfl ?_); refine Ybx 5 #[.int .i64 0, .int .i64 0, .slice none 0 0] 38 ?_; intro gb107 hg w11 hbox hb; obtain ⟨BK107, GW107, GE107, HB⟩ := Yb4 hbox hg hb Yb_PGssMergesx2_0; have NB105_107 := Ynl BK105 hg; have NB107_105 := Yng BK105 hg; replace BK105 := Ykb BK105 hb; clear hb hbox hg; have hnb12 := NB107_105.out; have hnc12 := NB105_107.out; obtain ⟨hcz13_0, hfz13_0, hcz13_1, hfz13_1, hcz13_2, hfz13_2⟩ := Yc3 BK107.out))
        (try simp only [Act.put, Y1, Y2, Y3])
        go_cut [49] (fun v49 wc => ∃ (kq : Nat) (x49_8 : Bool), v49 = .bool x49_8 ∧ zab (zae.j2 kq (l0_0.length : Int) x4_1 x49_8 l0_0 ((zaa l0_0 x4_1).f0) ((zaa l0_0 x4_1).f1) ((zaa l0_0 x4_1).f2) = some r) ∧ zab (kq ≤ kj3) ∧ zab (wc.heap[gb105]? = some (.cells #[(.slice (some ad106) l0_0.length c0_0)] 24 (0, 0))) ∧ zab (wc.heap[gb107]? = some (.cells #[.int .i64 ((zaa l0_0 x4_1).f0), .int .i64 ((zaa l0_0 x4_1).f1), (.slice A106_2 ((zaa l0_0 x4_1).f2).length c106_2)] 38 (0, 0))) ∧ zab (Below w.heap.size w wc))
        case first =>
         have H := HC9.out;clear HC9;replace H := Option.bind_eq_some_iff.mp H
         obtain ⟨t108, A140, H⟩ := H
         replace H : (if t108 = true then ((za8.f ((zaa l0_0 x4_1).f1)).bind fun t109 => (if t109 = true then (if x4_1 > 0 then (if 0 ≤ (wrap64 (x4_1 - 1)) then (if (wrap64 (x4_1 - 1)) < (l0_0.length : Int) then ((zbb.f ((zaa l0_0 (wrap64 (x4_1 - 1))).f0) ((zaa l0_0 (wrap64 (x4_1 - 1))).f1) ((zaa l0_0 (wrap64 (x4_1 - 1))).f2) ((zaa l0_0 x4_1).f0) ((zaa l0_0 x4_1).f1) ((zaa l0_0 x4_1).f2)).bind fun t111 => (zae.j2 kj3 (l0_0.length : Int) x4_1 (!t111) l0_0 ((zaa l0_0 x4_1).f0) ((zaa l0_0 x4_1).f1) ((zaa l0_0 x4_1).f2))) else (none)) else (none)) else (zae.j2 kj3 (l0_0.length : Int) x4_1 false l0_0 ((zaa l0_0 x4_1).f0) ((zaa l0_0 x4_1).f1) ((zaa l0_0 x4_1).f2))) else (zae.j2 kj3 (l0_0.length : Int) x4_1 true l0_0 ((zaa l0_0 x4_1).f0) ((zaa l0_0 x4_1).f1) ((zaa l0_0 x4_1).f2)))) else (zae.j2 kj3 (l0_0.length : Int) x4_1 true l0_0 ((zaa l0_0 x4_1).f0) ((zaa l0_0 x4_1).f1) ((zaa l0_0 x4_1).f2))) = some r := H
         have A14 := zab.mk A140;clear A140
         by_cases c15 : t108 = true
         ·subst c15
          have H1 : ((za8.f ((zaa l0_0 x4_1).f1)).bind fun t109 => (if t109 = true then (if x4_1 > 0 then (if 0 ≤ (wrap64 (x4_1 - 1)) then (if (wrap64 (x4_1 - 1)) < (l0_0.length : Int) then ((zbb.f ((zaa l0_0 (wrap64 (x4_1 - 1))).f0) ((zaa l0_0 (wrap64 (x4_1 - 1))).f1) ((zaa l0_0 (wrap64 (x4_1 - 1))).f2) ((zaa l0_0 x4_1).f0) ((zaa l0_0 x4_1).f1) ((zaa l0_0 x4_1).f2)).bind fun t111 => (zae.j2 kj3 (l0_0.length : Int) x4_1 (!t111) l0_0 ((zaa l0_0 x4_1).f0) ((zaa l0_0 x4_1).f1) ((zaa l0_0 x4_1).f2))) else (none)) else (none)) else (zae.j2 kj3 (l0_0.length : Int) x4_1 false l0_0 ((zaa l0_0 x4_1).f0) ((zaa l0_0 x4_1).f1) ((zaa l0_0 x4_1).f2))) else (zae.j2 kj3 (l0_0.length : Int) x4_1 true l0_0 ((zaa l0_0 x4_1).f0) ((zaa l0_0 x4_1).f1) ((zaa l0_0 x4_1).f2)))) = some r := by rw [if_pos rfl] at H; exact H
          clear H;have H := H1;clear H1;replace H := Option.bind_eq_some_iff.mp H
          obtain ⟨t109, A160, H⟩ := H
          replace H : (if t109 = true then (if x4_1 > 0 then (if 0 ≤ (wrap64 (x4_1 - 1)) then (if (wrap64 (x4_1 - 1)) < (l0_0.length : Int) then ((zbb.f ((zaa l0_0 (wrap64 (x4_1 - 1))).f0) ((zaa l0_0 (wrap64 (x4_1 - 1))).f1) ((zaa l0_0 (wrap64 (x4_1 - 1))).f2) ((zaa l0_0 x4_1).f0) ((zaa l0_0 x4_1).f1) ((zaa l0_0 x4_1).f2)).bind fun t111 => (zae.j2 kj3 (l0_0.length : Int) x4_1 (!t111) l0_0 ((zaa l0_0 x4_1).f0) ((zaa l0_0 x4_1).f1) ((zaa l0_0 x4_1).f2))) else (none)) else (none)) else (zae.j2 kj3 (l0_0.length : Int) x4_1 false l0_0 ((zaa l0_0 x4_1).f0) ((zaa l0_0 x4_1).f1) ((zaa l0_0 x4_1).f2))) else (zae.j2 kj3 (l0_0.length : Int) x4_1 true l0_0 ((zaa l0_0 x4_1).f0) ((zaa l0_0 x4_1).f1) ((zaa l0_0 x4_1).f2))) = some r := H
          have A16 := zab.mk A160;clear A160
          by_cases c17 : t109 = true
          ·subst c17
           have H1 : (if x4_1 > 0 then (if 0 ≤ (wrap64 (x4_1 - 1)) then (if (wrap64 (x4_1 - 1)) < (l0_0.length : Int) then ((zbb.f ((zaa l0_0 (wrap64 (x4_1 - 1))).f0) ((zaa l0_0 (wrap64 (x4_1 - 1))).f1) ((zaa l0_0 (wrap64 (x4_1 - 1))).f2) ((zaa l0_0 x4_1).f0) ((zaa l0_0 x4_1).f1) ((zaa l0_0 x4_1).f2)).bind fun t111 => (zae.j2 kj3 (l0_0.length : Int) x4_1 (!t111) l0_0 ((zaa l0_0 x4_1).f0) ((zaa l0_0 x4_1).f1) ((zaa l0_0 x4_1).f2))) else (none)) else (none)) else (zae.j2 kj3 (l0_0.length : Int) x4_1 false l0_0 ((zaa l0_0 x4_1).f0) ((zaa l0_0 x4_1).f1) ((zaa l0_0 x4_1).f2))) = some r := by rw [if_pos rfl] at H; exact H
           clear H;have H := H1;clear H1
           by_cases c18 : x4_1 > 0
           ·rw [if_pos c18] at H
            have c18b0 := decide_eq_true c18
            clear c18
            (first | rw [c18b0] | (simp only [zcm, zc0]; rw [c18b0]) | skip)
            obtain ⟨ji19, hji19⟩ : ∃ j_ : Int, (wrap64 (x4_1 - 1)) = j_ := ⟨_, rfl⟩
            replace H : (if 0 ≤ (ji19) then (if (ji19) < (l0_0.length : Int) then ((zbb.f ((zaa l0_0 (ji19)).f0) ((zaa l0_0 (ji19)).f1) ((zaa l0_0 (ji19)).f2) ((zaa l0_0 x4_1).f0) ((zaa l0_0 x4_1).f1) ((zaa l0_0 x4_1).f2)).bind fun t111 => (zae.j2 kj3 (l0_0.length : Int) x4_1 (!t111) l0_0 ((zaa l0_0 x4_1).f0) ((zaa l0_0 x4_1).f1) ((zaa l0_0 x4_1).f2))) else (none)) else (none)) = some r := by first | (rw [hji19] at H; exact H) | (simp only [hji19] at H ⊢; exact H)
            (try rw [hji19] at A14)
            (try rw [hji19] at A16)
            have hji19w : (IntKind.i64.wrap (x4_1 - 1)) = ji19 := (zcm _).trans hji19
            by_cases c20 : 0 ≤ (ji19)
            ·rw [if_pos c20] at H
             have c20b0 := decide_eq_true c20
             clear c20
             by_cases c21 : (ji19) < (l0_0.length : Int)
             ·rw [if_pos c21] at H
              have c21b0 := decide_eq_true c21
              clear c21;replace H := Option.bind_eq_some_iff.mp H
              obtain ⟨t111, A220, H⟩ := H
              replace H : (zae.j2 kj3 (l0_0.length : Int) x4_1 (!t111) l0_0 ((zaa l0_0 x4_1).f0) ((zaa l0_0 x4_1).f1) ((zaa l0_0 x4_1).f2)) = some r := H
              have A22 := zab.mk A220;clear A220
              have H' := zab.mk H
              clear H
              try go_wp2
              have n0_ : zab ((((w11.setCell ⟨gb107, 0, none⟩ (.int .i64 ((zaa l0_0 x4_1).f0))).setCell ⟨gb107, 1, none⟩ (.int .i64 ((zaa l0_0 x4_1).f1))).setCell ⟨gb107, 2, none⟩ (.slice A106_2 ((zaa l0_0 x4_1).f2).length c106_2)).heap[gb105]? = some (.cells #[.slice (some ad106) l0_0.length c0_0] 24 (0, 0))) := ⟨by (with_reducible repeat (first | refine zah ?_ _ | refine zad ?_ | refine zaf ?_ _)); refine zal ?_ NB105_107.out _; (with_reducible repeat (first | refine zah ?_ _ | refine zad ?_ | refine zaf ?_ _)); refine zal ?_ NB105_107.out _; (with_reducible repeat (first | refine zah ?_ _ | refine zad ?_ | refine zaf ?_ _)); refine zal ?_ NB105_107.out _; (with_reducible repeat (first | refine zah ?_ _ | refine zad ?_ | refine zaf ?_ _)); exact BK105.out⟩
              have n1_ : zab ((((w11.setCell ⟨gb107, 0, none⟩ (.int .i64 ((zaa l0_0 x4_1).f0))).setCell ⟨gb107, 1, none⟩ (.int .i64 ((zaa l0_0 x4_1).f1))).setCell ⟨gb107, 2, none⟩ (.slice A106_2 ((zaa l0_0 x4_1).f2).length c106_2)).heap[gb107]? = some (.cells #[.int .i64 ((zaa l0_0 x4_1).f0), .int .i64 ((zaa l0_0 x4_1).f1), .slice A106_2 ((zaa l0_0 x4_1).f2).length c106_2] 38 (0, 0))) := ⟨by (with_reducible repeat (first | refine zah ?_ _ | refine zad ?_ | refine zaf ?_ _)); refine zat (cs := #[.int .i64 ((zaa l0_0 x4_1).f0), .int .i64 ((zaa l0_0 x4_1).f1), .slice none 0 0]) ?_ 2 _ rfl; (with_reducible repeat (first | refine zah ?_ _ | refine zad ?_ | refine zaf ?_ _)); refine zat (cs := #[.int .i64 ((zaa l0_0 x4_1).f0), .int .i64 0, .slice none 0 0]) ?_ 1 _ rfl; (with_reducible repeat (first | refine zah ?_ _ | refine zad ?_ | refine zaf ?_ _)); refine zat (cs := #[.int .i64 0, .int .i64 0, .slice none 0 0]) ?_ 0 _ rfl; (with_reducible repeat (first | refine zah ?_ _ | refine zad ?_ | refine zaf ?_ _)); exact BK107.out⟩
              have n2_ : zab (Below w.heap.size w (((w11.setCell ⟨gb107, 0, none⟩ (.int .i64 ((zaa l0_0 x4_1).f0))).setCell ⟨gb107, 1, none⟩ (.int .i64 ((zaa l0_0 x4_1).f1))).setCell ⟨gb107, 2, none⟩ (.slice A106_2 ((zaa l0_0 x4_1).f2).length c106_2))) := ⟨Yb_PGssMergesx2_1⟩
              (try clear BK105)
              (try clear BK107)
              (try clear HB)
              generalize (((w11.setCell ⟨gb107, 0, none⟩ (.int .i64 ((zaa l0_0 x4_1).f0))).setCell ⟨gb107, 1, none⟩ (.int .i64 ((zaa l0_0 x4_1).f1))).setCell ⟨gb107, 2, none⟩ (.slice A106_2 ((zaa l0_0 x4_1).f2).length c106_2)) = w23 at n0_ n1_ n2_ ⊢
              have BK105 := n0_;have BK107 := n1_;have HB := n2_;clear n0_ n1_ n2_
              replace BK105 := zab.mk (zad BK105.out)
              replace BK107 := zab.mk (zad BK107.out)
              replace HB := zab.mk (zav HB.out)
              have p110 : 0 ≤ ((ji19) : Int) := Yod
              have q110 : (ji19) < (l0_0.length : Int) := Yod
              obtain ⟨ad110, A110_2, c110_2, e110, hx110_0, hx110_1, hx110_2, hl110_2, hi110_2⟩ := zb3 HR0_0.out (ji19) p110 q110
              have hw110_2 := hx110_2;have hw110_1 := hx110_1;have hw110_0 := hx110_0
              obtain rfl : ad106 = ad110 := (by injection e110)
              replace hx110_0 := zaj HB.out hx110_0
              replace hx110_1 := zaj HB.out hx110_1
              replace hx110_2 := zaj HB.out hx110_2
              have HR110_2 := zab.mk hi110_2;have HC110_2 := zab.mk hl110_2;clear hi110_2 hl110_2
              replace p110 := eq_true p110
              replace q110 := eq_true q110
              refine zbh (n := 25) (S := fun w' => w'.cell? ⟨gb107, 0, none⟩ = some (.int .i64 ((zaa l0_0 x4_1).f0)) ∧ w'.cell? ⟨gb107, 1, none⟩ = some (.int .i64 ((zaa l0_0 x4_1).f1)) ∧ w'.cell? ⟨gb107, 2, none⟩ = some (.slice A106_2 ((zaa l0_0 x4_1).f2).length c106_2) ∧ w'.cell? ⟨gb105, 0, none⟩ = some (.slice (some ad106) l0_0.length c0_0) ∧ w'.cell? (ad106.add (((ji19)).toNat * 3)) = some (.int .i64 ((zaa l0_0 (ji19)).f0)) ∧ w'.cell? ⟨(ad106.add (((ji19)).toNat * 3)).block, (ad106.add (((ji19)).toNat * 3)).off + 1, none⟩ = some (.int .i64 ((zaa l0_0 (ji19)).f1)) ∧ w'.cell? ⟨(ad106.add (((ji19)).toNat * 3)).block, (ad106.add (((ji19)).toNat * 3)).off + 2, none⟩ = some (.slice A110_2 ((zaa l0_0 (ji19)).f2).length c110_2)) (ds := []) (Ymk 25 0) (by kernel_rfl) rfl rfl ⟨(zac BK107.out 0).trans rfl, (zac BK107.out 1).trans rfl, (zac BK107.out 2).trans rfl, (zac BK105.out 0).trans rfl, ((HB.out.cell (World.block_lt_of_cell? w _ hw110_0)).trans hw110_0), ((HB.out.cell (World.block_lt_of_cell? w _ hw110_1)).trans hw110_1), ((HB.out.cell (World.block_lt_of_cell? w _ hw110_2)).trans hw110_2)⟩ (fun hHeld => ?_); refine zbc zae.tab6 zae.zdo (fun HT_ HW_ => ?_)
              generalize w23.drew = w24 at BK105 BK107 HB HR110_2 hx110_0 hx110_1 hx110_2 hHeld ⊢
              refine Ypt 0 25 25 1 HT_ ?_
              refine Ytt 1 26 25 3 HT_ HW_ hHeld ?_
              refine Yot 2 27 25 7 HT_ (fun K hK => ?_)
              refine Ygs Try.func30 #[.int .i64 ((zaa l0_0 x4_1).f0)] ?_
              with_reducible refine (za8.calls ((zaa l0_0 x4_1).f0) true _ A14.out).mono ?_
              rintro e w' ⟨rfl, ⟨nd, rfl⟩⟩
              refine ⟨_, rfl, ?_⟩
              refine hK.out _ _ ⟨(zac BK107.out 0).trans rfl, (zac BK107.out 1).trans rfl, (zac BK107.out 2).trans rfl, (zac BK105.out 0).trans rfl, ((HB.out.cell (World.block_lt_of_cell? w _ hw110_0)).trans hw110_0), ((HB.out.cell (World.block_lt_of_cell? w _ hw110_1)).trans hw110_1), ((HB.out.cell (World.block_lt_of_cell? w _ hw110_2)).trans hw110_2)⟩ (fun hHeld => ?_)
              clear hK K
              refine Ynw 27 ?_
              refine Ypt 3 28 25 15 HT_ ?_
              refine Ypt 4 29 25 31 HT_ ?_
              refine Ypt 5 30 25 63 HT_ ?_
              refine Ytt 6 31 25 127 HT_ HW_ hHeld ?_
              refine Yot 7 32 25 255 HT_ (fun K hK => ?_)
              refine Ygs Try.func30 #[.int .i64 ((zaa l0_0 x4_1).f1)] ?_
              with_reducible refine (za8.calls ((zaa l0_0 x4_1).f1) true _ A16.out).mono ?_
              rintro e w' ⟨rfl, ⟨nd, rfl⟩⟩
              refine ⟨_, rfl, ?_⟩
              refine hK.out _ _ ⟨(zac BK107.out 0).trans rfl, (zac BK107.out 1).trans rfl, (zac BK107.out 2).trans rfl, (zac BK105.out 0).trans rfl, ((HB.out.cell (World.block_lt_of_cell? w _ hw110_0)).trans hw110_0), ((HB.out.cell (World.block_lt_of_cell? w _ hw110_1)).trans hw110_1), ((HB.out.cell (World.block_lt_of_cell? w _ hw110_2)).trans hw110_2)⟩ (fun hHeld => ?_)
              clear hK K
              refine Ynw 32 ?_
              refine Ypt 8 33 25 511 HT_ ?_
              refine Ypt 9 34 25 1023 HT_ ?_
              refine Ypt 10 35 25 2047 HT_ ?_
              refine Ypt 11 36 25 4095 HT_ ?_
              refine Ypt 12 37 25 8191 HT_ ?_
              refine Ypt 13 38 25 16383 HT_ ?_
              refine Ypt 14 39 25 32767 HT_ ?_
              refine Ypt 16 41 25 98303 HT_ ?_
              refine Ypt 17 42 25 229375 HT_ ?_
              refine Ytt 15 40 25 262143 HT_ HW_ hHeld ?_
              refine Ypt 18 43 25 524287 HT_ ?_
              refine Ytt 19 44 25 1048575 HT_ HW_ hHeld ?_
              refine Ytt 20 45 25 2097151 HT_ HW_ hHeld ?_
              refine Yot 21 46 25 4194303 HT_ (fun K hK => ?_)
              refine goes_ Try.func31 (by kernel_rfl) rfl #[.agg #[.int .i64 ((zaa l0_0 (ji19)).f0), .int .i64 ((zaa l0_0 (ji19)).f1), .slice A110_2 ((zaa l0_0 (ji19)).f2).length c110_2], .agg #[.int .i64 ((zaa l0_0 x4_1).f0), .int .i64 ((zaa l0_0 x4_1).f1), .slice A106_2 ((zaa l0_0 x4_1).f2).length c106_2]] (by rfl) rfl rfl (by (try simp only [List.map_toArray, List.map_cons, List.map_nil]); first | done | (simp only [hji19]; rfl) | rfl | (simp only [List.length_drop, List.length_take]; rfl)) ?_
              with_reducible refine (zbb.calls ((zaa l0_0 (ji19)).f0) ((zaa l0_0 (ji19)).f1) _ _ ((zaa l0_0 (ji19)).f2) ((zaa l0_0 x4_1).f0) ((zaa l0_0 x4_1).f1) _ _ ((zaa l0_0 x4_1).f2) t111 _ (Kd.zaq HR110_2.out Yb_PGssMergesx2_1) HC110_2.out (Kd.zaq HR106_2.out Yb_PGssMergesx2_1) HC106_2.out A22.out).mono ?_
              rintro e w25 ⟨rfl, hb⟩
              refine ⟨_, rfl, ?_⟩
              replace BK105 := Ykb BK105 hb
              replace BK107 := Ykb BK107 hb
              replace HB := zab.mk (zar Yb_PGssMergesx2_1 hb)
              (try clear hb)
              (try clear hb2)
              (try clear hk)
              (try clear hi)
              refine hK.out _ _ ⟨(zac BK107.out 0).trans rfl, (zac BK107.out 1).trans rfl, (zac BK107.out 2).trans rfl, (zac BK105.out 0).trans rfl, ((HB.out.cell (World.block_lt_of_cell? w _ hw110_0)).trans hw110_0), ((HB.out.cell (World.block_lt_of_cell? w _ hw110_1)).trans hw110_1), ((HB.out.cell (World.block_lt_of_cell? w _ hw110_2)).trans hw110_2)⟩ (fun hHeld => ?_)
              clear hK K
              refine Ynw 46 ?_
              refine Ypt 22 47 25 8388607 HT_ ?_
              refine Ypt 23 48 25 16777215 HT_ ?_
              refine Ypt 24 49 25 33554431 HT_ ?_
              refine zbn (zbk HT_.out (by kernel_rfl)) ?_
              try go_wp2
              go_meet
              case rel => exact ⟨_, (!t111), Yfs, H', ⟨by have := HK1.out; have := HJ3.out; first | omega | exact Nat.le_refl _⟩, ⟨Yg BK105⟩, ⟨Yg BK107⟩, ⟨Yb_PGssMergesx2_1⟩⟩
             ·rw [if_neg c21] at H
              exact absurd H (by simp)
            ·rw [if_neg c20] at H
             exact absurd H (by simp)
           ·rw [if_neg c18] at H
            have c18b0 := decide_eq_false c18
            clear c18
            (first | rw [c18b0] | (simp only [zcm, zc0]; rw [c18b0]) | skip)
            have H' := zab.mk H
            clear H
            try go_wp2
            have n0_ : zab ((((w11.setCell ⟨gb107, 0, none⟩ (.int .i64 ((zaa l0_0 x4_1).f0))).setCell ⟨gb107, 1, none⟩ (.int .i64 ((zaa l0_0 x4_1).f1))).setCell ⟨gb107, 2, none⟩ (.slice A106_2 ((zaa l0_0 x4_1).f2).length c106_2)).heap[gb105]? = some (.cells #[.slice (some ad106) l0_0.length c0_0] 24 (0, 0))) := ⟨by (with_reducible repeat (first | refine zah ?_ _ | refine zad ?_ | refine zaf ?_ _)); refine zal ?_ NB105_107.out _; (with_reducible repeat (first | refine zah ?_ _ | refine zad ?_ | refine zaf ?_ _)); refine zal ?_ NB105_107.out _; (with_reducible repeat (first | refine zah ?_ _ | refine zad ?_ | refine zaf ?_ _)); refine zal ?_ NB105_107.out _; (with_reducible repeat (first | refine zah ?_ _ | refine zad ?_ | refine zaf ?_ _)); exact BK105.out⟩
            have n1_ : zab ((((w11.setCell ⟨gb107, 0, none⟩ (.int .i64 ((zaa l0_0 x4_1).f0))).setCell ⟨gb107, 1, none⟩ (.int .i64 ((zaa l0_0 x4_1).f1))).setCell ⟨gb107, 2, none⟩ (.slice A106_2 ((zaa l0_0 x4_1).f2).length c106_2)).heap[gb107]? = some (.cells #[.int .i64 ((zaa l0_0 x4_1).f0), .int .i64 ((zaa l0_0 x4_1).f1), .slice A106_2 ((zaa l0_0 x4_1).f2).length c106_2] 38 (0, 0))) := ⟨by (with_reducible repeat (first | refine zah ?_ _ | refine zad ?_ | refine zaf ?_ _)); refine zat (cs := #[.int .i64 ((zaa l0_0 x4_1).f0), .int .i64 ((zaa l0_0 x4_1).f1), .slice none 0 0]) ?_ 2 _ rfl; (with_reducible repeat (first | refine zah ?_ _ | refine zad ?_ | refine zaf ?_ _)); refine zat (cs := #[.int .i64 ((zaa l0_0 x4_1).f0), .int .i64 0, .slice none 0 0]) ?_ 1 _ rfl; (with_reducible repeat (first | refine zah ?_ _ | refine zad ?_ | refine zaf ?_ _)); refine zat (cs := #[.int .i64 0, .int .i64 0, .slice none 0 0]) ?_ 0 _ rfl; (with_reducible repeat (first | refine zah ?_ _ | refine zad ?_ | refine zaf ?_ _)); exact BK107.out⟩
            have n2_ : zab (Below w.heap.size w (((w11.setCell ⟨gb107, 0, none⟩ (.int .i64 ((zaa l0_0 x4_1).f0))).setCell ⟨gb107, 1, none⟩ (.int .i64 ((zaa l0_0 x4_1).f1))).setCell ⟨gb107, 2, none⟩ (.slice A106_2 ((zaa l0_0 x4_1).f2).length c106_2))) := ⟨Yb_PGssMergesx2_1⟩
            (try clear BK105)
            (try clear BK107)
            (try clear HB)
            generalize (((w11.setCell ⟨gb107, 0, none⟩ (.int .i64 ((zaa l0_0 x4_1).f0))).setCell ⟨gb107, 1, none⟩ (.int .i64 ((zaa l0_0 x4_1).f1))).setCell ⟨gb107, 2, none⟩ (.slice A106_2 ((zaa l0_0 x4_1).f2).length c106_2)) = w26 at n0_ n1_ n2_ ⊢
            have BK105 := n0_;have BK107 := n1_;have HB := n2_;clear n0_ n1_ n2_
            replace BK105 := zab.mk (zad BK105.out)
            replace BK107 := zab.mk (zad BK107.out)
            replace HB := zab.mk (zav HB.out)
            refine zbh (n := 25) (S := fun w' => w'.cell? ⟨gb107, 0, none⟩ = some (.int .i64 ((zaa l0_0 x4_1).f0)) ∧ w'.cell? ⟨gb107, 1, none⟩ = some (.int .i64 ((zaa l0_0 x4_1).f1)) ∧ w'.cell? ⟨gb107, 2, none⟩ = some (.slice A106_2 ((zaa l0_0 x4_1).f2).length c106_2)) (ds := []) (Ymk 25 0) (by kernel_rfl) rfl rfl ⟨(zac BK107.out 0).trans rfl, (zac BK107.out 1).trans rfl, (zac BK107.out 2).trans rfl⟩ (fun hHeld => ?_); refine zbc zae.tab6 zae.zdo (fun HT_ HW_ => ?_)
            generalize w26.drew = w27 at BK105 BK107 HB hHeld ⊢
            refine Ypt 0 25 25 1 HT_ ?_
            refine Ytt 1 26 25 3 HT_ HW_ hHeld ?_
            refine Yot 2 27 25 7 HT_ (fun K hK => ?_)
            refine Ygs Try.func30 #[.int .i64 ((zaa l0_0 x4_1).f0)] ?_
            with_reducible refine (za8.calls ((zaa l0_0 x4_1).f0) true _ A14.out).mono ?_
            rintro e w' ⟨rfl, ⟨nd, rfl⟩⟩
            refine ⟨_, rfl, ?_⟩
            refine hK.out _ _ ⟨(zac BK107.out 0).trans rfl, (zac BK107.out 1).trans rfl, (zac BK107.out 2).trans rfl⟩ (fun hHeld => ?_)
            clear hK K
            refine Ynw 27 ?_
            refine Ypt 3 28 25 15 HT_ ?_
            refine Ypt 4 29 25 31 HT_ ?_
            refine Ypt 5 30 25 63 HT_ ?_
            refine Ytt 6 31 25 127 HT_ HW_ hHeld ?_
            refine Yot 7 32 25 255 HT_ (fun K hK => ?_)
            refine Ygs Try.func30 #[.int .i64 ((zaa l0_0 x4_1).f1)] ?_
            with_reducible refine (za8.calls ((zaa l0_0 x4_1).f1) true _ A16.out).mono ?_
            rintro e w' ⟨rfl, ⟨nd, rfl⟩⟩
            refine ⟨_, rfl, ?_⟩
            refine hK.out _ _ ⟨(zac BK107.out 0).trans rfl, (zac BK107.out 1).trans rfl, (zac BK107.out 2).trans rfl⟩ (fun hHeld => ?_)
            clear hK K
            refine Ynw 32 ?_
            refine Ypt 8 33 25 511 HT_ ?_
            refine Ypt 9 34 25 1023 HT_ ?_
            refine Ypt 10 35 25 2047 HT_ ?_
            refine Ypt 11 36 25 4095 HT_ ?_
            refine Ypt 12 37 25 8191 HT_ ?_
            refine Ypt 13 38 25 16383 HT_ ?_
            refine Ypu 14 39 25 32767 HT_ ?_
            refine Ypu 15 40 25 65535 HT_ ?_
            refine Ypu 16 41 25 131071 HT_ ?_
            refine Ypu 17 42 25 262143 HT_ ?_
            refine Ypu 18 43 25 524287 HT_ ?_
            refine Ypu 19 44 25 1048575 HT_ ?_
            refine Ypu 20 45 25 2097151 HT_ ?_
            refine Ypu 21 46 25 4194303 HT_ ?_
            refine Ypu 22 47 25 8388607 HT_ ?_
            refine Ypt 23 48 25 16777215 HT_ ?_
            refine Ypt 24 49 25 33554431 HT_ ?_
            refine zbn (zbk HT_.out (by kernel_rfl)) ?_
            try go_wp2
            go_meet
            case rel => exact ⟨_, (false), Yfs, H', ⟨by have := HK1.out; have := HJ3.out; first | omega | exact Nat.le_refl _⟩, ⟨Yg BK105⟩, ⟨Yg BK107⟩, ⟨Yb_PGssMergesx2_1⟩⟩
          ·replace c17 := Bool.eq_false_iff.mpr c17
           subst c17
           have H1 : (zae.j2 kj3 (l0_0.length : Int) x4_1 true l0_0 ((zaa l0_0 x4_1).f0) ((zaa l0_0 x4_1).f1) ((zaa l0_0 x4_1).f2)) = some r := by rw [if_neg (show ¬ (false = true) by decide)] at H; exact H
           clear H;have H := H1;clear H1
           have H' := zab.mk H
           clear H
           try go_wp2
           have n0_ : zab ((((w11.setCell ⟨gb107, 0, none⟩ (.int .i64 ((zaa l0_0 x4_1).f0))).setCell ⟨gb107, 1, none⟩ (.int .i64 ((zaa l0_0 x4_1).f1))).setCell ⟨gb107, 2, none⟩ (.slice A106_2 ((zaa l0_0 x4_1).f2).length c106_2)).heap[gb105]? = some (.cells #[.slice (some ad106) l0_0.length c0_0] 24 (0, 0))) := ⟨by (with_reducible repeat (first | refine zah ?_ _ | refine zad ?_ | refine zaf ?_ _)); refine zal ?_ NB105_107.out _; (with_reducible repeat (first | refine zah ?_ _ | refine zad ?_ | refine zaf ?_ _)); refine zal ?_ NB105_107.out _; (with_reducible repeat (first | refine zah ?_ _ | refine zad ?_ | refine zaf ?_ _)); refine zal ?_ NB105_107.out _; (with_reducible repeat (first | refine zah ?_ _ | refine zad ?_ | refine zaf ?_ _)); exact BK105.out⟩
           have n1_ : zab ((((w11.setCell ⟨gb107, 0, none⟩ (.int .i64 ((zaa l0_0 x4_1).f0))).setCell ⟨gb107, 1, none⟩ (.int .i64 ((zaa l0_0 x4_1).f1))).setCell ⟨gb107, 2, none⟩ (.slice A106_2 ((zaa l0_0 x4_1).f2).length c106_2)).heap[gb107]? = some (.cells #[.int .i64 ((zaa l0_0 x4_1).f0), .int .i64 ((zaa l0_0 x4_1).f1), .slice A106_2 ((zaa l0_0 x4_1).f2).length c106_2] 38 (0, 0))) := ⟨by (with_reducible repeat (first | refine zah ?_ _ | refine zad ?_ | refine zaf ?_ _)); refine zat (cs := #[.int .i64 ((zaa l0_0 x4_1).f0), .int .i64 ((zaa l0_0 x4_1).f1), .slice none 0 0]) ?_ 2 _ rfl; (with_reducible repeat (first | refine zah ?_ _ | refine zad ?_ | refine zaf ?_ _)); refine zat (cs := #[.int .i64 ((zaa l0_0 x4_1).f0), .int .i64 0, .slice none 0 0]) ?_ 1 _ rfl; (with_reducible repeat (first | refine zah ?_ _ | refine zad ?_ | refine zaf ?_ _)); refine zat (cs := #[.int .i64 0, .int .i64 0, .slice none 0 0]) ?_ 0 _ rfl; (with_reducible repeat (first | refine zah ?_ _ | refine zad ?_ | refine zaf ?_ _)); exact BK107.out⟩
           have n2_ : zab (Below w.heap.size w (((w11.setCell ⟨gb107, 0, none⟩ (.int .i64 ((zaa l0_0 x4_1).f0))).setCell ⟨gb107, 1, none⟩ (.int .i64 ((zaa l0_0 x4_1).f1))).setCell ⟨gb107, 2, none⟩ (.slice A106_2 ((zaa l0_0 x4_1).f2).length c106_2))) := ⟨Yb_PGssMergesx2_1⟩
           (try clear BK105)
           (try clear BK107)
           (try clear HB)
           generalize (((w11.setCell ⟨gb107, 0, none⟩ (.int .i64 ((zaa l0_0 x4_1).f0))).setCell ⟨gb107, 1, none⟩ (.int .i64 ((zaa l0_0 x4_1).f1))).setCell ⟨gb107, 2, none⟩ (.slice A106_2 ((zaa l0_0 x4_1).f2).length c106_2)) = w28 at n0_ n1_ n2_ ⊢
           have BK105 := n0_;have BK107 := n1_;have HB := n2_;clear n0_ n1_ n2_
           replace BK105 := zab.mk (zad BK105.out)
           replace BK107 := zab.mk (zad BK107.out)
           replace HB := zab.mk (zav HB.out)
           refine zbh (n := 25) (S := fun w' => w'.cell? ⟨gb107, 0, none⟩ = some (.int .i64 ((zaa l0_0 x4_1).f0)) ∧ w'.cell? ⟨gb107, 1, none⟩ = some (.int .i64 ((zaa l0_0 x4_1).f1)) ∧ w'.cell? ⟨gb107, 2, none⟩ = some (.slice A106_2 ((zaa l0_0 x4_1).f2).length c106_2)) (ds := []) (Ymk 25 0) (by kernel_rfl) rfl rfl ⟨(zac BK107.out 0).trans rfl, (zac BK107.out 1).trans rfl, (zac BK107.out 2).trans rfl⟩ (fun hHeld => ?_); refine zbc zae.tab6 zae.zdo (fun HT_ HW_ => ?_)
           generalize w28.drew = w29 at BK105 BK107 HB hHeld ⊢
           refine Ypt 0 25 25 1 HT_ ?_
           refine Ytt 1 26 25 3 HT_ HW_ hHeld ?_
           refine Yot 2 27 25 7 HT_ (fun K hK => ?_)
           refine Ygs Try.func30 #[.int .i64 ((zaa l0_0 x4_1).f0)] ?_
           with_reducible refine (za8.calls ((zaa l0_0 x4_1).f0) true _ A14.out).mono ?_
           rintro e w' ⟨rfl, ⟨nd, rfl⟩⟩
           refine ⟨_, rfl, ?_⟩
           refine hK.out _ _ ⟨(zac BK107.out 0).trans rfl, (zac BK107.out 1).trans rfl, (zac BK107.out 2).trans rfl⟩ (fun hHeld => ?_)
           clear hK K
           refine Ynw 27 ?_
           refine Ypt 3 28 25 15 HT_ ?_
           refine Ypt 4 29 25 31 HT_ ?_
           refine Ypt 5 30 25 63 HT_ ?_
           refine Ytt 6 31 25 127 HT_ HW_ hHeld ?_
           refine Yot 7 32 25 255 HT_ (fun K hK => ?_)
           refine Ygs Try.func30 #[.int .i64 ((zaa l0_0 x4_1).f1)] ?_
           with_reducible refine (za8.calls ((zaa l0_0 x4_1).f1) false _ A16.out).mono ?_
           rintro e w' ⟨rfl, ⟨nd, rfl⟩⟩
           refine ⟨_, rfl, ?_⟩
           refine hK.out _ _ ⟨(zac BK107.out 0).trans rfl, (zac BK107.out 1).trans rfl, (zac BK107.out 2).trans rfl⟩ (fun hHeld => ?_)
           clear hK K
           refine Ynw 32 ?_
           refine Ypt 8 33 25 511 HT_ ?_
           refine Ypt 9 34 25 1023 HT_ ?_
           refine Ypt 10 35 25 2047 HT_ ?_
           refine Ypu 11 36 25 4095 HT_ ?_
           refine Ypu 12 37 25 8191 HT_ ?_
           refine Ypu 13 38 25 16383 HT_ ?_
           refine Ypu 14 39 25 32767 HT_ ?_
           refine Ypu 15 40 25 65535 HT_ ?_
           refine Ypu 16 41 25 131071 HT_ ?_
           refine Ypu 17 42 25 262143 HT_ ?_
           refine Ypu 18 43 25 524287 HT_ ?_
           refine Ypu 19 44 25 1048575 HT_ ?_
           refine Ypu 20 45 25 2097151 HT_ ?_
           refine Ypu 21 46 25 4194303 HT_ ?_
           refine Ypu 22 47 25 8388607 HT_ ?_
           refine Ypu 23 48 25 16777215 HT_ ?_
           refine Ypt 24 49 25 33554431 HT_ ?_
           refine zbn (zbk HT_.out (by kernel_rfl)) ?_
           try go_wp2
           go_meet
           case rel => exact ⟨_, (true), Yfs, H', ⟨by have := HK1.out; have := HJ3.out; first | omega | exact Nat.le_refl _⟩, ⟨Yg BK105⟩, ⟨Yg BK107⟩, ⟨Yb_PGssMergesx2_1⟩⟩
         ·replace c15 := Bool.eq_false_iff.mpr c15
          subst c15
          have H1 : (zae.j2 kj3 (l0_0.length : Int) x4_1 true l0_0 ((zaa l0_0 x4_1).f0) ((zaa l0_0 x4_1).f1) ((zaa l0_0 x4_1).f2)) = some r := by rw [if_neg (show ¬ (false = true) by decide)] at H; exact H
          clear H;have H := H1;clear H1
          have H' := zab.mk H
          clear H
          try go_wp2
          have n0_ : zab ((((w11.setCell ⟨gb107, 0, none⟩ (.int .i64 ((zaa l0_0 x4_1).f0))).setCell ⟨gb107, 1, none⟩ (.int .i64 ((zaa l0_0 x4_1).f1))).setCell ⟨gb107, 2, none⟩ (.slice A106_2 ((zaa l0_0 x4_1).f2).length c106_2)).heap[gb105]? = some (.cells #[.slice (some ad106) l0_0.length c0_0] 24 (0, 0))) := ⟨by (with_reducible repeat (first | refine zah ?_ _ | refine zad ?_ | refine zaf ?_ _)); refine zal ?_ NB105_107.out _; (with_reducible repeat (first | refine zah ?_ _ | refine zad ?_ | refine zaf ?_ _)); refine zal ?_ NB105_107.out _; (with_reducible repeat (first | refine zah ?_ _ | refine zad ?_ | refine zaf ?_ _)); refine zal ?_ NB105_107.out _; (with_reducible repeat (first | refine zah ?_ _ | refine zad ?_ | refine zaf ?_ _)); exact BK105.out⟩
          have n1_ : zab ((((w11.setCell ⟨gb107, 0, none⟩ (.int .i64 ((zaa l0_0 x4_1).f0))).setCell ⟨gb107, 1, none⟩ (.int .i64 ((zaa l0_0 x4_1).f1))).setCell ⟨gb107, 2, none⟩ (.slice A106_2 ((zaa l0_0 x4_1).f2).length c106_2)).heap[gb107]? = some (.cells #[.int .i64 ((zaa l0_0 x4_1).f0), .int .i64 ((zaa l0_0 x4_1).f1), .slice A106_2 ((zaa l0_0 x4_1).f2).length c106_2] 38 (0, 0))) := ⟨by (with_reducible repeat (first | refine zah ?_ _ | refine zad ?_ | refine zaf ?_ _)); refine zat (cs := #[.int .i64 ((zaa l0_0 x4_1).f0), .int .i64 ((zaa l0_0 x4_1).f1), .slice none 0 0]) ?_ 2 _ rfl; (with_reducible repeat (first | refine zah ?_ _ | refine zad ?_ | refine zaf ?_ _)); refine zat (cs := #[.int .i64 ((zaa l0_0 x4_1).f0), .int .i64 0, .slice none 0 0]) ?_ 1 _ rfl; (with_reducible repeat (first | refine zah ?_ _ | refine zad ?_ | refine zaf ?_ _)); refine zat (cs := #[.int .i64 0, .int .i64 0, .slice none 0 0]) ?_ 0 _ rfl; (with_reducible repeat (first | refine zah ?_ _ | refine zad ?_ | refine zaf ?_ _)); exact BK107.out⟩
          have n2_ : zab (Below w.heap.size w (((w11.setCell ⟨gb107, 0, none⟩ (.int .i64 ((zaa l0_0 x4_1).f0))).setCell ⟨gb107, 1, none⟩ (.int .i64 ((zaa l0_0 x4_1).f1))).setCell ⟨gb107, 2, none⟩ (.slice A106_2 ((zaa l0_0 x4_1).f2).length c106_2))) := ⟨Yb_PGssMergesx2_1⟩
          (try clear BK105)
          (try clear BK107)
          (try clear HB)
          generalize (((w11.setCell ⟨gb107, 0, none⟩ (.int .i64 ((zaa l0_0 x4_1).f0))).setCell ⟨gb107, 1, none⟩ (.int .i64 ((zaa l0_0 x4_1).f1))).setCell ⟨gb107, 2, none⟩ (.slice A106_2 ((zaa l0_0 x4_1).f2).length c106_2)) = w30 at n0_ n1_ n2_ ⊢
          have BK105 := n0_;have BK107 := n1_;have HB := n2_;clear n0_ n1_ n2_
          replace BK105 := zab.mk (zad BK105.out)
          replace BK107 := zab.mk (zad BK107.out)
          replace HB := zab.mk (zav HB.out)
          refine zbh (n := 25) (S := fun w' => w'.cell? ⟨gb107, 0, none⟩ = some (.int .i64 ((zaa l0_0 x4_1).f0)) ∧ w'.cell? ⟨gb107, 1, none⟩ = some (.int .i64 ((zaa l0_0 x4_1).f1)) ∧ w'.cell? ⟨gb107, 2, none⟩ = some (.slice A106_2 ((zaa l0_0 x4_1).f2).length c106_2)) (ds := []) (Ymk 25 0) (by kernel_rfl) rfl rfl ⟨(zac BK107.out 0).trans rfl, (zac BK107.out 1).trans rfl, (zac BK107.out 2).trans rfl⟩ (fun hHeld => ?_); refine zbc zae.tab6 zae.zdo (fun HT_ HW_ => ?_)
          generalize w30.drew = w31 at BK105 BK107 HB hHeld ⊢
          refine Ypt 0 25 25 1 HT_ ?_
          refine Ytt 1 26 25 3 HT_ HW_ hHeld ?_
          refine Yot 2 27 25 7 HT_ (fun K hK => ?_)
          refine Ygs Try.func30 #[.int .i64 ((zaa l0_0 x4_1).f0)] ?_
          with_reducible refine (za8.calls ((zaa l0_0 x4_1).f0) false _ A14.out).mono ?_
          rintro e w' ⟨rfl, ⟨nd, rfl⟩⟩
          refine ⟨_, rfl, ?_⟩
          refine hK.out _ _ ⟨(zac BK107.out 0).trans rfl, (zac BK107.out 1).trans rfl, (zac BK107.out 2).trans rfl⟩ (fun hHeld => ?_)
          clear hK K
          refine Ynw 27 ?_
          refine Ypt 3 28 25 15 HT_ ?_
          refine Ypt 4 29 25 31 HT_ ?_
          refine Ypu 5 30 25 63 HT_ ?_
          refine Ypu 6 31 25 127 HT_ ?_
          refine Ypu 7 32 25 255 HT_ ?_
          refine Ypu 8 33 25 511 HT_ ?_
          refine Ypt 9 34 25 1023 HT_ ?_
          refine Ypt 10 35 25 2047 HT_ ?_
          refine Ypu 11 36 25 4095 HT_ ?_
          refine Ypu 12 37 25 8191 HT_ ?_
          refine Ypu 13 38 25 16383 HT_ ?_
          refine Ypu 14 39 25 32767 HT_ ?_
          refine Ypu 15 40 25 65535 HT_ ?_
          refine Ypu 16 41 25 131071 HT_ ?_
          refine Ypu 17 42 25 262143 HT_ ?_
          refine Ypu 18 43 25 524287 HT_ ?_
          refine Ypu 19 44 25 1048575 HT_ ?_
          refine Ypu 20 45 25 2097151 HT_ ?_
          refine Ypu 21 46 25 4194303 HT_ ?_
          refine Ypu 22 47 25 8388607 HT_ ?_
          refine Ypu 23 48 25 16777215 HT_ ?_
          refine Ypt 24 49 25 33554431 HT_ ?_
          refine zbn (zbk HT_.out (by kernel_rfl)) ?_
          try go_wp2
          go_meet
          case rel => exact ⟨_, (true), Yfs, H', ⟨by have := HK1.out; have := HJ3.out; first | omega | exact Nat.le_refl _⟩, ⟨Yg BK105⟩, ⟨Yg BK107⟩, ⟨Yb_PGssMergesx2_1⟩⟩
        case rest =>
         clear HC9
         obtain ⟨kq, x49_8, rfl, HA, HJ8, BK105, BK107, HB⟩ := hcut
         cases kq with
         | zero => exact absurd HA.out (by simp [zae.j2])
         | succ kj8 =>
          have H := HA.out;clear HA
          simp only [zae.j2] at H
          by_cases c32 : x49_8 = true
          ·subst c32
           have H1 : (some false) = some r := by rw [if_pos rfl] at H; exact H
           clear H;have H := H1;clear H1;obtain rfl := Option.some.inj H;go_wp2;go_ret
           exact ⟨Yfi, Yb_PGssMergesx2_1⟩
          ·replace c32 := Bool.eq_false_iff.mpr c32
           subst c32
           have H1 : (zae.l1 kj8 (l0_0.length : Int) x4_1 0 l0_0 ((zaa l0_0 x4_1).f0) ((zaa l0_0 x4_1).f1) ((zaa l0_0 x4_1).f2)) = some r := by rw [if_neg (show ¬ (false = true) by decide)] at H; exact H
           clear H;have H := H1;clear H1
           have H' := zab.mk H
           clear H;go_wp2
           go_loopg [6] kj8 (fun kq v6 w' => ∃ (x6_4 : Int), v6 = .int .i64 x6_4 ∧ zab (zae.l1 kq (l0_0.length : Int) x4_1 x6_4 l0_0 ((zaa l0_0 x4_1).f0) ((zaa l0_0 x4_1).f1) ((zaa l0_0 x4_1).f2) = some r) ∧ zab (kq ≤ kj8) ∧ zab (w'.heap[gb105]? = some (.cells #[(.slice (some ad106) l0_0.length c0_0)] 24 (0, 0))) ∧ zab (w'.heap[gb107]? = some (.cells #[.int .i64 ((zaa l0_0 x4_1).f0), .int .i64 ((zaa l0_0 x4_1).f1), (.slice A106_2 ((zaa l0_0 x4_1).f2).length c106_2)] 38 (0, 0))) ∧ zab (Below w.heap.size w w'))
           case atStart => exact ⟨(0), Yfs, H', ⟨Nat.le_refl _⟩, ⟨Yg BK105⟩, ⟨Yg BK107⟩, ⟨Yb_PGssMergesx2_1⟩⟩
           case round =>
            clear H'
            obtain ⟨x6_4, rfl, HA, HK4, BK105, BK107, HB⟩ := hrel
            cases gk with
            | zero => exact absurd HA.out (by simp [zae.l1])
            | succ k4 =>
             have H := HA.out;clear HA
             simp only [zae.l1] at H
             by_cases c33 : x6_4 < (((zaa l0_0 x4_1).f2).length : Int)
             ·rw [if_pos c33] at H
              have c33b0 := decide_eq_true c33
              clear c33
              by_cases c34 : 0 ≤ x6_4
              ·rw [if_pos c34] at H
               have c34b0 := decide_eq_true c34
               clear c34
               by_cases c35 : (rd ((zaa l0_0 x4_1).f2) x6_4) < 0
               ·rw [if_pos c35] at H
                have c35b0 := decide_eq_true c35
                clear c35;obtain rfl := Option.some.inj H
                have hnb36 := NB107_105.out
                have hnc36 := NB105_107.out
                obtain ⟨hcz37_0, hfz37_0, hcz37_1, hfz37_1, hcz37_2, hfz37_2⟩ := Yc3 BK107.out
                have p112 : 0 ≤ (x6_4 : Int) := Yod
                have q112 : x6_4 < (((zaa l0_0 x4_1).f2).length : Int) := Yod
                obtain ⟨ad112, e112, hx112_0⟩ := Kd.zbw HR106_2.out x6_4 p112 q112
                cases e112
                replace hx112_0 := zaj HB.out hx112_0
                replace p112 := eq_true p112
                replace q112 := eq_true q112
                try go_wp2
                replace BK105 := zab.mk (zad BK105.out)
                replace BK107 := zab.mk (zad BK107.out)
                replace HB := zab.mk (zav HB.out)
                refine zbh (n := 32) (S := fun w' => True) (ds := []) (Ymk 32 0) (by kernel_rfl) rfl rfl trivial (fun hHeld => ?_); refine zbc zae.zdb zae.zcx (fun HT_ HW_ => ?_)
                generalize wr.drew = w38 at BK105 BK107 HB hHeld ⊢
                refine Ypt 0 62 32 1 HT_ ?_
                refine Ypt 1 63 32 3 HT_ ?_
                refine Ypt 2 64 32 7 HT_ ?_
                refine Ypu 3 65 32 15 HT_ ?_
                refine Ypu 4 66 32 31 HT_ ?_
                refine Ypu 5 67 32 63 HT_ ?_
                refine Ypt 6 68 32 127 HT_ ?_
                refine Ypt 7 69 32 255 HT_ ?_
                refine Ypu 8 70 32 511 HT_ ?_
                refine Ypu 9 71 32 1023 HT_ ?_
                refine Ypu 10 72 32 2047 HT_ ?_
                refine Ypu 11 73 32 4095 HT_ ?_
                refine Ypu 12 74 32 8191 HT_ ?_
                refine Ypu 13 75 32 16383 HT_ ?_
                refine Ypu 14 76 32 32767 HT_ ?_
                refine Ypu 15 77 32 65535 HT_ ?_
                refine Ypu 16 78 32 131071 HT_ ?_
                refine Ypt 17 79 32 262143 HT_ ?_
                refine Ypt 18 80 32 524287 HT_ ?_
                refine Ypu 19 81 32 1048575 HT_ ?_
                refine Ypu 20 82 32 2097151 HT_ ?_
                refine Ypu 21 83 32 4194303 HT_ ?_
                refine Ypu 22 84 32 8388607 HT_ ?_
                refine Ypu 23 85 32 16777215 HT_ ?_
                refine Ypu 24 86 32 33554431 HT_ ?_
                refine Ypu 25 87 32 67108863 HT_ ?_
                refine Ypu 26 88 32 134217727 HT_ ?_
                refine Ypu 27 89 32 268435455 HT_ ?_
                refine Ypu 28 90 32 536870911 HT_ ?_
                refine Ypu 29 91 32 1073741823 HT_ ?_
                refine Ypu 30 92 32 2147483647 HT_ ?_
                refine Ypt 31 93 32 4294967295 HT_ ?_
                refine zbn (zbk HT_.out (by kernel_rfl)) ?_
                try go_wp2
                go_ret
                exact ⟨Yfi, Yb_PGssMergesx2_1⟩
               ·rw [if_neg c35] at H
                have c35b0 := decide_eq_false c35
                clear c35
                by_cases c39 : (rd ((zaa l0_0 x4_1).f2) x6_4) ≥ (l0_0.length : Int)
                ·rw [if_pos c39] at H
                 have c39b0 := decide_eq_true c39
                 clear c39;obtain rfl := Option.some.inj H
                 have hnb40 := NB107_105.out
                 have hnc40 := NB105_107.out
                 obtain ⟨hcz41_0, hfz41_0, hcz41_1, hfz41_1, hcz41_2, hfz41_2⟩ := Yc3 BK107.out
                 have p112 : 0 ≤ (x6_4 : Int) := Yod
                 have q112 : x6_4 < (((zaa l0_0 x4_1).f2).length : Int) := Yod
                 obtain ⟨ad112, e112, hx112_0⟩ := Kd.zbw HR106_2.out x6_4 p112 q112
                 cases e112
                 replace hx112_0 := zaj HB.out hx112_0
                 replace p112 := eq_true p112
                 replace q112 := eq_true q112
                 try go_wp2
                 replace BK105 := zab.mk (zad BK105.out)
                 replace BK107 := zab.mk (zad BK107.out)
                 replace HB := zab.mk (zav HB.out)
                 refine zbh (n := 32) (S := fun w' => True) (ds := []) (Ymk 32 0) (by kernel_rfl) rfl rfl trivial (fun hHeld => ?_); refine zbc zae.zdb zae.zcx (fun HT_ HW_ => ?_)
                 generalize wr.drew = w42 at BK105 BK107 HB hHeld ⊢
                 refine Ypt 0 62 32 1 HT_ ?_
                 refine Ypt 1 63 32 3 HT_ ?_
                 refine Ypt 2 64 32 7 HT_ ?_
                 refine Ypt 3 65 32 15 HT_ ?_
                 refine Ypt 4 66 32 31 HT_ ?_
                 refine Ypt 5 67 32 63 HT_ ?_
                 refine Ypt 6 68 32 127 HT_ ?_
                 refine Ypt 7 69 32 255 HT_ ?_
                 refine Ypu 8 70 32 511 HT_ ?_
                 refine Ypu 9 71 32 1023 HT_ ?_
                 refine Ypu 10 72 32 2047 HT_ ?_
                 refine Ypu 11 73 32 4095 HT_ ?_
                 refine Ypu 12 74 32 8191 HT_ ?_
                 refine Ypu 13 75 32 16383 HT_ ?_
                 refine Ypu 14 76 32 32767 HT_ ?_
                 refine Ypu 15 77 32 65535 HT_ ?_
                 refine Ypu 16 78 32 131071 HT_ ?_
                 refine Ypt 17 79 32 262143 HT_ ?_
                 refine Ypt 18 80 32 524287 HT_ ?_
                 refine Ypu 19 81 32 1048575 HT_ ?_
                 refine Ypu 20 82 32 2097151 HT_ ?_
                 refine Ypu 21 83 32 4194303 HT_ ?_
                 refine Ypu 22 84 32 8388607 HT_ ?_
                 refine Ypu 23 85 32 16777215 HT_ ?_
                 refine Ypu 24 86 32 33554431 HT_ ?_
                 refine Ypu 25 87 32 67108863 HT_ ?_
                 refine Ypu 26 88 32 134217727 HT_ ?_
                 refine Ypu 27 89 32 268435455 HT_ ?_
                 refine Ypu 28 90 32 536870911 HT_ ?_
                 refine Ypu 29 91 32 1073741823 HT_ ?_
                 refine Ypu 30 92 32 2147483647 HT_ ?_
                 refine Ypt 31 93 32 4294967295 HT_ ?_
                 refine zbn (zbk HT_.out (by kernel_rfl)) ?_
                 try go_wp2
                 go_ret
                 exact ⟨Yfi, Yb_PGssMergesx2_1⟩
                ·rw [if_neg c39] at H
                 have c39b0 := decide_eq_false c39
                 clear c39
                 by_cases c43 : 0 ≤ (rd ((zaa l0_0 x4_1).f2) x6_4)
                 ·rw [if_pos c43] at H
                  have c43b0 := decide_eq_true c43
                  clear c43
                  by_cases c44 : (rd ((zaa l0_0 x4_1).f2) x6_4) < (l0_0.length : Int)
                  ·rw [if_pos c44] at H
                   have c44b0 := decide_eq_true c44
                   clear c44
                   by_cases c45 : ((zaa l0_0 (rd ((zaa l0_0 x4_1).f2) x6_4)).f1) > ((zaa l0_0 x4_1).f1)
                   ·rw [if_pos c45] at H
                    have c45b0 := decide_eq_true c45
                    clear c45;obtain rfl := Option.some.inj H
                    have hnb46 := NB107_105.out
                    have hnc46 := NB105_107.out
                    obtain ⟨hcz47_0, hfz47_0, hcz47_1, hfz47_1, hcz47_2, hfz47_2⟩ := Yc3 BK107.out
                    have p112 : 0 ≤ (x6_4 : Int) := Yod
                    have q112 : x6_4 < (((zaa l0_0 x4_1).f2).length : Int) := Yod
                    obtain ⟨ad112, e112, hx112_0⟩ := Kd.zbw HR106_2.out x6_4 p112 q112
                    cases e112
                    replace hx112_0 := zaj HB.out hx112_0
                    replace p112 := eq_true p112
                    replace q112 := eq_true q112
                    try go_wp2
                    replace BK105 := zab.mk (zad BK105.out)
                    replace BK107 := zab.mk (zad BK107.out)
                    replace HB := zab.mk (zav HB.out)
                    have p113 : 0 ≤ ((rd ((zaa l0_0 x4_1).f2) x6_4) : Int) := Yod
                    have q113 : (rd ((zaa l0_0 x4_1).f2) x6_4) < (l0_0.length : Int) := Yod
                    obtain ⟨ad113, A113_2, c113_2, e113, hx113_0, hx113_1, hx113_2, hl113_2, hi113_2⟩ := zb3 HR0_0.out (rd ((zaa l0_0 x4_1).f2) x6_4) p113 q113
                    have hw113_2 := hx113_2;have hw113_1 := hx113_1;have hw113_0 := hx113_0
                    obtain rfl : ad106 = ad113 := (by injection e113)
                    replace hx113_0 := zaj HB.out hx113_0
                    replace hx113_1 := zaj HB.out hx113_1
                    replace hx113_2 := zaj HB.out hx113_2
                    have HR113_2 := zab.mk hi113_2;have HC113_2 := zab.mk hl113_2;clear hi113_2 hl113_2
                    replace p113 := eq_true p113
                    replace q113 := eq_true q113
                    refine zbh (n := 32) (S := fun w' => w'.cell? ⟨gb105, 0, none⟩ = some (.slice (some ad106) l0_0.length c0_0) ∧ w'.cell? ⟨gb107, 0, none⟩ = some (.int .i64 ((zaa l0_0 x4_1).f0)) ∧ w'.cell? ⟨gb107, 1, none⟩ = some (.int .i64 ((zaa l0_0 x4_1).f1)) ∧ w'.cell? ⟨gb107, 2, none⟩ = some (.slice (some ad112) ((zaa l0_0 x4_1).f2).length c106_2) ∧ w'.cell? (ad106.add (((rd ((zaa l0_0 x4_1).f2) x6_4)).toNat * 3)) = some (.int .i64 ((zaa l0_0 (rd ((zaa l0_0 x4_1).f2) x6_4)).f0)) ∧ w'.cell? ⟨(ad106.add (((rd ((zaa l0_0 x4_1).f2) x6_4)).toNat * 3)).block, (ad106.add (((rd ((zaa l0_0 x4_1).f2) x6_4)).toNat * 3)).off + 1, none⟩ = some (.int .i64 ((zaa l0_0 (rd ((zaa l0_0 x4_1).f2) x6_4)).f1)) ∧ w'.cell? ⟨(ad106.add (((rd ((zaa l0_0 x4_1).f2) x6_4)).toNat * 3)).block, (ad106.add (((rd ((zaa l0_0 x4_1).f2) x6_4)).toNat * 3)).off + 2, none⟩ = some (.slice A113_2 ((zaa l0_0 (rd ((zaa l0_0 x4_1).f2) x6_4)).f2).length c113_2)) (ds := []) (Ymk 32 0) (by kernel_rfl) rfl rfl ⟨(zac BK105.out 0).trans rfl, (zac BK107.out 0).trans rfl, (zac BK107.out 1).trans rfl, (zac BK107.out 2).trans rfl, ((HB.out.cell (World.block_lt_of_cell? w _ hw113_0)).trans hw113_0), ((HB.out.cell (World.block_lt_of_cell? w _ hw113_1)).trans hw113_1), ((HB.out.cell (World.block_lt_of_cell? w _ hw113_2)).trans hw113_2)⟩ (fun hHeld => ?_); refine zbc zae.zdb zae.zcx (fun HT_ HW_ => ?_)
                    generalize wr.drew = w48 at BK105 BK107 HB HR113_2 hx113_0 hx113_1 hx113_2 hHeld ⊢
                    refine Ypt 0 62 32 1 HT_ ?_
                    refine Ypt 1 63 32 3 HT_ ?_
                    refine Ypt 2 64 32 7 HT_ ?_
                    refine Ypt 3 65 32 15 HT_ ?_
                    refine Ypt 4 66 32 31 HT_ ?_
                    refine Ypt 5 67 32 63 HT_ ?_
                    refine Ypt 6 68 32 127 HT_ ?_
                    refine Ypt 7 69 32 255 HT_ ?_
                    refine Ypt 8 70 32 511 HT_ ?_
                    refine Ypt 10 72 32 1535 HT_ ?_
                    refine Ypt 14 76 32 17919 HT_ ?_
                    refine Ytt 9 71 32 18431 HT_ HW_ hHeld ?_
                    refine Ypt 11 73 32 20479 HT_ ?_
                    refine Ypt 12 74 32 24575 HT_ ?_
                    refine Ytt 13 75 32 32767 HT_ HW_ hHeld ?_
                    refine Ytt 15 77 32 65535 HT_ HW_ hHeld ?_
                    refine Ypt 16 78 32 131071 HT_ ?_
                    refine Ypt 17 79 32 262143 HT_ ?_
                    refine Ypt 18 80 32 524287 HT_ ?_
                    refine Ypu 19 81 32 1048575 HT_ ?_
                    refine Ypu 20 82 32 2097151 HT_ ?_
                    refine Ypu 21 83 32 4194303 HT_ ?_
                    refine Ypu 22 84 32 8388607 HT_ ?_
                    refine Ypu 23 85 32 16777215 HT_ ?_
                    refine Ypu 24 86 32 33554431 HT_ ?_
                    refine Ypu 25 87 32 67108863 HT_ ?_
                    refine Ypu 26 88 32 134217727 HT_ ?_
                    refine Ypu 27 89 32 268435455 HT_ ?_
                    refine Ypu 28 90 32 536870911 HT_ ?_
                    refine Ypu 29 91 32 1073741823 HT_ ?_
                    refine Ypu 30 92 32 2147483647 HT_ ?_
                    refine Ypt 31 93 32 4294967295 HT_ ?_
                    refine zbn (zbk HT_.out (by kernel_rfl)) ?_
                    try go_wp2
                    go_ret
                    exact ⟨Yfi, Yb_PGssMergesx2_1⟩
                   ·rw [if_neg c45] at H
                    have c45b0 := decide_eq_false c45
                    clear c45
                    by_cases c49 : x6_4 > 0
                    ·rw [if_pos c49] at H
                     have c49b0 := decide_eq_true c49
                     clear c49
                     obtain ⟨ji50, hji50⟩ : ∃ j_ : Int, (wrap64 (x6_4 - 1)) = j_ := ⟨_, rfl⟩
                     replace H : (if 0 ≤ (ji50) then (if (ji50) < (((zaa l0_0 x4_1).f2).length : Int) then (if (rd ((zaa l0_0 x4_1).f2) (ji50)) ≥ (rd ((zaa l0_0 x4_1).f2) x6_4) then (some false) else (zae.l1 k4 (l0_0.length : Int) x4_1 (wrap64 (x6_4 + 1)) l0_0 ((zaa l0_0 x4_1).f0) ((zaa l0_0 x4_1).f1) ((zaa l0_0 x4_1).f2))) else (none)) else (none)) = some r := by first | (rw [hji50] at H; exact H) | (simp only [hji50] at H ⊢; exact H)
                     have hji50w : (IntKind.i64.wrap (x6_4 - 1)) = ji50 := (zcm _).trans hji50
                     by_cases c51 : 0 ≤ (ji50)
                     ·rw [if_pos c51] at H
                      have c51b0 := decide_eq_true c51
                      clear c51
                      by_cases c52 : (ji50) < (((zaa l0_0 x4_1).f2).length : Int)
                      ·rw [if_pos c52] at H
                       have c52b0 := decide_eq_true c52
                       clear c52
                       by_cases c53 : (rd ((zaa l0_0 x4_1).f2) (ji50)) ≥ (rd ((zaa l0_0 x4_1).f2) x6_4)
                       ·rw [if_pos c53] at H
                        have c53b0 := decide_eq_true c53
                        clear c53;obtain rfl := Option.some.inj H
                        have hnb54 := NB107_105.out
                        have hnc54 := NB105_107.out
                        obtain ⟨hcz55_0, hfz55_0, hcz55_1, hfz55_1, hcz55_2, hfz55_2⟩ := Yc3 BK107.out
                        have p112 : 0 ≤ (x6_4 : Int) := Yod
                        have q112 : x6_4 < (((zaa l0_0 x4_1).f2).length : Int) := Yod
                        obtain ⟨ad112, e112, hx112_0⟩ := Kd.zbw HR106_2.out x6_4 p112 q112
                        cases e112
                        replace hx112_0 := zaj HB.out hx112_0
                        replace p112 := eq_true p112
                        replace q112 := eq_true q112
                        try go_wp2
                        replace BK105 := zab.mk (zad BK105.out)
                        replace BK107 := zab.mk (zad BK107.out)
                        replace HB := zab.mk (zav HB.out)
                        have p113 : 0 ≤ ((rd ((zaa l0_0 x4_1).f2) x6_4) : Int) := Yod
                        have q113 : (rd ((zaa l0_0 x4_1).f2) x6_4) < (l0_0.length : Int) := Yod
                        obtain ⟨ad113, A113_2, c113_2, e113, hx113_0, hx113_1, hx113_2, hl113_2, hi113_2⟩ := zb3 HR0_0.out (rd ((zaa l0_0 x4_1).f2) x6_4) p113 q113
                        have hw113_2 := hx113_2;have hw113_1 := hx113_1;have hw113_0 := hx113_0
                        obtain rfl : ad106 = ad113 := (by injection e113)
                        replace hx113_0 := zaj HB.out hx113_0
                        replace hx113_1 := zaj HB.out hx113_1
                        replace hx113_2 := zaj HB.out hx113_2
                        have HR113_2 := zab.mk hi113_2;have HC113_2 := zab.mk hl113_2;clear hi113_2 hl113_2
                        replace p113 := eq_true p113
                        replace q113 := eq_true q113
                        have p114 : 0 ≤ ((ji50) : Int) := Yod
                        have q114 : (ji50) < (((zaa l0_0 x4_1).f2).length : Int) := Yod
                        obtain ⟨ad114, e114, hx114_0⟩ := Kd.zbw HR106_2.out (ji50) p114 q114
                        have hw114_0 := hx114_0
                        obtain rfl : ad112 = ad114 := (by injection e114)
                        replace hx114_0 := zaj HB.out hx114_0
                        replace p114 := eq_true p114
                        replace q114 := eq_true q114
                        refine zbh (n := 32) (S := fun w' => w'.cell? ⟨gb105, 0, none⟩ = some (.slice (some ad106) l0_0.length c0_0) ∧ w'.cell? ⟨gb107, 0, none⟩ = some (.int .i64 ((zaa l0_0 x4_1).f0)) ∧ w'.cell? ⟨gb107, 1, none⟩ = some (.int .i64 ((zaa l0_0 x4_1).f1)) ∧ w'.cell? ⟨gb107, 2, none⟩ = some (.slice (some ad112) ((zaa l0_0 x4_1).f2).length c106_2) ∧ w'.cell? (ad106.add (((rd ((zaa l0_0 x4_1).f2) x6_4)).toNat * 3)) = some (.int .i64 ((zaa l0_0 (rd ((zaa l0_0 x4_1).f2) x6_4)).f0)) ∧ w'.cell? ⟨(ad106.add (((rd ((zaa l0_0 x4_1).f2) x6_4)).toNat * 3)).block, (ad106.add (((rd ((zaa l0_0 x4_1).f2) x6_4)).toNat * 3)).off + 1, none⟩ = some (.int .i64 ((zaa l0_0 (rd ((zaa l0_0 x4_1).f2) x6_4)).f1)) ∧ w'.cell? ⟨(ad106.add (((rd ((zaa l0_0 x4_1).f2) x6_4)).toNat * 3)).block, (ad106.add (((rd ((zaa l0_0 x4_1).f2) x6_4)).toNat * 3)).off + 2, none⟩ = some (.slice A113_2 ((zaa l0_0 (rd ((zaa l0_0 x4_1).f2) x6_4)).f2).length c113_2) ∧ w'.cell? (ad112.add ((ji50)).toNat) = some (.int .i64 (rd ((zaa l0_0 x4_1).f2) (ji50)))) (ds := []) (Ymk 32 0) (by kernel_rfl) rfl rfl ⟨(zac BK105.out 0).trans rfl, (zac BK107.out 0).trans rfl, (zac BK107.out 1).trans rfl, (zac BK107.out 2).trans rfl, ((HB.out.cell (World.block_lt_of_cell? w _ hw113_0)).trans hw113_0), ((HB.out.cell (World.block_lt_of_cell? w _ hw113_1)).trans hw113_1), ((HB.out.cell (World.block_lt_of_cell? w _ hw113_2)).trans hw113_2), ((HB.out.cell (World.block_lt_of_cell? w _ hw114_0)).trans hw114_0)⟩ (fun hHeld => ?_); refine zbc zae.zdb zae.zcx (fun HT_ HW_ => ?_)
                        generalize wr.drew = w56 at BK105 BK107 HB HR113_2 hx113_0 hx113_1 hx113_2 hx114_0 hHeld ⊢
                        refine Ypt 0 62 32 1 HT_ ?_
                        refine Ypt 1 63 32 3 HT_ ?_
                        refine Ypt 2 64 32 7 HT_ ?_
                        refine Ypt 3 65 32 15 HT_ ?_
                        refine Ypt 4 66 32 31 HT_ ?_
                        refine Ypt 5 67 32 63 HT_ ?_
                        refine Ypt 6 68 32 127 HT_ ?_
                        refine Ypt 7 69 32 255 HT_ ?_
                        refine Ypt 8 70 32 511 HT_ ?_
                        refine Ypt 10 72 32 1535 HT_ ?_
                        refine Ypt 14 76 32 17919 HT_ ?_
                        refine Ytt 9 71 32 18431 HT_ HW_ hHeld ?_
                        refine Ypt 11 73 32 20479 HT_ ?_
                        refine Ypt 12 74 32 24575 HT_ ?_
                        refine Ytt 13 75 32 32767 HT_ HW_ hHeld ?_
                        refine Ytt 15 77 32 65535 HT_ HW_ hHeld ?_
                        refine Ypt 16 78 32 131071 HT_ ?_
                        refine Ypt 17 79 32 262143 HT_ ?_
                        refine Ypt 18 80 32 524287 HT_ ?_
                        refine Ypt 19 81 32 1048575 HT_ ?_
                        refine Ypt 20 82 32 2097151 HT_ ?_
                        refine Ypt 21 83 32 4194303 HT_ ?_
                        refine Ypt 22 84 32 8388607 HT_ ?_
                        refine Ypt 24 86 32 25165823 HT_ ?_
                        refine Ypt 25 87 32 58720255 HT_ ?_
                        refine Ypt 28 90 32 327155711 HT_ ?_
                        refine Ytt 23 85 32 335544319 HT_ HW_ hHeld ?_
                        refine Ypt 26 88 32 402653183 HT_ ?_
                        refine Ytt 27 89 32 536870911 HT_ HW_ hHeld ?_
                        refine Ypt 29 91 32 1073741823 HT_ ?_
                        refine Ypt 30 92 32 2147483647 HT_ ?_
                        refine Ypt 31 93 32 4294967295 HT_ ?_
                        refine zbn (zbk HT_.out (by kernel_rfl)) ?_
                        try go_wp2
                        go_ret
                        exact ⟨by first | rfl | (simp [errW_none, errW_some] <;> rfl) | (simp only [← hji50]; first | rfl | (simp [errW_none, errW_some] <;> rfl)) | (simp [*, errW_none, errW_some] <;> rfl), Yb_PGssMergesx2_1⟩
                       ·rw [if_neg c53] at H
                        have c53b0 := decide_eq_false c53
                        clear c53
                        have H' := zab.mk H
                        clear H
                        have hnb57 := NB107_105.out
                        have hnc57 := NB105_107.out
                        obtain ⟨hcz58_0, hfz58_0, hcz58_1, hfz58_1, hcz58_2, hfz58_2⟩ := Yc3 BK107.out
                        have p112 : 0 ≤ (x6_4 : Int) := Yod
                        have q112 : x6_4 < (((zaa l0_0 x4_1).f2).length : Int) := Yod
                        obtain ⟨ad112, e112, hx112_0⟩ := Kd.zbw HR106_2.out x6_4 p112 q112
                        cases e112
                        replace hx112_0 := zaj HB.out hx112_0
                        replace p112 := eq_true p112
                        replace q112 := eq_true q112
                        try go_wp2
                        replace BK105 := zab.mk (zad BK105.out)
                        replace BK107 := zab.mk (zad BK107.out)
                        replace HB := zab.mk (zav HB.out)
                        have p113 : 0 ≤ ((rd ((zaa l0_0 x4_1).f2) x6_4) : Int) := Yod
                        have q113 : (rd ((zaa l0_0 x4_1).f2) x6_4) < (l0_0.length : Int) := Yod
                        obtain ⟨ad113, A113_2, c113_2, e113, hx113_0, hx113_1, hx113_2, hl113_2, hi113_2⟩ := zb3 HR0_0.out (rd ((zaa l0_0 x4_1).f2) x6_4) p113 q113
                        have hw113_2 := hx113_2;have hw113_1 := hx113_1;have hw113_0 := hx113_0
                        obtain rfl : ad106 = ad113 := (by injection e113)
                        replace hx113_0 := zaj HB.out hx113_0
                        replace hx113_1 := zaj HB.out hx113_1
                        replace hx113_2 := zaj HB.out hx113_2
                        have HR113_2 := zab.mk hi113_2;have HC113_2 := zab.mk hl113_2;clear hi113_2 hl113_2
                        replace p113 := eq_true p113
                        replace q113 := eq_true q113
                        have p114 : 0 ≤ ((ji50) : Int) := Yod
                        have q114 : (ji50) < (((zaa l0_0 x4_1).f2).length : Int) := Yod
                        obtain ⟨ad114, e114, hx114_0⟩ := Kd.zbw HR106_2.out (ji50) p114 q114
                        have hw114_0 := hx114_0
                        obtain rfl : ad112 = ad114 := (by injection e114)
                        replace hx114_0 := zaj HB.out hx114_0
                        replace p114 := eq_true p114
                        replace q114 := eq_true q114
                        refine zbh (n := 32) (S := fun w' => w'.cell? ⟨gb105, 0, none⟩ = some (.slice (some ad106) l0_0.length c0_0) ∧ w'.cell? ⟨gb107, 0, none⟩ = some (.int .i64 ((zaa l0_0 x4_1).f0)) ∧ w'.cell? ⟨gb107, 1, none⟩ = some (.int .i64 ((zaa l0_0 x4_1).f1)) ∧ w'.cell? ⟨gb107, 2, none⟩ = some (.slice (some ad112) ((zaa l0_0 x4_1).f2).length c106_2) ∧ w'.cell? (ad106.add (((rd ((zaa l0_0 x4_1).f2) x6_4)).toNat * 3)) = some (.int .i64 ((zaa l0_0 (rd ((zaa l0_0 x4_1).f2) x6_4)).f0)) ∧ w'.cell? ⟨(ad106.add (((rd ((zaa l0_0 x4_1).f2) x6_4)).toNat * 3)).block, (ad106.add (((rd ((zaa l0_0 x4_1).f2) x6_4)).toNat * 3)).off + 1, none⟩ = some (.int .i64 ((zaa l0_0 (rd ((zaa l0_0 x4_1).f2) x6_4)).f1)) ∧ w'.cell? ⟨(ad106.add (((rd ((zaa l0_0 x4_1).f2) x6_4)).toNat * 3)).block, (ad106.add (((rd ((zaa l0_0 x4_1).f2) x6_4)).toNat * 3)).off + 2, none⟩ = some (.slice A113_2 ((zaa l0_0 (rd ((zaa l0_0 x4_1).f2) x6_4)).f2).length c113_2) ∧ w'.cell? (ad112.add ((ji50)).toNat) = some (.int .i64 (rd ((zaa l0_0 x4_1).f2) (ji50)))) (ds := []) (Ymk 32 0) (by kernel_rfl) rfl rfl ⟨(zac BK105.out 0).trans rfl, (zac BK107.out 0).trans rfl, (zac BK107.out 1).trans rfl, (zac BK107.out 2).trans rfl, ((HB.out.cell (World.block_lt_of_cell? w _ hw113_0)).trans hw113_0), ((HB.out.cell (World.block_lt_of_cell? w _ hw113_1)).trans hw113_1), ((HB.out.cell (World.block_lt_of_cell? w _ hw113_2)).trans hw113_2), ((HB.out.cell (World.block_lt_of_cell? w _ hw114_0)).trans hw114_0)⟩ (fun hHeld => ?_); refine zbc zae.zdb zae.zcx (fun HT_ HW_ => ?_)
                        generalize wr.drew = w59 at BK105 BK107 HB HR113_2 hx113_0 hx113_1 hx113_2 hx114_0 hHeld ⊢
                        refine Ypt 0 62 32 1 HT_ ?_
                        refine Ypt 1 63 32 3 HT_ ?_
                        refine Ypt 2 64 32 7 HT_ ?_
                        refine Ypt 3 65 32 15 HT_ ?_
                        refine Ypt 4 66 32 31 HT_ ?_
                        refine Ypt 5 67 32 63 HT_ ?_
                        refine Ypt 6 68 32 127 HT_ ?_
                        refine Ypt 7 69 32 255 HT_ ?_
                        refine Ypt 8 70 32 511 HT_ ?_
                        refine Ypt 10 72 32 1535 HT_ ?_
                        refine Ypt 14 76 32 17919 HT_ ?_
                        refine Ytt 9 71 32 18431 HT_ HW_ hHeld ?_
                        refine Ypt 11 73 32 20479 HT_ ?_
                        refine Ypt 12 74 32 24575 HT_ ?_
                        refine Ytt 13 75 32 32767 HT_ HW_ hHeld ?_
                        refine Ytt 15 77 32 65535 HT_ HW_ hHeld ?_
                        refine Ypt 16 78 32 131071 HT_ ?_
                        refine Ypt 17 79 32 262143 HT_ ?_
                        refine Ypt 18 80 32 524287 HT_ ?_
                        refine Ypt 19 81 32 1048575 HT_ ?_
                        refine Ypt 20 82 32 2097151 HT_ ?_
                        refine Ypt 21 83 32 4194303 HT_ ?_
                        refine Ypt 22 84 32 8388607 HT_ ?_
                        refine Ypt 24 86 32 25165823 HT_ ?_
                        refine Ypt 25 87 32 58720255 HT_ ?_
                        refine Ypt 28 90 32 327155711 HT_ ?_
                        refine Ytt 23 85 32 335544319 HT_ HW_ hHeld ?_
                        refine Ypt 26 88 32 402653183 HT_ ?_
                        refine Ytt 27 89 32 536870911 HT_ HW_ hHeld ?_
                        refine Ypt 29 91 32 1073741823 HT_ ?_
                        refine Ypt 30 92 32 2147483647 HT_ ?_
                        refine Ypt 31 93 32 4294967295 HT_ ?_
                        refine zbn (zbk HT_.out (by kernel_rfl)) ?_
                        try go_wp2
                        go_roundg k4
                        case measure => have := HK1.out; have := HJ3.out; have := HJ8.out; have := HK4.out; omega
                        case rel => exact ⟨(wrap64 (x6_4 + 1)), Yfs, H', ⟨by have := HK1.out; have := HJ3.out; have := HJ8.out; have := HK4.out; omega⟩, ⟨Yg BK105⟩, ⟨Yg BK107⟩, ⟨Yb_PGssMergesx2_1⟩⟩
                      ·rw [if_neg c52] at H
                       exact absurd H (by simp)
                     ·rw [if_neg c51] at H
                      exact absurd H (by simp)
                    ·rw [if_neg c49] at H
                     have c49b0 := decide_eq_false c49
                     clear c49
                     have H' := zab.mk H
                     clear H
                     have hnb60 := NB107_105.out
                     have hnc60 := NB105_107.out
                     obtain ⟨hcz61_0, hfz61_0, hcz61_1, hfz61_1, hcz61_2, hfz61_2⟩ := Yc3 BK107.out
                     have p112 : 0 ≤ (x6_4 : Int) := Yod
                     have q112 : x6_4 < (((zaa l0_0 x4_1).f2).length : Int) := Yod
                     obtain ⟨ad112, e112, hx112_0⟩ := Kd.zbw HR106_2.out x6_4 p112 q112
                     cases e112
                     replace hx112_0 := zaj HB.out hx112_0
                     replace p112 := eq_true p112
                     replace q112 := eq_true q112
                     try go_wp2
                     replace BK105 := zab.mk (zad BK105.out)
                     replace BK107 := zab.mk (zad BK107.out)
                     replace HB := zab.mk (zav HB.out)
                     have p113 : 0 ≤ ((rd ((zaa l0_0 x4_1).f2) x6_4) : Int) := Yod
                     have q113 : (rd ((zaa l0_0 x4_1).f2) x6_4) < (l0_0.length : Int) := Yod
                     obtain ⟨ad113, A113_2, c113_2, e113, hx113_0, hx113_1, hx113_2, hl113_2, hi113_2⟩ := zb3 HR0_0.out (rd ((zaa l0_0 x4_1).f2) x6_4) p113 q113
                     have hw113_2 := hx113_2;have hw113_1 := hx113_1;have hw113_0 := hx113_0
                     obtain rfl : ad106 = ad113 := (by injection e113)
                     replace hx113_0 := zaj HB.out hx113_0
                     replace hx113_1 := zaj HB.out hx113_1
                     replace hx113_2 := zaj HB.out hx113_2
                     have HR113_2 := zab.mk hi113_2;have HC113_2 := zab.mk hl113_2;clear hi113_2 hl113_2
                     replace p113 := eq_true p113
                     replace q113 := eq_true q113
                     refine zbh (n := 32) (S := fun w' => w'.cell? ⟨gb105, 0, none⟩ = some (.slice (some ad106) l0_0.length c0_0) ∧ w'.cell? ⟨gb107, 0, none⟩ = some (.int .i64 ((zaa l0_0 x4_1).f0)) ∧ w'.cell? ⟨gb107, 1, none⟩ = some (.int .i64 ((zaa l0_0 x4_1).f1)) ∧ w'.cell? ⟨gb107, 2, none⟩ = some (.slice (some ad112) ((zaa l0_0 x4_1).f2).length c106_2) ∧ w'.cell? (ad106.add (((rd ((zaa l0_0 x4_1).f2) x6_4)).toNat * 3)) = some (.int .i64 ((zaa l0_0 (rd ((zaa l0_0 x4_1).f2) x6_4)).f0)) ∧ w'.cell? ⟨(ad106.add (((rd ((zaa l0_0 x4_1).f2) x6_4)).toNat * 3)).block, (ad106.add (((rd ((zaa l0_0 x4_1).f2) x6_4)).toNat * 3)).off + 1, none⟩ = some (.int .i64 ((zaa l0_0 (rd ((zaa l0_0 x4_1).f2) x6_4)).f1)) ∧ w'.cell? ⟨(ad106.add (((rd ((zaa l0_0 x4_1).f2) x6_4)).toNat * 3)).block, (ad106.add (((rd ((zaa l0_0 x4_1).f2) x6_4)).toNat * 3)).off + 2, none⟩ = some (.slice A113_2 ((zaa l0_0 (rd ((zaa l0_0 x4_1).f2) x6_4)).f2).length c113_2)) (ds := []) (Ymk 32 0) (by kernel_rfl) rfl rfl ⟨(zac BK105.out 0).trans rfl, (zac BK107.out 0).trans rfl, (zac BK107.out 1).trans rfl, (zac BK107.out 2).trans rfl, ((HB.out.cell (World.block_lt_of_cell? w _ hw113_0)).trans hw113_0), ((HB.out.cell (World.block_lt_of_cell? w _ hw113_1)).trans hw113_1), ((HB.out.cell (World.block_lt_of_cell? w _ hw113_2)).trans hw113_2)⟩ (fun hHeld => ?_); refine zbc zae.zdb zae.zcx (fun HT_ HW_ => ?_)
                     generalize wr.drew = w62 at BK105 BK107 HB HR113_2 hx113_0 hx113_1 hx113_2 hHeld ⊢
                     refine Ypt 0 62 32 1 HT_ ?_
                     refine Ypt 1 63 32 3 HT_ ?_
                     refine Ypt 2 64 32 7 HT_ ?_
                     refine Ypt 3 65 32 15 HT_ ?_
                     refine Ypt 4 66 32 31 HT_ ?_
                     refine Ypt 5 67 32 63 HT_ ?_
                     refine Ypt 6 68 32 127 HT_ ?_
                     refine Ypt 7 69 32 255 HT_ ?_
                     refine Ypt 8 70 32 511 HT_ ?_
                     refine Ypt 10 72 32 1535 HT_ ?_
                     refine Ypt 14 76 32 17919 HT_ ?_
                     refine Ytt 9 71 32 18431 HT_ HW_ hHeld ?_
                     refine Ypt 11 73 32 20479 HT_ ?_
                     refine Ypt 12 74 32 24575 HT_ ?_
                     refine Ytt 13 75 32 32767 HT_ HW_ hHeld ?_
                     refine Ytt 15 77 32 65535 HT_ HW_ hHeld ?_
                     refine Ypt 16 78 32 131071 HT_ ?_
                     refine Ypt 17 79 32 262143 HT_ ?_
                     refine Ypt 18 80 32 524287 HT_ ?_
                     refine Ypt 19 81 32 1048575 HT_ ?_
                     refine Ypt 20 82 32 2097151 HT_ ?_
                     refine Ypt 21 83 32 4194303 HT_ ?_
                     refine Ypu 22 84 32 8388607 HT_ ?_
                     refine Ypu 23 85 32 16777215 HT_ ?_
                     refine Ypu 24 86 32 33554431 HT_ ?_
                     refine Ypu 25 87 32 67108863 HT_ ?_
                     refine Ypu 26 88 32 134217727 HT_ ?_
                     refine Ypu 27 89 32 268435455 HT_ ?_
                     refine Ypu 28 90 32 536870911 HT_ ?_
                     refine Ypu 29 91 32 1073741823 HT_ ?_
                     refine Ypt 30 92 32 2147483647 HT_ ?_
                     refine Ypt 31 93 32 4294967295 HT_ ?_
                     refine zbn (zbk HT_.out (by kernel_rfl)) ?_
                     try go_wp2
                     go_roundg k4
                     case measure => have := HK1.out; have := HJ3.out; have := HJ8.out; have := HK4.out; omega
                     case rel => exact ⟨(wrap64 (x6_4 + 1)), Yfs, H', ⟨by have := HK1.out; have := HJ3.out; have := HJ8.out; have := HK4.out; omega⟩, ⟨Yg BK105⟩, ⟨Yg BK107⟩, ⟨Yb_PGssMergesx2_1⟩⟩
                  ·rw [if_neg c44] at H
                   exact absurd H (by simp)
                 ·rw [if_neg c43] at H
                  exact absurd H (by simp)
              ·rw [if_neg c34] at H
               exact absurd H (by simp)
             ·rw [if_neg c33] at H
              have c33b0 := decide_eq_false c33
              clear c33
              have H' := zab.mk H
              clear H
              have hnb63 := NB107_105.out
              have hnc63 := NB105_107.out
              obtain ⟨hcz64_0, hfz64_0, hcz64_1, hfz64_1, hcz64_2, hfz64_2⟩ := Yc3 BK107.out
              go_wp2
              go_roundg k4
              case measure => have := HK1.out; have := HJ3.out; have := HJ8.out; have := HK4.out; omega
              case rel => exact ⟨(wrap64 (x4_1 + 1)), Yfs, H', ⟨by have := HK1.out; have := HJ3.out; have := HJ8.out; have := HK4.out; omega⟩, ⟨Yg BK105⟩, ⟨Yb_PGssMergesx2_1⟩⟩
       ·rw [if_neg c8] at H
        exact absurd H (by simp)
      ·rw [if_neg c7] at H
       exact absurd H (by simp)
     ·replace c6 := Bool.eq_false_iff.mpr c6
      subst c6
      have H1 : (some (decide ((l0_0.length : Int) ≤ 4096))) = some r := by rw [if_neg (show ¬ (false = true) by decide)] at H; exact H
      clear H;have H := H1;clear H1;obtain rfl := Option.some.inj H;go_wp2;go_ret
      exact ⟨Yfi, Yb_PGssMergesx2_0⟩
theorem Yb_PGssMergesx3_0 {n : Nat} {w w' : World} (h : Below n w w' := by repeat (first | (with_reducible first | exact HB.out | apply za9 | apply za7 | apply zav | refine za4 ?_ GE117.out) | exact HB.out)) : Below n w w' := h
theorem Yb_PGssMergesx3_1 {n : Nat} {w w' : World} (h : Below n w w' := by repeat (first | (with_reducible first | exact HB.out | apply za9 | apply za7 | apply zav | refine za4 ?_ GE117.out | refine za4 ?_ GE118.out) | exact HB.out)) : Below n w w' := h
theorem Yb_PGssMergesx3_2 {n : Nat} {w w' : World} (h : Below n w w' := by repeat (first | (with_reducible first | exact HB.out | apply za9 | apply za7 | apply zav | refine za4 ?_ GE117.out | refine za4 ?_ GE118.out | refine za4 ?_ GE120.out) | exact HB.out)) : Below n w w' := h
theorem Yb_PGssMergesx3_3 {n : Nat} {w w' : World} (h : Below n w w' := by repeat (first | (with_reducible first | exact HB.out | apply za9 | apply za7 | apply zav | refine za4 ?_ GE117.out | refine za4 ?_ GE118.out | refine za4 ?_ GE120.out | refine za4 ?_ GE122.out) | exact HB.out)) : Below n w w' := h
def za1.f : Option Bool := some true
theorem za1.calls (r : Bool) (w : World) (h : za1.f = some r) :
  Calls Try.prog 9 #[] w fun e w' => e = .returned (.bool r) ∧ Below w.heap.size w w' := by
 obtain rfl : true = r := by injection h
 exact GAwake.awake_calls w
def zas.l0 : Nat → List Int → List Int → Int → Option (Bool)
 | 0, _, _, _ => none
 | k + 1, x0, x1, x5 => if x5 < (x0.length : Int) then (if 0 ≤ x5 then (if x5 < (x1.length : Int) then (if (rd x0 x5) = (rd x1 x5) then (zas.l0 k x0 x1 (wrap64 (x5 + 1))) else (some false)) else (none)) else (none)) else (some true)
def zas.f (k : Nat) (l0 : List Int) (l1 : List Int) : Option (Bool) := if (l0.length : Int) = (l1.length : Int) then (zas.l0 k l0 l1 0) else (some false)
theorem zas.calls (k : Nat) (A0 : Option Addr) (c0 : Nat) (l0 : List Int) (A1 : Option Addr) (c1 : Nat) (l1 : List Int) (r : Bool) (w : World) (hr0 : Kd.C (Kd.int .i64) w A0 l0.length l0) (hc0 : l0.length ≤ c0) (hr1 : Kd.C (Kd.int .i64) w A1 l1.length l1) (hc1 : l1.length ≤ c1) (h : zas.f k l0 l1 = some r) :
  Calls Try.prog 44 #[.slice A0 l0.length c0, .slice A1 l1.length c1] w fun e w' => e = .returned (.bool r) ∧ zax w w' := by
 have HR0 := zab.mk hr0;have HC0 := zab.mk hc0;clear hr0 hc0;have HR1 := zab.mk hr1;have HC1 := zab.mk hc1;clear hr1 hc1
 have H : (if (l0.length : Int) = (l1.length : Int) then (zas.l0 k l0 l1 0) else (some false)) = some r := h
 clear h
 by_cases c3 : (l0.length : Int) = (l1.length : Int)
 ·rw [if_pos c3] at H
  have c3b0 : ((l0.length : Int) == (l1.length : Int)) = true := beq_iff_eq.mpr c3
  have c3b1 : ((l0.length : Int) != (l1.length : Int)) = false := bne_eq_false_iff_eq.mpr c3
  have c3b2 : (l0.length == l1.length) = true := by first | simpa using c3 | (simp at c3 ⊢; omega)
  clear c3
  have H' := zab.mk H
  clear H
  go_enter Try.func44, Try.ntmps44
  go_wp2
  repeat (go_quiet (fail); try go_wp2)
  go_loopg [5] k (fun kq v5 w' => ∃ (x5_1 : Int), v5 = .int .i64 x5_1 ∧ zab (zas.l0 kq l0 l1 x5_1 = some r) ∧ zab (kq ≤ k) ∧ zax w w')
  case atStart => exact ⟨(0), Yfs, H', ⟨Nat.le_refl _⟩, by repeat (first | exact zax.refl _ | apply zax.step)⟩
  case round =>
   clear H'
   obtain ⟨x5_1, rfl, HA, HK1, ⟨m1, rfl⟩⟩ := hrel
   cases gk with
   | zero => exact absurd HA.out (by simp [zas.l0])
   | succ k1 =>
    have H := HA.out;clear HA
    simp only [zas.l0] at H
    by_cases c4 : x5_1 < (l0.length : Int)
    ·rw [if_pos c4] at H
     have c4b0 := decide_eq_true c4
     clear c4
     by_cases c5 : 0 ≤ x5_1
     ·rw [if_pos c5] at H
      have c5b0 := decide_eq_true c5
      clear c5
      by_cases c6 : x5_1 < (l1.length : Int)
      ·rw [if_pos c6] at H
       have c6b0 := decide_eq_true c6
       clear c6
       by_cases c7 : (rd l0 x5_1) = (rd l1 x5_1)
       ·rw [if_pos c7] at H
        have c7b0 : ((rd l0 x5_1) == (rd l1 x5_1)) = true := beq_iff_eq.mpr c7
        have c7b1 : ((rd l0 x5_1) != (rd l1 x5_1)) = false := bne_eq_false_iff_eq.mpr c7
        clear c7
        have H' := zab.mk H
        clear H
        have p115 : 0 ≤ (x5_1 : Int) := Yod
        have q115 : x5_1 < (l0.length : Int) := Yod
        obtain ⟨ad115, e115, hx115_0⟩ := Kd.zbw HR0.out x5_1 p115 q115
        cases e115
        replace p115 := eq_true p115
        replace q115 := eq_true q115
        have p116 : 0 ≤ (x5_1 : Int) := Yod
        have q116 : x5_1 < (l1.length : Int) := Yod
        obtain ⟨ad116, e116, hx116_0⟩ := Kd.zbw HR1.out x5_1 p116 q116
        cases e116
        replace p116 := eq_true p116
        replace q116 := eq_true q116
        go_wp2
        repeat (go_quiet (fail); try go_wp2)
        go_roundg k1
        case measure => have := HK1.out; omega
        case rel => exact ⟨(wrap64 (x5_1 + 1)), Yfs, H', ⟨by have := HK1.out; omega⟩, by repeat (first | exact zax.refl _ | apply zax.step)⟩
       ·rw [if_neg c7] at H
        have c7b0 : ((rd l0 x5_1) == (rd l1 x5_1)) = false := beq_eq_false_iff_ne.mpr c7
        have c7b1 : ((rd l0 x5_1) != (rd l1 x5_1)) = true := bne_iff_ne.mpr c7
        obtain rfl := Option.some.inj H
        have p115 : 0 ≤ (x5_1 : Int) := Yod
        have q115 : x5_1 < (l0.length : Int) := Yod
        obtain ⟨ad115, e115, hx115_0⟩ := Kd.zbw HR0.out x5_1 p115 q115
        cases e115
        replace p115 := eq_true p115
        replace q115 := eq_true q115
        have p116 : 0 ≤ (x5_1 : Int) := Yod
        have q116 : x5_1 < (l1.length : Int) := Yod
        obtain ⟨ad116, e116, hx116_0⟩ := Kd.zbw HR1.out x5_1 p116 q116
        cases e116
        replace p116 := eq_true p116
        replace q116 := eq_true q116
        go_wp2
        repeat (go_quiet (fail); try go_wp2)
        go_ret
        exact ⟨Yfs, by repeat (first | exact zax.refl _ | apply zax.step)⟩
      ·rw [if_neg c6] at H
       exact absurd H (by simp)
     ·rw [if_neg c5] at H
      exact absurd H (by simp)
    ·rw [if_neg c4] at H
     have c4b0 := decide_eq_false c4
     clear c4;obtain rfl := Option.some.inj H;go_wp2
     repeat (go_quiet (fail); try go_wp2)
     go_ret
     exact ⟨Yfs, by repeat (first | exact zax.refl _ | apply zax.step)⟩
 ·rw [if_neg c3] at H
  have c3b0 : ((l0.length : Int) == (l1.length : Int)) = false := beq_eq_false_iff_ne.mpr c3
  have c3b1 : ((l0.length : Int) != (l1.length : Int)) = true := bne_iff_ne.mpr c3
  have c3b2 : (l0.length == l1.length) = false := by first | simpa using c3 | (simp at c3 ⊢; omega)
  obtain rfl := Option.some.inj H
  go_enter Try.func44, Try.ntmps44
  go_wp2
  repeat (go_quiet (fail); try go_wp2)
  go_ret
  exact ⟨Yfs, by repeat (first | exact zax.refl _ | apply zax.step)⟩
def zak.l0 : Nat → Int → List (S38) → List (S38) → Option (Bool)
 | 0, _, _, _ => none
 | k + 1, x5, x118000, x119000 => if x5 < (x118000.length : Int) then (if 0 ≤ x5 then (if x5 < (x119000.length : Int) then (if ((zaa x118000 x5).f0) = ((zaa x119000 x5).f0) then (if ((zaa x118000 x5).f1) = ((zaa x119000 x5).f1) then ((zas.f k ((zaa x118000 x5).f2) ((zaa x119000 x5).f2)).bind fun t123 => (if t123 = true then (zak.l0 k (wrap64 (x5 + 1)) x118000 x119000) else (some false))) else (some false)) else (some false)) else (none)) else (none)) else (some true)
def zak.f (k : Nat) (l0_0 : List (S38)) (l1_0 : List (S38)) : Option (Bool) := if (l0_0.length : Int) = (l1_0.length : Int) then (zak.l0 k 0 l0_0 l1_0) else (some false)
theorem zak.calls (k : Nat) (A0_0 : Option Addr) (c0_0 : Nat) (l0_0 : List (S38)) (A1_0 : Option Addr) (c1_0 : Nat) (l1_0 : List (S38)) (r : Bool) (w : World) (hr0_0 : Kd.C k38 w A0_0 l0_0.length l0_0) (hc0_0 : l0_0.length ≤ c0_0) (hr1_0 : Kd.C k38 w A1_0 l1_0.length l1_0) (hc1_0 : l1_0.length ≤ c1_0) (h : zak.f k l0_0 l1_0 = some r) :
  Calls Try.prog 16 #[.agg #[.slice A0_0 l0_0.length c0_0], .agg #[.slice A1_0 l1_0.length c1_0]] w fun e w' => e = .returned (.bool r) ∧ Below w.heap.size w w' := by
 have hu24 := Try.underlying24
 have hu38 := Try.underlying38
 have HR0_0 := zab.mk hr0_0;have HC0_0 := zab.mk hc0_0;clear hr0_0 hc0_0;have HR1_0 := zab.mk hr1_0;have HC1_0 := zab.mk hc1_0;clear hr1_0 hc1_0
 have HB := zab.mk (Below.refl w.heap.size w)
 have H : (if (l0_0.length : Int) = (l1_0.length : Int) then (zak.l0 k 0 l0_0 l1_0) else (some false)) = some r := h
 clear h
 by_cases c3 : (l0_0.length : Int) = (l1_0.length : Int)
 ·rw [if_pos c3] at H
  have c3b0 : ((l0_0.length : Int) == (l1_0.length : Int)) = true := beq_iff_eq.mpr c3
  have c3b1 : ((l0_0.length : Int) != (l1_0.length : Int)) = false := bne_eq_false_iff_eq.mpr c3
  have c3b2 : (l0_0.length == l1_0.length) = true := by first | simpa using c3 | (simp at c3 ⊢; omega)
  clear c3
  have H' := zab.mk H
  clear H
  go_enter Try.func16, Try.ntmps16
  go_wp2_with (first | ((with_reducible refine za6 (N := 2) rfl ?_); refine Ybx 2 #[.slice A0_0 l0_0.length c0_0] 24 ?_; intro gb117 hg w4 hbox hb; obtain ⟨BK117, GW117, GE117, HB⟩ := Yb4 hbox hg hb Ybe; clear hb hbox hg) | ((with_reducible refine za6 (N := 3) rfl ?_); refine Ybx 3 #[.slice A1_0 l1_0.length c1_0] 24 ?_; intro gb118 hg w5 hbox hb; obtain ⟨BK118, GW118, GE118, HB⟩ := Yb4 hbox hg hb Yb_PGssMergesx3_0; have NB117_118 := Ynl BK117 hg; have NB118_117 := Yng BK117 hg; replace BK117 := Ykb BK117 hb; clear hb hbox hg; have hnb6 := NB117_118.out; have hnc6 := NB118_117.out; obtain ⟨hcz7_0, hfz7_0⟩ := Yc1 BK117.out; obtain ⟨hcz8_0, hfz8_0⟩ := Yc1 BK118.out))
  go_loopg [5] k (fun kq v5 w' => ∃ (x5_1 : Int), v5 = .int .i64 x5_1 ∧ zab (zak.l0 kq x5_1 l0_0 l1_0 = some r) ∧ zab (kq ≤ k) ∧ zab (w'.heap[gb117]? = some (.cells #[(.slice A0_0 l0_0.length c0_0)] 24 (0, 0))) ∧ zab (w'.heap[gb118]? = some (.cells #[(.slice A1_0 l1_0.length c1_0)] 24 (0, 0))) ∧ zab (Below w.heap.size w w'))
  case atStart => exact ⟨(0), Yfs, H', ⟨Nat.le_refl _⟩, ⟨Yg BK117⟩, ⟨Yg BK118⟩, ⟨Yb_PGssMergesx3_1⟩⟩
  case round =>
   clear H'
   obtain ⟨x5_1, rfl, HA, HK1, BK117, BK118, HB⟩ := hrel
   cases gk with
   | zero => exact absurd HA.out (by simp [zak.l0])
   | succ k1 =>
    have H := HA.out;clear HA
    simp only [zak.l0] at H
    by_cases c9 : x5_1 < (l0_0.length : Int)
    ·rw [if_pos c9] at H
     have c9b0 := decide_eq_true c9
     clear c9
     by_cases c10 : 0 ≤ x5_1
     ·rw [if_pos c10] at H
      have c10b0 := decide_eq_true c10
      clear c10
      by_cases c11 : x5_1 < (l1_0.length : Int)
      ·rw [if_pos c11] at H
       have c11b0 := decide_eq_true c11
       clear c11
       by_cases c12 : ((zaa l0_0 x5_1).f0) = ((zaa l1_0 x5_1).f0)
       ·rw [if_pos c12] at H
        have c12b0 : (((zaa l0_0 x5_1).f0) == ((zaa l1_0 x5_1).f0)) = true := beq_iff_eq.mpr c12
        have c12b1 : (((zaa l0_0 x5_1).f0) != ((zaa l1_0 x5_1).f0)) = false := bne_eq_false_iff_eq.mpr c12
        clear c12
        by_cases c13 : ((zaa l0_0 x5_1).f1) = ((zaa l1_0 x5_1).f1)
        ·rw [if_pos c13] at H
         have c13b0 : (((zaa l0_0 x5_1).f1) == ((zaa l1_0 x5_1).f1)) = true := beq_iff_eq.mpr c13
         have c13b1 : (((zaa l0_0 x5_1).f1) != ((zaa l1_0 x5_1).f1)) = false := bne_eq_false_iff_eq.mpr c13
         clear c13;replace H := Option.bind_eq_some_iff.mp H
         obtain ⟨t123, A140, H⟩ := H
         replace H : (if t123 = true then (zak.l0 k1 (wrap64 (x5_1 + 1)) l0_0 l1_0) else (some false)) = some r := H
         have A14 := zab.mk A140;clear A140
         by_cases c15 : t123 = true
         ·subst c15
          have H1 : (zak.l0 k1 (wrap64 (x5_1 + 1)) l0_0 l1_0) = some r := by rw [if_pos rfl] at H; exact H
          clear H;have H := H1;clear H1
          have H' := zab.mk H
          clear H
          have hnb16 := NB117_118.out
          have hnc16 := NB118_117.out
          obtain ⟨hcz17_0, hfz17_0⟩ := Yc1 BK117.out
          have p119 : 0 ≤ (x5_1 : Int) := Yod
          have q119 : x5_1 < (l0_0.length : Int) := Yod
          obtain ⟨ad119, A119_2, c119_2, e119, hx119_0, hx119_1, hx119_2, hl119_2, hi119_2⟩ := zb3 HR0_0.out x5_1 p119 q119
          cases e119
          replace hx119_0 := zaj HB.out hx119_0
          replace hx119_1 := zaj HB.out hx119_1
          replace hx119_2 := zaj HB.out hx119_2
          have HR119_2 := zab.mk hi119_2;have HC119_2 := zab.mk hl119_2;clear hi119_2 hl119_2
          replace p119 := eq_true p119
          replace q119 := eq_true q119
          go_wp2_with (first | ((with_reducible refine za6 (N := 6) rfl ?_); refine Ybx 6 #[.int .i64 0, .int .i64 0, .slice none 0 0] 38 ?_; intro gb120 hg w18 hbox hb; obtain ⟨BK120, GW120, GE120, HB⟩ := Yb4 hbox hg hb Yb_PGssMergesx3_1; have NB117_120 := Ynl BK117 hg; have NB120_117 := Yng BK117 hg; replace BK117 := Ykb BK117 hb; have NB118_120 := Ynl BK118 hg; have NB120_118 := Yng BK118 hg; replace BK118 := Ykb BK118 hb; clear hb hbox hg; have hnb19 := NB120_117.out; have hnc19 := NB117_120.out; have hnb20 := NB120_118.out; have hnc20 := NB118_120.out; obtain ⟨hcz21_0, hfz21_0, hcz21_1, hfz21_1, hcz21_2, hfz21_2⟩ := Yc3 BK120.out; obtain ⟨hcz22_0, hfz22_0⟩ := Yc1 BK118.out; have p121 : 0 ≤ (x5_1 : Int) := Yod; have q121 : x5_1 < (l1_0.length : Int) := Yod; obtain ⟨ad121, A121_2, c121_2, e121, hx121_0, hx121_1, hx121_2, hl121_2, hi121_2⟩ := zb3 HR1_0.out x5_1 p121 q121; cases e121; have hn121_0 : ad121.block ≠ gb120 := Nat.ne_of_lt (Nat.lt_of_lt_of_le (by have := World.block_lt_of_cell? _ _ hx121_0; first | rwa [add_block] at this | exact this) GW120.out); have hn121_1 : ad121.block ≠ gb120 := Nat.ne_of_lt (Nat.lt_of_lt_of_le (by have := World.block_lt_of_cell? _ _ hx121_0; first | rwa [add_block] at this | exact this) GW120.out); have hn121_2 : ad121.block ≠ gb120 := Nat.ne_of_lt (Nat.lt_of_lt_of_le (by have := World.block_lt_of_cell? _ _ hx121_0; first | rwa [add_block] at this | exact this) GW120.out); replace hx121_0 := zaj HB.out hx121_0; replace hx121_1 := zaj HB.out hx121_1; replace hx121_2 := zaj HB.out hx121_2; have HR121_2 := zab.mk hi121_2; have HC121_2 := zab.mk hl121_2; clear hi121_2 hl121_2; replace hx121_0 := Ycf ⟨gb120, 0, none⟩ (.int .i64 ((zaa l0_0 x5_1).f0)) hn121_0 hx121_0; replace hx121_1 := Ycf ⟨gb120, 0, none⟩ (.int .i64 ((zaa l0_0 x5_1).f0)) hn121_0 hx121_1; replace hx121_2 := Ycf ⟨gb120, 0, none⟩ (.int .i64 ((zaa l0_0 x5_1).f0)) hn121_0 hx121_2; replace hx121_0 := Ycf ⟨gb120, 1, none⟩ (.int .i64 ((zaa l0_0 x5_1).f1)) hn121_1 hx121_0; replace hx121_1 := Ycf ⟨gb120, 1, none⟩ (.int .i64 ((zaa l0_0 x5_1).f1)) hn121_1 hx121_1; replace hx121_2 := Ycf ⟨gb120, 1, none⟩ (.int .i64 ((zaa l0_0 x5_1).f1)) hn121_1 hx121_2; replace hx121_0 := Ycf ⟨gb120, 2, none⟩ (.slice A119_2 ((zaa l0_0 x5_1).f2).length c119_2) hn121_2 hx121_0; replace hx121_1 := Ycf ⟨gb120, 2, none⟩ (.slice A119_2 ((zaa l0_0 x5_1).f2).length c119_2) hn121_2 hx121_1; replace hx121_2 := Ycf ⟨gb120, 2, none⟩ (.slice A119_2 ((zaa l0_0 x5_1).f2).length c119_2) hn121_2 hx121_2; clear hn121_0; clear hn121_1; clear hn121_2; replace p121 := eq_true p121; replace q121 := eq_true q121) | ((with_reducible refine za6 (N := 7) rfl ?_); refine Ybx 7 #[.int .i64 0, .int .i64 0, .slice none 0 0] 38 ?_; intro gb122 hg w23 hbox hb; obtain ⟨BK122, GW122, GE122, HB⟩ := Yb4 hbox hg hb Yb_PGssMergesx3_2; have NB117_122 := zab.mk ((by rw [hg]; exact Nat.ne_of_lt (za3 (g := gb117) (o := .cells #[.slice (some ad119) l0_0.length c0_0] 24 (0, 0)) (by (with_reducible repeat (first | refine zah ?_ _ | refine zad ?_ | refine zaf ?_ _)); refine zal ?_ NB117_120.out _; (with_reducible repeat (first | refine zah ?_ _ | refine zad ?_ | refine zaf ?_ _)); refine zal ?_ NB117_120.out _; (with_reducible repeat (first | refine zah ?_ _ | refine zad ?_ | refine zaf ?_ _)); refine zal ?_ NB117_120.out _; (with_reducible repeat (first | refine zah ?_ _ | refine zad ?_ | refine zaf ?_ _)); exact BK117.out)) : gb117 ≠ gb122)); have NB122_117 := zab.mk ((by rw [hg]; exact Nat.ne_of_gt (za3 (g := gb117) (o := .cells #[.slice (some ad119) l0_0.length c0_0] 24 (0, 0)) (by (with_reducible repeat (first | refine zah ?_ _ | refine zad ?_ | refine zaf ?_ _)); refine zal ?_ NB117_120.out _; (with_reducible repeat (first | refine zah ?_ _ | refine zad ?_ | refine zaf ?_ _)); refine zal ?_ NB117_120.out _; (with_reducible repeat (first | refine zah ?_ _ | refine zad ?_ | refine zaf ?_ _)); refine zal ?_ NB117_120.out _; (with_reducible repeat (first | refine zah ?_ _ | refine zad ?_ | refine zaf ?_ _)); exact BK117.out)) : gb122 ≠ gb117)); replace BK117 := zab.mk (zaw (g := gb117) (o := .cells #[.slice (some ad119) l0_0.length c0_0] 24 (0, 0)) (by (with_reducible repeat (first | refine zah ?_ _ | refine zad ?_ | refine zaf ?_ _)); refine zal ?_ NB117_120.out _; (with_reducible repeat (first | refine zah ?_ _ | refine zad ?_ | refine zaf ?_ _)); refine zal ?_ NB117_120.out _; (with_reducible repeat (first | refine zah ?_ _ | refine zad ?_ | refine zaf ?_ _)); refine zal ?_ NB117_120.out _; (with_reducible repeat (first | refine zah ?_ _ | refine zad ?_ | refine zaf ?_ _)); exact BK117.out) hb); have NB118_122 := zab.mk ((by rw [hg]; exact Nat.ne_of_lt (za3 (g := gb118) (o := .cells #[.slice (some ad121) l1_0.length c1_0] 24 (0, 0)) (by (with_reducible repeat (first | refine zah ?_ _ | refine zad ?_ | refine zaf ?_ _)); refine zal ?_ NB118_120.out _; (with_reducible repeat (first | refine zah ?_ _ | refine zad ?_ | refine zaf ?_ _)); refine zal ?_ NB118_120.out _; (with_reducible repeat (first | refine zah ?_ _ | refine zad ?_ | refine zaf ?_ _)); refine zal ?_ NB118_120.out _; (with_reducible repeat (first | refine zah ?_ _ | refine zad ?_ | refine zaf ?_ _)); exact BK118.out)) : gb118 ≠ gb122)); have NB122_118 := zab.mk ((by rw [hg]; exact Nat.ne_of_gt (za3 (g := gb118) (o := .cells #[.slice (some ad121) l1_0.length c1_0] 24 (0, 0)) (by (with_reducible repeat (first | refine zah ?_ _ | refine zad ?_ | refine zaf ?_ _)); refine zal ?_ NB118_120.out _; (with_reducible repeat (first | refine zah ?_ _ | refine zad ?_ | refine zaf ?_ _)); refine zal ?_ NB118_120.out _; (with_reducible repeat (first | refine zah ?_ _ | refine zad ?_ | refine zaf ?_ _)); refine zal ?_ NB118_120.out _; (with_reducible repeat (first | refine zah ?_ _ | refine zad ?_ | refine zaf ?_ _)); exact BK118.out)) : gb122 ≠ gb118)); replace BK118 := zab.mk (zaw (g := gb118) (o := .cells #[.slice (some ad121) l1_0.length c1_0] 24 (0, 0)) (by (with_reducible repeat (first | refine zah ?_ _ | refine zad ?_ | refine zaf ?_ _)); refine zal ?_ NB118_120.out _; (with_reducible repeat (first | refine zah ?_ _ | refine zad ?_ | refine zaf ?_ _)); refine zal ?_ NB118_120.out _; (with_reducible repeat (first | refine zah ?_ _ | refine zad ?_ | refine zaf ?_ _)); refine zal ?_ NB118_120.out _; (with_reducible repeat (first | refine zah ?_ _ | refine zad ?_ | refine zaf ?_ _)); exact BK118.out) hb); have NB120_122 := zab.mk ((by rw [hg]; exact Nat.ne_of_lt (za3 (g := gb120) (o := .cells #[.int .i64 ((zaa l0_0 x5_1).f0), .int .i64 ((zaa l0_0 x5_1).f1), .slice A119_2 ((zaa l0_0 x5_1).f2).length c119_2] 38 (0, 0)) (by (with_reducible repeat (first | refine zah ?_ _ | refine zad ?_ | refine zaf ?_ _)); refine zat (cs := #[.int .i64 ((zaa l0_0 x5_1).f0), .int .i64 ((zaa l0_0 x5_1).f1), .slice none 0 0]) ?_ 2 _ rfl; (with_reducible repeat (first | refine zah ?_ _ | refine zad ?_ | refine zaf ?_ _)); refine zat (cs := #[.int .i64 ((zaa l0_0 x5_1).f0), .int .i64 0, .slice none 0 0]) ?_ 1 _ rfl; (with_reducible repeat (first | refine zah ?_ _ | refine zad ?_ | refine zaf ?_ _)); refine zat (cs := #[.int .i64 0, .int .i64 0, .slice none 0 0]) ?_ 0 _ rfl; (with_reducible repeat (first | refine zah ?_ _ | refine zad ?_ | refine zaf ?_ _)); exact BK120.out)) : gb120 ≠ gb122)); have NB122_120 := zab.mk ((by rw [hg]; exact Nat.ne_of_gt (za3 (g := gb120) (o := .cells #[.int .i64 ((zaa l0_0 x5_1).f0), .int .i64 ((zaa l0_0 x5_1).f1), .slice A119_2 ((zaa l0_0 x5_1).f2).length c119_2] 38 (0, 0)) (by (with_reducible repeat (first | refine zah ?_ _ | refine zad ?_ | refine zaf ?_ _)); refine zat (cs := #[.int .i64 ((zaa l0_0 x5_1).f0), .int .i64 ((zaa l0_0 x5_1).f1), .slice none 0 0]) ?_ 2 _ rfl; (with_reducible repeat (first | refine zah ?_ _ | refine zad ?_ | refine zaf ?_ _)); refine zat (cs := #[.int .i64 ((zaa l0_0 x5_1).f0), .int .i64 0, .slice none 0 0]) ?_ 1 _ rfl; (with_reducible repeat (first | refine zah ?_ _ | refine zad ?_ | refine zaf ?_ _)); refine zat (cs := #[.int .i64 0, .int .i64 0, .slice none 0 0]) ?_ 0 _ rfl; (with_reducible repeat (first | refine zah ?_ _ | refine zad ?_ | refine zaf ?_ _)); exact BK120.out)) : gb122 ≠ gb120)); replace BK120 := zab.mk (zaw (g := gb120) (o := .cells #[.int .i64 ((zaa l0_0 x5_1).f0), .int .i64 ((zaa l0_0 x5_1).f1), .slice A119_2 ((zaa l0_0 x5_1).f2).length c119_2] 38 (0, 0)) (by (with_reducible repeat (first | refine zah ?_ _ | refine zad ?_ | refine zaf ?_ _)); refine zat (cs := #[.int .i64 ((zaa l0_0 x5_1).f0), .int .i64 ((zaa l0_0 x5_1).f1), .slice none 0 0]) ?_ 2 _ rfl; (with_reducible repeat (first | refine zah ?_ _ | refine zad ?_ | refine zaf ?_ _)); refine zat (cs := #[.int .i64 ((zaa l0_0 x5_1).f0), .int .i64 0, .slice none 0 0]) ?_ 1 _ rfl; (with_reducible repeat (first | refine zah ?_ _ | refine zad ?_ | refine zaf ?_ _)); refine zat (cs := #[.int .i64 0, .int .i64 0, .slice none 0 0]) ?_ 0 _ rfl; (with_reducible repeat (first | refine zah ?_ _ | refine zad ?_ | refine zaf ?_ _)); exact BK120.out) hb); clear hb hbox hg; have hnb24 := NB122_117.out; have hnc24 := NB117_122.out; have hnb25 := NB122_118.out; have hnc25 := NB118_122.out; have hnb26 := NB122_120.out; have hnc26 := NB120_122.out; obtain ⟨hcz27_0, hfz27_0, hcz27_1, hfz27_1, hcz27_2, hfz27_2⟩ := Yc3 BK122.out; obtain ⟨hcz28_0, hfz28_0, hcz28_1, hfz28_1, hcz28_2, hfz28_2⟩ := Yc3 BK120.out) | (go_at_call 44; (with_reducible refine (zas.calls k1 _ _ ((zaa l0_0 x5_1).f2) _ _ ((zaa l1_0 x5_1).f2) true _ (Kd.zaq HR119_2.out Yb_PGssMergesx3_3) HC119_2.out (Kd.zaq HR121_2.out Yb_PGssMergesx3_3) HC121_2.out A14.out).mono ?_); rintro e w' ⟨rfl, ⟨nd, rfl⟩⟩))
          go_roundg k1
          case measure => have := HK1.out; omega
          case rel => exact ⟨(wrap64 (x5_1 + 1)), Yfs, H', ⟨by have := HK1.out; omega⟩, ⟨by (with_reducible repeat (first | refine zah ?_ _ | refine zad ?_ | refine zaf ?_ _)); refine zal ?_ NB117_122.out _; (with_reducible repeat (first | refine zah ?_ _ | refine zad ?_ | refine zaf ?_ _)); refine zal ?_ NB117_122.out _; (with_reducible repeat (first | refine zah ?_ _ | refine zad ?_ | refine zaf ?_ _)); refine zal ?_ NB117_122.out _; (with_reducible repeat (first | refine zah ?_ _ | refine zad ?_ | refine zaf ?_ _)); exact BK117.out⟩, ⟨by (with_reducible repeat (first | refine zah ?_ _ | refine zad ?_ | refine zaf ?_ _)); refine zal ?_ NB118_122.out _; (with_reducible repeat (first | refine zah ?_ _ | refine zad ?_ | refine zaf ?_ _)); refine zal ?_ NB118_122.out _; (with_reducible repeat (first | refine zah ?_ _ | refine zad ?_ | refine zaf ?_ _)); refine zal ?_ NB118_122.out _; (with_reducible repeat (first | refine zah ?_ _ | refine zad ?_ | refine zaf ?_ _)); exact BK118.out⟩, ⟨Yb_PGssMergesx3_3⟩⟩
         ·replace c15 := Bool.eq_false_iff.mpr c15
          subst c15
          have H1 : (some false) = some r := by rw [if_neg (show ¬ (false = true) by decide)] at H; exact H
          clear H;have H := H1;clear H1;obtain rfl := Option.some.inj H
          have hnb29 := NB117_118.out
          have hnc29 := NB118_117.out
          obtain ⟨hcz30_0, hfz30_0⟩ := Yc1 BK117.out
          have p119 : 0 ≤ (x5_1 : Int) := Yod
          have q119 : x5_1 < (l0_0.length : Int) := Yod
          obtain ⟨ad119, A119_2, c119_2, e119, hx119_0, hx119_1, hx119_2, hl119_2, hi119_2⟩ := zb3 HR0_0.out x5_1 p119 q119
          cases e119
          replace hx119_0 := zaj HB.out hx119_0
          replace hx119_1 := zaj HB.out hx119_1
          replace hx119_2 := zaj HB.out hx119_2
          have HR119_2 := zab.mk hi119_2;have HC119_2 := zab.mk hl119_2;clear hi119_2 hl119_2
          replace p119 := eq_true p119
          replace q119 := eq_true q119
          go_wp2_with (first | ((with_reducible refine za6 (N := 6) rfl ?_); refine Ybx 6 #[.int .i64 0, .int .i64 0, .slice none 0 0] 38 ?_; intro gb120 hg w31 hbox hb; obtain ⟨BK120, GW120, GE120, HB⟩ := Yb4 hbox hg hb Yb_PGssMergesx3_1; have NB117_120 := Ynl BK117 hg; have NB120_117 := Yng BK117 hg; replace BK117 := Ykb BK117 hb; have NB118_120 := Ynl BK118 hg; have NB120_118 := Yng BK118 hg; replace BK118 := Ykb BK118 hb; clear hb hbox hg; have hnb32 := NB120_117.out; have hnc32 := NB117_120.out; have hnb33 := NB120_118.out; have hnc33 := NB118_120.out; obtain ⟨hcz34_0, hfz34_0, hcz34_1, hfz34_1, hcz34_2, hfz34_2⟩ := Yc3 BK120.out; obtain ⟨hcz35_0, hfz35_0⟩ := Yc1 BK118.out; have p121 : 0 ≤ (x5_1 : Int) := Yod; have q121 : x5_1 < (l1_0.length : Int) := Yod; obtain ⟨ad121, A121_2, c121_2, e121, hx121_0, hx121_1, hx121_2, hl121_2, hi121_2⟩ := zb3 HR1_0.out x5_1 p121 q121; cases e121; have hn121_0 : ad121.block ≠ gb120 := Nat.ne_of_lt (Nat.lt_of_lt_of_le (by have := World.block_lt_of_cell? _ _ hx121_0; first | rwa [add_block] at this | exact this) GW120.out); have hn121_1 : ad121.block ≠ gb120 := Nat.ne_of_lt (Nat.lt_of_lt_of_le (by have := World.block_lt_of_cell? _ _ hx121_0; first | rwa [add_block] at this | exact this) GW120.out); have hn121_2 : ad121.block ≠ gb120 := Nat.ne_of_lt (Nat.lt_of_lt_of_le (by have := World.block_lt_of_cell? _ _ hx121_0; first | rwa [add_block] at this | exact this) GW120.out); replace hx121_0 := zaj HB.out hx121_0; replace hx121_1 := zaj HB.out hx121_1; replace hx121_2 := zaj HB.out hx121_2; have HR121_2 := zab.mk hi121_2; have HC121_2 := zab.mk hl121_2; clear hi121_2 hl121_2; replace hx121_0 := Ycf ⟨gb120, 0, none⟩ (.int .i64 ((zaa l0_0 x5_1).f0)) hn121_0 hx121_0; replace hx121_1 := Ycf ⟨gb120, 0, none⟩ (.int .i64 ((zaa l0_0 x5_1).f0)) hn121_0 hx121_1; replace hx121_2 := Ycf ⟨gb120, 0, none⟩ (.int .i64 ((zaa l0_0 x5_1).f0)) hn121_0 hx121_2; replace hx121_0 := Ycf ⟨gb120, 1, none⟩ (.int .i64 ((zaa l0_0 x5_1).f1)) hn121_1 hx121_0; replace hx121_1 := Ycf ⟨gb120, 1, none⟩ (.int .i64 ((zaa l0_0 x5_1).f1)) hn121_1 hx121_1; replace hx121_2 := Ycf ⟨gb120, 1, none⟩ (.int .i64 ((zaa l0_0 x5_1).f1)) hn121_1 hx121_2; replace hx121_0 := Ycf ⟨gb120, 2, none⟩ (.slice A119_2 ((zaa l0_0 x5_1).f2).length c119_2) hn121_2 hx121_0; replace hx121_1 := Ycf ⟨gb120, 2, none⟩ (.slice A119_2 ((zaa l0_0 x5_1).f2).length c119_2) hn121_2 hx121_1; replace hx121_2 := Ycf ⟨gb120, 2, none⟩ (.slice A119_2 ((zaa l0_0 x5_1).f2).length c119_2) hn121_2 hx121_2; clear hn121_0; clear hn121_1; clear hn121_2; replace p121 := eq_true p121; replace q121 := eq_true q121) | ((with_reducible refine za6 (N := 7) rfl ?_); refine Ybx 7 #[.int .i64 0, .int .i64 0, .slice none 0 0] 38 ?_; intro gb122 hg w36 hbox hb; obtain ⟨BK122, GW122, GE122, HB⟩ := Yb4 hbox hg hb Yb_PGssMergesx3_2; have NB117_122 := zab.mk ((by rw [hg]; exact Nat.ne_of_lt (za3 (g := gb117) (o := .cells #[.slice (some ad119) l0_0.length c0_0] 24 (0, 0)) (by (with_reducible repeat (first | refine zah ?_ _ | refine zad ?_ | refine zaf ?_ _)); refine zal ?_ NB117_120.out _; (with_reducible repeat (first | refine zah ?_ _ | refine zad ?_ | refine zaf ?_ _)); refine zal ?_ NB117_120.out _; (with_reducible repeat (first | refine zah ?_ _ | refine zad ?_ | refine zaf ?_ _)); refine zal ?_ NB117_120.out _; (with_reducible repeat (first | refine zah ?_ _ | refine zad ?_ | refine zaf ?_ _)); exact BK117.out)) : gb117 ≠ gb122)); have NB122_117 := zab.mk ((by rw [hg]; exact Nat.ne_of_gt (za3 (g := gb117) (o := .cells #[.slice (some ad119) l0_0.length c0_0] 24 (0, 0)) (by (with_reducible repeat (first | refine zah ?_ _ | refine zad ?_ | refine zaf ?_ _)); refine zal ?_ NB117_120.out _; (with_reducible repeat (first | refine zah ?_ _ | refine zad ?_ | refine zaf ?_ _)); refine zal ?_ NB117_120.out _; (with_reducible repeat (first | refine zah ?_ _ | refine zad ?_ | refine zaf ?_ _)); refine zal ?_ NB117_120.out _; (with_reducible repeat (first | refine zah ?_ _ | refine zad ?_ | refine zaf ?_ _)); exact BK117.out)) : gb122 ≠ gb117)); replace BK117 := zab.mk (zaw (g := gb117) (o := .cells #[.slice (some ad119) l0_0.length c0_0] 24 (0, 0)) (by (with_reducible repeat (first | refine zah ?_ _ | refine zad ?_ | refine zaf ?_ _)); refine zal ?_ NB117_120.out _; (with_reducible repeat (first | refine zah ?_ _ | refine zad ?_ | refine zaf ?_ _)); refine zal ?_ NB117_120.out _; (with_reducible repeat (first | refine zah ?_ _ | refine zad ?_ | refine zaf ?_ _)); refine zal ?_ NB117_120.out _; (with_reducible repeat (first | refine zah ?_ _ | refine zad ?_ | refine zaf ?_ _)); exact BK117.out) hb); have NB118_122 := zab.mk ((by rw [hg]; exact Nat.ne_of_lt (za3 (g := gb118) (o := .cells #[.slice (some ad121) l1_0.length c1_0] 24 (0, 0)) (by (with_reducible repeat (first | refine zah ?_ _ | refine zad ?_ | refine zaf ?_ _)); refine zal ?_ NB118_120.out _; (with_reducible repeat (first | refine zah ?_ _ | refine zad ?_ | refine zaf ?_ _)); refine zal ?_ NB118_120.out _; (with_reducible repeat (first | refine zah ?_ _ | refine zad ?_ | refine zaf ?_ _)); refine zal ?_ NB118_120.out _; (with_reducible repeat (first | refine zah ?_ _ | refine zad ?_ | refine zaf ?_ _)); exact BK118.out)) : gb118 ≠ gb122)); have NB122_118 := zab.mk ((by rw [hg]; exact Nat.ne_of_gt (za3 (g := gb118) (o := .cells #[.slice (some ad121) l1_0.length c1_0] 24 (0, 0)) (by (with_reducible repeat (first | refine zah ?_ _ | refine zad ?_ | refine zaf ?_ _)); refine zal ?_ NB118_120.out _; (with_reducible repeat (first | refine zah ?_ _ | refine zad ?_ | refine zaf ?_ _)); refine zal ?_ NB118_120.out _; (with_reducible repeat (first | refine zah ?_ _ | refine zad ?_ | refine zaf ?_ _)); refine zal ?_ NB118_120.out _; (with_reducible repeat (first | refine zah ?_ _ | refine zad ?_ | refine zaf ?_ _)); exact BK118.out)) : gb122 ≠ gb118)); replace BK118 := zab.mk (zaw (g := gb118) (o := .cells #[.slice (some ad121) l1_0.length c1_0] 24 (0, 0)) (by (with_reducible repeat (first | refine zah ?_ _ | refine zad ?_ | refine zaf ?_ _)); refine zal ?_ NB118_120.out _; (with_reducible repeat (first | refine zah ?_ _ | refine zad ?_ | refine zaf ?_ _)); refine zal ?_ NB118_120.out _; (with_reducible repeat (first | refine zah ?_ _ | refine zad ?_ | refine zaf ?_ _)); refine zal ?_ NB118_120.out _; (with_reducible repeat (first | refine zah ?_ _ | refine zad ?_ | refine zaf ?_ _)); exact BK118.out) hb); have NB120_122 := zab.mk ((by rw [hg]; exact Nat.ne_of_lt (za3 (g := gb120) (o := .cells #[.int .i64 ((zaa l0_0 x5_1).f0), .int .i64 ((zaa l0_0 x5_1).f1), .slice A119_2 ((zaa l0_0 x5_1).f2).length c119_2] 38 (0, 0)) (by (with_reducible repeat (first | refine zah ?_ _ | refine zad ?_ | refine zaf ?_ _)); refine zat (cs := #[.int .i64 ((zaa l0_0 x5_1).f0), .int .i64 ((zaa l0_0 x5_1).f1), .slice none 0 0]) ?_ 2 _ rfl; (with_reducible repeat (first | refine zah ?_ _ | refine zad ?_ | refine zaf ?_ _)); refine zat (cs := #[.int .i64 ((zaa l0_0 x5_1).f0), .int .i64 0, .slice none 0 0]) ?_ 1 _ rfl; (with_reducible repeat (first | refine zah ?_ _ | refine zad ?_ | refine zaf ?_ _)); refine zat (cs := #[.int .i64 0, .int .i64 0, .slice none 0 0]) ?_ 0 _ rfl; (with_reducible repeat (first | refine zah ?_ _ | refine zad ?_ | refine zaf ?_ _)); exact BK120.out)) : gb120 ≠ gb122)); have NB122_120 := zab.mk ((by rw [hg]; exact Nat.ne_of_gt (za3 (g := gb120) (o := .cells #[.int .i64 ((zaa l0_0 x5_1).f0), .int .i64 ((zaa l0_0 x5_1).f1), .slice A119_2 ((zaa l0_0 x5_1).f2).length c119_2] 38 (0, 0)) (by (with_reducible repeat (first | refine zah ?_ _ | refine zad ?_ | refine zaf ?_ _)); refine zat (cs := #[.int .i64 ((zaa l0_0 x5_1).f0), .int .i64 ((zaa l0_0 x5_1).f1), .slice none 0 0]) ?_ 2 _ rfl; (with_reducible repeat (first | refine zah ?_ _ | refine zad ?_ | refine zaf ?_ _)); refine zat (cs := #[.int .i64 ((zaa l0_0 x5_1).f0), .int .i64 0, .slice none 0 0]) ?_ 1 _ rfl; (with_reducible repeat (first | refine zah ?_ _ | refine zad ?_ | refine zaf ?_ _)); refine zat (cs := #[.int .i64 0, .int .i64 0, .slice none 0 0]) ?_ 0 _ rfl; (with_reducible repeat (first | refine zah ?_ _ | refine zad ?_ | refine zaf ?_ _)); exact BK120.out)) : gb122 ≠ gb120)); replace BK120 := zab.mk (zaw (g := gb120) (o := .cells #[.int .i64 ((zaa l0_0 x5_1).f0), .int .i64 ((zaa l0_0 x5_1).f1), .slice A119_2 ((zaa l0_0 x5_1).f2).length c119_2] 38 (0, 0)) (by (with_reducible repeat (first | refine zah ?_ _ | refine zad ?_ | refine zaf ?_ _)); refine zat (cs := #[.int .i64 ((zaa l0_0 x5_1).f0), .int .i64 ((zaa l0_0 x5_1).f1), .slice none 0 0]) ?_ 2 _ rfl; (with_reducible repeat (first | refine zah ?_ _ | refine zad ?_ | refine zaf ?_ _)); refine zat (cs := #[.int .i64 ((zaa l0_0 x5_1).f0), .int .i64 0, .slice none 0 0]) ?_ 1 _ rfl; (with_reducible repeat (first | refine zah ?_ _ | refine zad ?_ | refine zaf ?_ _)); refine zat (cs := #[.int .i64 0, .int .i64 0, .slice none 0 0]) ?_ 0 _ rfl; (with_reducible repeat (first | refine zah ?_ _ | refine zad ?_ | refine zaf ?_ _)); exact BK120.out) hb); clear hb hbox hg; have hnb37 := NB122_117.out; have hnc37 := NB117_122.out; have hnb38 := NB122_118.out; have hnc38 := NB118_122.out; have hnb39 := NB122_120.out; have hnc39 := NB120_122.out; obtain ⟨hcz40_0, hfz40_0, hcz40_1, hfz40_1, hcz40_2, hfz40_2⟩ := Yc3 BK122.out; obtain ⟨hcz41_0, hfz41_0, hcz41_1, hfz41_1, hcz41_2, hfz41_2⟩ := Yc3 BK120.out) | (go_at_call 44; (with_reducible refine (zas.calls k1 _ _ ((zaa l0_0 x5_1).f2) _ _ ((zaa l1_0 x5_1).f2) false _ (Kd.zaq HR119_2.out Yb_PGssMergesx3_3) HC119_2.out (Kd.zaq HR121_2.out Yb_PGssMergesx3_3) HC121_2.out A14.out).mono ?_); rintro e w' ⟨rfl, ⟨nd, rfl⟩⟩))
          go_ret
          exact ⟨Yfi, Yb_PGssMergesx3_3⟩
        ·rw [if_neg c13] at H
         have c13b0 : (((zaa l0_0 x5_1).f1) == ((zaa l1_0 x5_1).f1)) = false := beq_eq_false_iff_ne.mpr c13
         have c13b1 : (((zaa l0_0 x5_1).f1) != ((zaa l1_0 x5_1).f1)) = true := bne_iff_ne.mpr c13
         obtain rfl := Option.some.inj H
         have hnb42 := NB117_118.out
         have hnc42 := NB118_117.out
         obtain ⟨hcz43_0, hfz43_0⟩ := Yc1 BK117.out
         have p119 : 0 ≤ (x5_1 : Int) := Yod
         have q119 : x5_1 < (l0_0.length : Int) := Yod
         obtain ⟨ad119, A119_2, c119_2, e119, hx119_0, hx119_1, hx119_2, hl119_2, hi119_2⟩ := zb3 HR0_0.out x5_1 p119 q119
         cases e119
         replace hx119_0 := zaj HB.out hx119_0
         replace hx119_1 := zaj HB.out hx119_1
         replace hx119_2 := zaj HB.out hx119_2
         have HR119_2 := zab.mk hi119_2;have HC119_2 := zab.mk hl119_2;clear hi119_2 hl119_2
         replace p119 := eq_true p119
         replace q119 := eq_true q119
         go_wp2_with (first | ((with_reducible refine za6 (N := 6) rfl ?_); refine Ybx 6 #[.int .i64 0, .int .i64 0, .slice none 0 0] 38 ?_; intro gb120 hg w44 hbox hb; obtain ⟨BK120, GW120, GE120, HB⟩ := Yb4 hbox hg hb Yb_PGssMergesx3_1; have NB117_120 := Ynl BK117 hg; have NB120_117 := Yng BK117 hg; replace BK117 := Ykb BK117 hb; have NB118_120 := Ynl BK118 hg; have NB120_118 := Yng BK118 hg; replace BK118 := Ykb BK118 hb; clear hb hbox hg; have hnb45 := NB120_117.out; have hnc45 := NB117_120.out; have hnb46 := NB120_118.out; have hnc46 := NB118_120.out; obtain ⟨hcz47_0, hfz47_0, hcz47_1, hfz47_1, hcz47_2, hfz47_2⟩ := Yc3 BK120.out; obtain ⟨hcz48_0, hfz48_0⟩ := Yc1 BK118.out; have p121 : 0 ≤ (x5_1 : Int) := Yod; have q121 : x5_1 < (l1_0.length : Int) := Yod; obtain ⟨ad121, A121_2, c121_2, e121, hx121_0, hx121_1, hx121_2, hl121_2, hi121_2⟩ := zb3 HR1_0.out x5_1 p121 q121; cases e121; have hn121_0 : ad121.block ≠ gb120 := Nat.ne_of_lt (Nat.lt_of_lt_of_le (by have := World.block_lt_of_cell? _ _ hx121_0; first | rwa [add_block] at this | exact this) GW120.out); have hn121_1 : ad121.block ≠ gb120 := Nat.ne_of_lt (Nat.lt_of_lt_of_le (by have := World.block_lt_of_cell? _ _ hx121_0; first | rwa [add_block] at this | exact this) GW120.out); have hn121_2 : ad121.block ≠ gb120 := Nat.ne_of_lt (Nat.lt_of_lt_of_le (by have := World.block_lt_of_cell? _ _ hx121_0; first | rwa [add_block] at this | exact this) GW120.out); replace hx121_0 := zaj HB.out hx121_0; replace hx121_1 := zaj HB.out hx121_1; replace hx121_2 := zaj HB.out hx121_2; have HR121_2 := zab.mk hi121_2; have HC121_2 := zab.mk hl121_2; clear hi121_2 hl121_2; replace hx121_0 := Ycf ⟨gb120, 0, none⟩ (.int .i64 ((zaa l0_0 x5_1).f0)) hn121_0 hx121_0; replace hx121_1 := Ycf ⟨gb120, 0, none⟩ (.int .i64 ((zaa l0_0 x5_1).f0)) hn121_0 hx121_1; replace hx121_2 := Ycf ⟨gb120, 0, none⟩ (.int .i64 ((zaa l0_0 x5_1).f0)) hn121_0 hx121_2; replace hx121_0 := Ycf ⟨gb120, 1, none⟩ (.int .i64 ((zaa l0_0 x5_1).f1)) hn121_1 hx121_0; replace hx121_1 := Ycf ⟨gb120, 1, none⟩ (.int .i64 ((zaa l0_0 x5_1).f1)) hn121_1 hx121_1; replace hx121_2 := Ycf ⟨gb120, 1, none⟩ (.int .i64 ((zaa l0_0 x5_1).f1)) hn121_1 hx121_2; replace hx121_0 := Ycf ⟨gb120, 2, none⟩ (.slice A119_2 ((zaa l0_0 x5_1).f2).length c119_2) hn121_2 hx121_0; replace hx121_1 := Ycf ⟨gb120, 2, none⟩ (.slice A119_2 ((zaa l0_0 x5_1).f2).length c119_2) hn121_2 hx121_1; replace hx121_2 := Ycf ⟨gb120, 2, none⟩ (.slice A119_2 ((zaa l0_0 x5_1).f2).length c119_2) hn121_2 hx121_2; clear hn121_0; clear hn121_1; clear hn121_2; replace p121 := eq_true p121; replace q121 := eq_true q121) | ((with_reducible refine za6 (N := 7) rfl ?_); refine Ybx 7 #[.int .i64 0, .int .i64 0, .slice none 0 0] 38 ?_; intro gb122 hg w49 hbox hb; obtain ⟨BK122, GW122, GE122, HB⟩ := Yb4 hbox hg hb Yb_PGssMergesx3_2; have NB117_122 := zab.mk ((by rw [hg]; exact Nat.ne_of_lt (za3 (g := gb117) (o := .cells #[.slice (some ad119) l0_0.length c0_0] 24 (0, 0)) (by (with_reducible repeat (first | refine zah ?_ _ | refine zad ?_ | refine zaf ?_ _)); refine zal ?_ NB117_120.out _; (with_reducible repeat (first | refine zah ?_ _ | refine zad ?_ | refine zaf ?_ _)); refine zal ?_ NB117_120.out _; (with_reducible repeat (first | refine zah ?_ _ | refine zad ?_ | refine zaf ?_ _)); refine zal ?_ NB117_120.out _; (with_reducible repeat (first | refine zah ?_ _ | refine zad ?_ | refine zaf ?_ _)); exact BK117.out)) : gb117 ≠ gb122)); have NB122_117 := zab.mk ((by rw [hg]; exact Nat.ne_of_gt (za3 (g := gb117) (o := .cells #[.slice (some ad119) l0_0.length c0_0] 24 (0, 0)) (by (with_reducible repeat (first | refine zah ?_ _ | refine zad ?_ | refine zaf ?_ _)); refine zal ?_ NB117_120.out _; (with_reducible repeat (first | refine zah ?_ _ | refine zad ?_ | refine zaf ?_ _)); refine zal ?_ NB117_120.out _; (with_reducible repeat (first | refine zah ?_ _ | refine zad ?_ | refine zaf ?_ _)); refine zal ?_ NB117_120.out _; (with_reducible repeat (first | refine zah ?_ _ | refine zad ?_ | refine zaf ?_ _)); exact BK117.out)) : gb122 ≠ gb117)); replace BK117 := zab.mk (zaw (g := gb117) (o := .cells #[.slice (some ad119) l0_0.length c0_0] 24 (0, 0)) (by (with_reducible repeat (first | refine zah ?_ _ | refine zad ?_ | refine zaf ?_ _)); refine zal ?_ NB117_120.out _; (with_reducible repeat (first | refine zah ?_ _ | refine zad ?_ | refine zaf ?_ _)); refine zal ?_ NB117_120.out _; (with_reducible repeat (first | refine zah ?_ _ | refine zad ?_ | refine zaf ?_ _)); refine zal ?_ NB117_120.out _; (with_reducible repeat (first | refine zah ?_ _ | refine zad ?_ | refine zaf ?_ _)); exact BK117.out) hb); have NB118_122 := zab.mk ((by rw [hg]; exact Nat.ne_of_lt (za3 (g := gb118) (o := .cells #[.slice (some ad121) l1_0.length c1_0] 24 (0, 0)) (by (with_reducible repeat (first | refine zah ?_ _ | refine zad ?_ | refine zaf ?_ _)); refine zal ?_ NB118_120.out _; (with_reducible repeat (first | refine zah ?_ _ | refine zad ?_ | refine zaf ?_ _)); refine zal ?_ NB118_120.out _; (with_reducible repeat (first | refine zah ?_ _ | refine zad ?_ | refine zaf ?_ _)); refine zal ?_ NB118_120.out _; (with_reducible repeat (first | refine zah ?_ _ | refine zad ?_ | refine zaf ?_ _)); exact BK118.out)) : gb118 ≠ gb122)); have NB122_118 := zab.mk ((by rw [hg]; exact Nat.ne_of_gt (za3 (g := gb118) (o := .cells #[.slice (some ad121) l1_0.length c1_0] 24 (0, 0)) (by (with_reducible repeat (first | refine zah ?_ _ | refine zad ?_ | refine zaf ?_ _)); refine zal ?_ NB118_120.out _; (with_reducible repeat (first | refine zah ?_ _ | refine zad ?_ | refine zaf ?_ _)); refine zal ?_ NB118_120.out _; (with_reducible repeat (first | refine zah ?_ _ | refine zad ?_ | refine zaf ?_ _)); refine zal ?_ NB118_120.out _; (with_reducible repeat (first | refine zah ?_ _ | refine zad ?_ | refine zaf ?_ _)); exact BK118.out)) : gb122 ≠ gb118)); replace BK118 := zab.mk (zaw (g := gb118) (o := .cells #[.slice (some ad121) l1_0.length c1_0] 24 (0, 0)) (by (with_reducible repeat (first | refine zah ?_ _ | refine zad ?_ | refine zaf ?_ _)); refine zal ?_ NB118_120.out _; (with_reducible repeat (first | refine zah ?_ _ | refine zad ?_ | refine zaf ?_ _)); refine zal ?_ NB118_120.out _; (with_reducible repeat (first | refine zah ?_ _ | refine zad ?_ | refine zaf ?_ _)); refine zal ?_ NB118_120.out _; (with_reducible repeat (first | refine zah ?_ _ | refine zad ?_ | refine zaf ?_ _)); exact BK118.out) hb); have NB120_122 := zab.mk ((by rw [hg]; exact Nat.ne_of_lt (za3 (g := gb120) (o := .cells #[.int .i64 ((zaa l0_0 x5_1).f0), .int .i64 ((zaa l0_0 x5_1).f1), .slice A119_2 ((zaa l0_0 x5_1).f2).length c119_2] 38 (0, 0)) (by (with_reducible repeat (first | refine zah ?_ _ | refine zad ?_ | refine zaf ?_ _)); refine zat (cs := #[.int .i64 ((zaa l0_0 x5_1).f0), .int .i64 ((zaa l0_0 x5_1).f1), .slice none 0 0]) ?_ 2 _ rfl; (with_reducible repeat (first | refine zah ?_ _ | refine zad ?_ | refine zaf ?_ _)); refine zat (cs := #[.int .i64 ((zaa l0_0 x5_1).f0), .int .i64 0, .slice none 0 0]) ?_ 1 _ rfl; (with_reducible repeat (first | refine zah ?_ _ | refine zad ?_ | refine zaf ?_ _)); refine zat (cs := #[.int .i64 0, .int .i64 0, .slice none 0 0]) ?_ 0 _ rfl; (with_reducible repeat (first | refine zah ?_ _ | refine zad ?_ | refine zaf ?_ _)); exact BK120.out)) : gb120 ≠ gb122)); have NB122_120 := zab.mk ((by rw [hg]; exact Nat.ne_of_gt (za3 (g := gb120) (o := .cells #[.int .i64 ((zaa l0_0 x5_1).f0), .int .i64 ((zaa l0_0 x5_1).f1), .slice A119_2 ((zaa l0_0 x5_1).f2).length c119_2] 38 (0, 0)) (by (with_reducible repeat (first | refine zah ?_ _ | refine zad ?_ | refine zaf ?_ _)); refine zat (cs := #[.int .i64 ((zaa l0_0 x5_1).f0), .int .i64 ((zaa l0_0 x5_1).f1), .slice none 0 0]) ?_ 2 _ rfl; (with_reducible repeat (first | refine zah ?_ _ | refine zad ?_ | refine zaf ?_ _)); refine zat (cs := #[.int .i64 ((zaa l0_0 x5_1).f0), .int .i64 0, .slice none 0 0]) ?_ 1 _ rfl; (with_reducible repeat (first | refine zah ?_ _ | refine zad ?_ | refine zaf ?_ _)); refine zat (cs := #[.int .i64 0, .int .i64 0, .slice none 0 0]) ?_ 0 _ rfl; (with_reducible repeat (first | refine zah ?_ _ | refine zad ?_ | refine zaf ?_ _)); exact BK120.out)) : gb122 ≠ gb120)); replace BK120 := zab.mk (zaw (g := gb120) (o := .cells #[.int .i64 ((zaa l0_0 x5_1).f0), .int .i64 ((zaa l0_0 x5_1).f1), .slice A119_2 ((zaa l0_0 x5_1).f2).length c119_2] 38 (0, 0)) (by (with_reducible repeat (first | refine zah ?_ _ | refine zad ?_ | refine zaf ?_ _)); refine zat (cs := #[.int .i64 ((zaa l0_0 x5_1).f0), .int .i64 ((zaa l0_0 x5_1).f1), .slice none 0 0]) ?_ 2 _ rfl; (with_reducible repeat (first | refine zah ?_ _ | refine zad ?_ | refine zaf ?_ _)); refine zat (cs := #[.int .i64 ((zaa l0_0 x5_1).f0), .int .i64 0, .slice none 0 0]) ?_ 1 _ rfl; (with_reducible repeat (first | refine zah ?_ _ | refine zad ?_ | refine zaf ?_ _)); refine zat (cs := #[.int .i64 0, .int .i64 0, .slice none 0 0]) ?_ 0 _ rfl; (with_reducible repeat (first | refine zah ?_ _ | refine zad ?_ | refine zaf ?_ _)); exact BK120.out) hb); clear hb hbox hg; have hnb50 := NB122_117.out; have hnc50 := NB117_122.out; have hnb51 := NB122_118.out; have hnc51 := NB118_122.out; have hnb52 := NB122_120.out; have hnc52 := NB120_122.out; obtain ⟨hcz53_0, hfz53_0, hcz53_1, hfz53_1, hcz53_2, hfz53_2⟩ := Yc3 BK122.out; obtain ⟨hcz54_0, hfz54_0, hcz54_1, hfz54_1, hcz54_2, hfz54_2⟩ := Yc3 BK120.out))
         go_ret
         exact ⟨Yfi, Yb_PGssMergesx3_3⟩
       ·rw [if_neg c12] at H
        have c12b0 : (((zaa l0_0 x5_1).f0) == ((zaa l1_0 x5_1).f0)) = false := beq_eq_false_iff_ne.mpr c12
        have c12b1 : (((zaa l0_0 x5_1).f0) != ((zaa l1_0 x5_1).f0)) = true := bne_iff_ne.mpr c12
        obtain rfl := Option.some.inj H
        have hnb55 := NB117_118.out
        have hnc55 := NB118_117.out
        obtain ⟨hcz56_0, hfz56_0⟩ := Yc1 BK117.out
        have p119 : 0 ≤ (x5_1 : Int) := Yod
        have q119 : x5_1 < (l0_0.length : Int) := Yod
        obtain ⟨ad119, A119_2, c119_2, e119, hx119_0, hx119_1, hx119_2, hl119_2, hi119_2⟩ := zb3 HR0_0.out x5_1 p119 q119
        cases e119
        replace hx119_0 := zaj HB.out hx119_0
        replace hx119_1 := zaj HB.out hx119_1
        replace hx119_2 := zaj HB.out hx119_2
        have HR119_2 := zab.mk hi119_2;have HC119_2 := zab.mk hl119_2;clear hi119_2 hl119_2
        replace p119 := eq_true p119
        replace q119 := eq_true q119
        go_wp2_with (first | ((with_reducible refine za6 (N := 6) rfl ?_); refine Ybx 6 #[.int .i64 0, .int .i64 0, .slice none 0 0] 38 ?_; intro gb120 hg w57 hbox hb; obtain ⟨BK120, GW120, GE120, HB⟩ := Yb4 hbox hg hb Yb_PGssMergesx3_1; have NB117_120 := Ynl BK117 hg; have NB120_117 := Yng BK117 hg; replace BK117 := Ykb BK117 hb; have NB118_120 := Ynl BK118 hg; have NB120_118 := Yng BK118 hg; replace BK118 := Ykb BK118 hb; clear hb hbox hg; have hnb58 := NB120_117.out; have hnc58 := NB117_120.out; have hnb59 := NB120_118.out; have hnc59 := NB118_120.out; obtain ⟨hcz60_0, hfz60_0, hcz60_1, hfz60_1, hcz60_2, hfz60_2⟩ := Yc3 BK120.out; obtain ⟨hcz61_0, hfz61_0⟩ := Yc1 BK118.out; have p121 : 0 ≤ (x5_1 : Int) := Yod; have q121 : x5_1 < (l1_0.length : Int) := Yod; obtain ⟨ad121, A121_2, c121_2, e121, hx121_0, hx121_1, hx121_2, hl121_2, hi121_2⟩ := zb3 HR1_0.out x5_1 p121 q121; cases e121; have hn121_0 : ad121.block ≠ gb120 := Nat.ne_of_lt (Nat.lt_of_lt_of_le (by have := World.block_lt_of_cell? _ _ hx121_0; first | rwa [add_block] at this | exact this) GW120.out); have hn121_1 : ad121.block ≠ gb120 := Nat.ne_of_lt (Nat.lt_of_lt_of_le (by have := World.block_lt_of_cell? _ _ hx121_0; first | rwa [add_block] at this | exact this) GW120.out); have hn121_2 : ad121.block ≠ gb120 := Nat.ne_of_lt (Nat.lt_of_lt_of_le (by have := World.block_lt_of_cell? _ _ hx121_0; first | rwa [add_block] at this | exact this) GW120.out); replace hx121_0 := zaj HB.out hx121_0; replace hx121_1 := zaj HB.out hx121_1; replace hx121_2 := zaj HB.out hx121_2; have HR121_2 := zab.mk hi121_2; have HC121_2 := zab.mk hl121_2; clear hi121_2 hl121_2; replace hx121_0 := Ycf ⟨gb120, 0, none⟩ (.int .i64 ((zaa l0_0 x5_1).f0)) hn121_0 hx121_0; replace hx121_1 := Ycf ⟨gb120, 0, none⟩ (.int .i64 ((zaa l0_0 x5_1).f0)) hn121_0 hx121_1; replace hx121_2 := Ycf ⟨gb120, 0, none⟩ (.int .i64 ((zaa l0_0 x5_1).f0)) hn121_0 hx121_2; replace hx121_0 := Ycf ⟨gb120, 1, none⟩ (.int .i64 ((zaa l0_0 x5_1).f1)) hn121_1 hx121_0; replace hx121_1 := Ycf ⟨gb120, 1, none⟩ (.int .i64 ((zaa l0_0 x5_1).f1)) hn121_1 hx121_1; replace hx121_2 := Ycf ⟨gb120, 1, none⟩ (.int .i64 ((zaa l0_0 x5_1).f1)) hn121_1 hx121_2; replace hx121_0 := Ycf ⟨gb120, 2, none⟩ (.slice A119_2 ((zaa l0_0 x5_1).f2).length c119_2) hn121_2 hx121_0; replace hx121_1 := Ycf ⟨gb120, 2, none⟩ (.slice A119_2 ((zaa l0_0 x5_1).f2).length c119_2) hn121_2 hx121_1; replace hx121_2 := Ycf ⟨gb120, 2, none⟩ (.slice A119_2 ((zaa l0_0 x5_1).f2).length c119_2) hn121_2 hx121_2; clear hn121_0; clear hn121_1; clear hn121_2; replace p121 := eq_true p121; replace q121 := eq_true q121) | ((with_reducible refine za6 (N := 7) rfl ?_); refine Ybx 7 #[.int .i64 0, .int .i64 0, .slice none 0 0] 38 ?_; intro gb122 hg w62 hbox hb; obtain ⟨BK122, GW122, GE122, HB⟩ := Yb4 hbox hg hb Yb_PGssMergesx3_2; have NB117_122 := zab.mk ((by rw [hg]; exact Nat.ne_of_lt (za3 (g := gb117) (o := .cells #[.slice (some ad119) l0_0.length c0_0] 24 (0, 0)) (by (with_reducible repeat (first | refine zah ?_ _ | refine zad ?_ | refine zaf ?_ _)); refine zal ?_ NB117_120.out _; (with_reducible repeat (first | refine zah ?_ _ | refine zad ?_ | refine zaf ?_ _)); refine zal ?_ NB117_120.out _; (with_reducible repeat (first | refine zah ?_ _ | refine zad ?_ | refine zaf ?_ _)); refine zal ?_ NB117_120.out _; (with_reducible repeat (first | refine zah ?_ _ | refine zad ?_ | refine zaf ?_ _)); exact BK117.out)) : gb117 ≠ gb122)); have NB122_117 := zab.mk ((by rw [hg]; exact Nat.ne_of_gt (za3 (g := gb117) (o := .cells #[.slice (some ad119) l0_0.length c0_0] 24 (0, 0)) (by (with_reducible repeat (first | refine zah ?_ _ | refine zad ?_ | refine zaf ?_ _)); refine zal ?_ NB117_120.out _; (with_reducible repeat (first | refine zah ?_ _ | refine zad ?_ | refine zaf ?_ _)); refine zal ?_ NB117_120.out _; (with_reducible repeat (first | refine zah ?_ _ | refine zad ?_ | refine zaf ?_ _)); refine zal ?_ NB117_120.out _; (with_reducible repeat (first | refine zah ?_ _ | refine zad ?_ | refine zaf ?_ _)); exact BK117.out)) : gb122 ≠ gb117)); replace BK117 := zab.mk (zaw (g := gb117) (o := .cells #[.slice (some ad119) l0_0.length c0_0] 24 (0, 0)) (by (with_reducible repeat (first | refine zah ?_ _ | refine zad ?_ | refine zaf ?_ _)); refine zal ?_ NB117_120.out _; (with_reducible repeat (first | refine zah ?_ _ | refine zad ?_ | refine zaf ?_ _)); refine zal ?_ NB117_120.out _; (with_reducible repeat (first | refine zah ?_ _ | refine zad ?_ | refine zaf ?_ _)); refine zal ?_ NB117_120.out _; (with_reducible repeat (first | refine zah ?_ _ | refine zad ?_ | refine zaf ?_ _)); exact BK117.out) hb); have NB118_122 := zab.mk ((by rw [hg]; exact Nat.ne_of_lt (za3 (g := gb118) (o := .cells #[.slice (some ad121) l1_0.length c1_0] 24 (0, 0)) (by (with_reducible repeat (first | refine zah ?_ _ | refine zad ?_ | refine zaf ?_ _)); refine zal ?_ NB118_120.out _; (with_reducible repeat (first | refine zah ?_ _ | refine zad ?_ | refine zaf ?_ _)); refine zal ?_ NB118_120.out _; (with_reducible repeat (first | refine zah ?_ _ | refine zad ?_ | refine zaf ?_ _)); refine zal ?_ NB118_120.out _; (with_reducible repeat (first | refine zah ?_ _ | refine zad ?_ | refine zaf ?_ _)); exact BK118.out)) : gb118 ≠ gb122)); have NB122_118 := zab.mk ((by rw [hg]; exact Nat.ne_of_gt (za3 (g := gb118) (o := .cells #[.slice (some ad121) l1_0.length c1_0] 24 (0, 0)) (by (with_reducible repeat (first | refine zah ?_ _ | refine zad ?_ | refine zaf ?_ _)); refine zal ?_ NB118_120.out _; (with_reducible repeat (first | refine zah ?_ _ | refine zad ?_ | refine zaf ?_ _)); refine zal ?_ NB118_120.out _; (with_reducible repeat (first | refine zah ?_ _ | refine zad ?_ | refine zaf ?_ _)); refine zal ?_ NB118_120.out _; (with_reducible repeat (first | refine zah ?_ _ | refine zad ?_ | refine zaf ?_ _)); exact BK118.out)) : gb122 ≠ gb118)); replace BK118 := zab.mk (zaw (g := gb118) (o := .cells #[.slice (some ad121) l1_0.length c1_0] 24 (0, 0)) (by (with_reducible repeat (first | refine zah ?_ _ | refine zad ?_ | refine zaf ?_ _)); refine zal ?_ NB118_120.out _; (with_reducible repeat (first | refine zah ?_ _ | refine zad ?_ | refine zaf ?_ _)); refine zal ?_ NB118_120.out _; (with_reducible repeat (first | refine zah ?_ _ | refine zad ?_ | refine zaf ?_ _)); refine zal ?_ NB118_120.out _; (with_reducible repeat (first | refine zah ?_ _ | refine zad ?_ | refine zaf ?_ _)); exact BK118.out) hb); have NB120_122 := zab.mk ((by rw [hg]; exact Nat.ne_of_lt (za3 (g := gb120) (o := .cells #[.int .i64 ((zaa l0_0 x5_1).f0), .int .i64 ((zaa l0_0 x5_1).f1), .slice A119_2 ((zaa l0_0 x5_1).f2).length c119_2] 38 (0, 0)) (by (with_reducible repeat (first | refine zah ?_ _ | refine zad ?_ | refine zaf ?_ _)); refine zat (cs := #[.int .i64 ((zaa l0_0 x5_1).f0), .int .i64 ((zaa l0_0 x5_1).f1), .slice none 0 0]) ?_ 2 _ rfl; (with_reducible repeat (first | refine zah ?_ _ | refine zad ?_ | refine zaf ?_ _)); refine zat (cs := #[.int .i64 ((zaa l0_0 x5_1).f0), .int .i64 0, .slice none 0 0]) ?_ 1 _ rfl; (with_reducible repeat (first | refine zah ?_ _ | refine zad ?_ | refine zaf ?_ _)); refine zat (cs := #[.int .i64 0, .int .i64 0, .slice none 0 0]) ?_ 0 _ rfl; (with_reducible repeat (first | refine zah ?_ _ | refine zad ?_ | refine zaf ?_ _)); exact BK120.out)) : gb120 ≠ gb122)); have NB122_120 := zab.mk ((by rw [hg]; exact Nat.ne_of_gt (za3 (g := gb120) (o := .cells #[.int .i64 ((zaa l0_0 x5_1).f0), .int .i64 ((zaa l0_0 x5_1).f1), .slice A119_2 ((zaa l0_0 x5_1).f2).length c119_2] 38 (0, 0)) (by (with_reducible repeat (first | refine zah ?_ _ | refine zad ?_ | refine zaf ?_ _)); refine zat (cs := #[.int .i64 ((zaa l0_0 x5_1).f0), .int .i64 ((zaa l0_0 x5_1).f1), .slice none 0 0]) ?_ 2 _ rfl; (with_reducible repeat (first | refine zah ?_ _ | refine zad ?_ | refine zaf ?_ _)); refine zat (cs := #[.int .i64 ((zaa l0_0 x5_1).f0), .int .i64 0, .slice none 0 0]) ?_ 1 _ rfl; (with_reducible repeat (first | refine zah ?_ _ | refine zad ?_ | refine zaf ?_ _)); refine zat (cs := #[.int .i64 0, .int .i64 0, .slice none 0 0]) ?_ 0 _ rfl; (with_reducible repeat (first | refine zah ?_ _ | refine zad ?_ | refine zaf ?_ _)); exact BK120.out)) : gb122 ≠ gb120)); replace BK120 := zab.mk (zaw (g := gb120) (o := .cells #[.int .i64 ((zaa l0_0 x5_1).f0), .int .i64 ((zaa l0_0 x5_1).f1), .slice A119_2 ((zaa l0_0 x5_1).f2).length c119_2] 38 (0, 0)) (by (with_reducible repeat (first | refine zah ?_ _ | refine zad ?_ | refine zaf ?_ _)); refine zat (cs := #[.int .i64 ((zaa l0_0 x5_1).f0), .int .i64 ((zaa l0_0 x5_1).f1), .slice none 0 0]) ?_ 2 _ rfl; (with_reducible repeat (first | refine zah ?_ _ | refine zad ?_ | refine zaf ?_ _)); refine zat (cs := #[.int .i64 ((zaa l0_0 x5_1).f0), .int .i64 0, .slice none 0 0]) ?_ 1 _ rfl; (with_reducible repeat (first | refine zah ?_ _ | refine zad ?_ | refine zaf ?_ _)); refine zat (cs := #[.int .i64 0, .int .i64 0, .slice none 0 0]) ?_ 0 _ rfl; (with_reducible repeat (first | refine zah ?_ _ | refine zad ?_ | refine zaf ?_ _)); exact BK120.out) hb); clear hb hbox hg; have hnb63 := NB122_117.out; have hnc63 := NB117_122.out; have hnb64 := NB122_118.out; have hnc64 := NB118_122.out; have hnb65 := NB122_120.out; have hnc65 := NB120_122.out; obtain ⟨hcz66_0, hfz66_0, hcz66_1, hfz66_1, hcz66_2, hfz66_2⟩ := Yc3 BK122.out; obtain ⟨hcz67_0, hfz67_0, hcz67_1, hfz67_1, hcz67_2, hfz67_2⟩ := Yc3 BK120.out))
        go_ret
        exact ⟨Yfi, Yb_PGssMergesx3_3⟩
      ·rw [if_neg c11] at H
       exact absurd H (by simp)
     ·rw [if_neg c10] at H
      exact absurd H (by simp)
    ·rw [if_neg c9] at H
     have c9b0 := decide_eq_false c9
     clear c9;obtain rfl := Option.some.inj H
     have hnb68 := NB117_118.out
     have hnc68 := NB118_117.out
     obtain ⟨hcz69_0, hfz69_0⟩ := Yc1 BK117.out
     go_wp2;go_ret
     exact ⟨Yfi, Yb_PGssMergesx3_1⟩
 ·rw [if_neg c3] at H
  have c3b0 : ((l0_0.length : Int) == (l1_0.length : Int)) = false := beq_eq_false_iff_ne.mpr c3
  have c3b1 : ((l0_0.length : Int) != (l1_0.length : Int)) = true := bne_iff_ne.mpr c3
  have c3b2 : (l0_0.length == l1_0.length) = false := by first | simpa using c3 | (simp at c3 ⊢; omega)
  obtain rfl := Option.some.inj H
  go_enter Try.func16, Try.ntmps16
  go_wp2_with (first | ((with_reducible refine za6 (N := 2) rfl ?_); refine Ybx 2 #[.slice A0_0 l0_0.length c0_0] 24 ?_; intro gb117 hg w70 hbox hb; obtain ⟨BK117, GW117, GE117, HB⟩ := Yb4 hbox hg hb Ybe; clear hb hbox hg) | ((with_reducible refine za6 (N := 3) rfl ?_); refine Ybx 3 #[.slice A1_0 l1_0.length c1_0] 24 ?_; intro gb118 hg w71 hbox hb; obtain ⟨BK118, GW118, GE118, HB⟩ := Yb4 hbox hg hb Yb_PGssMergesx3_0; have NB117_118 := Ynl BK117 hg; have NB118_117 := Yng BK117 hg; replace BK117 := Ykb BK117 hb; clear hb hbox hg; have hnb72 := NB117_118.out; have hnc72 := NB118_117.out; obtain ⟨hcz73_0, hfz73_0⟩ := Yc1 BK117.out; obtain ⟨hcz74_0, hfz74_0⟩ := Yc1 BK118.out))
  go_ret
  exact ⟨Yfi, Yb_PGssMergesx3_1⟩
def ndT (x : S38) : G16.Nd := (x.f0, x.f1, x.f2)
def ndS (x : G16.Nd) : S38 := ⟨x.1, x.2.1, x.2.2⟩
theorem C_ndT {w : World} {A : Option Addr} {n : Nat} {xs : List S38} (h : Kd.C k38 w A n xs) : Kd.C GGr.kN w A n (xs.map ndT) := GAwake.C_iso (d := GGr.kN) (f := ndT) h
theorem R_ndS {e : Nat} {w : World} {base : Nat} {ok : Nat → Prop} {v : Value} {r : List G16.Nd} (h : Kd.R GGr.kN e w base ok v r) : Kd.R k38 e w base ok v (r.map ndS) := GGiv.R_map (d' := k38) rfl (fun _ _ _ h => h) h
def zan.f (l0_0 : List S38) (l1_0 : List S38) : Option (List S38) :=
 if GGiv.fitB (l0_0.map ndT) = true ∧ GGiv.fitB (l1_0.map ndT) = true ∧ l0_0.length + l1_0.length ≤ 4096 ∧ GAdd.cntG (l0_0.map ndT) + GAdd.cntG (l1_0.map ndT) ≤ 100000000 then some ((G16.zb4 (l0_0.map ndT) (l1_0.map ndT)).map ndS) else none
theorem zan.calls (A0_0 : Option Addr) (c0_0 : Nat) (l0_0 : List S38) (A1_0 : Option Addr) (c1_0 : Nat) (l1_0 : List S38) (r : List S38) (w : World) (hr0_0 : Kd.C k38 w A0_0 l0_0.length l0_0) (hc0_0 : l0_0.length ≤ c0_0) (hr1_0 : Kd.C k38 w A1_0 l1_0.length l1_0) (hc1_0 : l1_0.length ≤ c1_0) (h : zan.f l0_0 l1_0 = some r) :
  Calls Try.prog 17 #[.agg #[.slice A0_0 l0_0.length c0_0], .agg #[.slice A1_0 l1_0.length c1_0]] w fun e w' => ∃ v0_ : Value, e = .returned (.agg #[v0_]) ∧ Kd.R k38 38 w' w.heap.size (fun _ => True) v0_ r ∧ Below w.heap.size w w' := by
 unfold zan.f at h
 split at h
 case isFalse => cases h
 rename_i hok
 obtain rfl := Option.some.inj h
 have hl0 : (l0_0.map ndT).length = l0_0.length := by simp
 have hl1 : (l1_0.map ndT).length = l1_0.length := by simp
 have hc := GMerge.merge_calls A0_0 A1_0 c0_0 c1_0 (l0_0.map ndT) (l1_0.map ndT) w (by rw [hl0]; exact C_ndT hr0_0) (by rw [hl1]; exact C_ndT hr1_0) (GGiv.fit_fit hok.1) (GGiv.fit_fit hok.2.1) (by rw [hl0, hl1]; exact hok.2.2.1) hok.2.2.2
 rw [hl0, hl1] at hc
 refine hc.mono ?_
 rintro e w' ⟨v, rfl, hR, hB⟩
 exact ⟨v, rfl, R_ndS hR, hB⟩
theorem Yb_PGssMergesx4_0 {n : Nat} {w w' : World} (h : Below n w w' := by repeat (first | (with_reducible first | exact HB.out | apply za9 | apply za7 | apply zav | refine za4 ?_ GE124.out) | exact HB.out)) : Below n w w' := h
theorem Yb_PGssMergesx4_1 {n : Nat} {w w' : World} (h : Below n w w' := by repeat (first | (with_reducible first | exact HB.out | apply za9 | apply za7 | apply zav | refine za4 ?_ GE124.out | refine za4 ?_ GE125.out) | exact HB.out)) : Below n w w' := h
theorem Yb_PGssMergesx4_2 {n : Nat} {w w' : World} (h : Below n w w' := by repeat (first | (with_reducible first | exact HB.out | apply za9 | apply za7 | apply zav | refine za4 ?_ GE124.out | refine za4 ?_ GE125.out | refine za4 ?_ GE126.out) | exact HB.out)) : Below n w w' := h
theorem Yb_PGssMergesx4_3 {n : Nat} {w w' : World} (h : Below n w w' := by repeat (first | (with_reducible first | exact HB.out | apply za9 | apply za7 | apply zav | refine za4 ?_ GE124.out | refine za4 ?_ GE125.out | refine za4 ?_ GE126.out | refine za4 ?_ GE137.out) | exact HB.out)) : Below n w w' := h
def zai.j0 : Nat → Bool → List (S38) → List (S38) → List (S38) → Option (Bool)
 | 0, _, _, _, _ => none
 | k + 1, x35, x125000, x126000, x127000 => if x35 = true then ((za1.f).bind fun t133 => (some t133)) else ((zan.f x125000 x126000).bind fun t134 => ((zae.f k t134).bind fun t138 => (if t138 = true then ((zan.f x126000 x125000).bind fun t139 => ((zak.f k t134 t139).bind fun t142 => (if t142 = true then ((zan.f t134 x125000).bind fun t143 => ((zak.f k t143 t134).bind fun t146 => (if t146 = true then ((zan.f t134 x127000).bind fun t147 => ((zan.f x126000 x127000).bind fun t150 => ((zan.f x125000 t150).bind fun t153 => ((zak.f k t147 t153).bind fun t156 => (if t156 = true then ((za1.f).bind fun t157 => (some t157)) else (some false)))))) else (some false)))) else (some false)))) else (some false))))
def zai.f (k : Nat) (l0_0 : List (S38)) (l1_0 : List (S38)) (l2_0 : List (S38)) : Option (Bool) := (zam.f k l0_0).bind fun t127 => (if t127 = true then ((zam.f k l1_0).bind fun t128 => (if t128 = true then ((zam.f k l2_0).bind fun t129 => (if t129 = true then ((zae.f k l0_0).bind fun t130 => (if t130 = true then ((zae.f k l1_0).bind fun t131 => (if t131 = true then ((zae.f k l2_0).bind fun t132 => (zai.j0 k (!t132) l0_0 l1_0 l2_0)) else (zai.j0 k true l0_0 l1_0 l2_0))) else (zai.j0 k true l0_0 l1_0 l2_0))) else (zai.j0 k true l0_0 l1_0 l2_0))) else (zai.j0 k true l0_0 l1_0 l2_0))) else (zai.j0 k true l0_0 l1_0 l2_0))
def zai.T4 : Bool × List (List Nat × List Nat) := (true, [([], []), ([0], [0]), ([1, 1], [1]), ([2], [2]), ([2], [2]), ([2], [2]), ([4, 5, 2, 2], [2, 4, 5]), ([3, 6, 6, 2], [2, 3, 6]), ([2, 7], [2, 7]), ([8, 7], [8]), ([9], [9]), ([9], [9]), ([10, 11, 9, 9], [9, 10, 11]), ([9], [9]), ([12, 13, 12, 9], [9, 12, 13]), ([9, 14], [9, 14]), ([15, 14], [15]), ([16], [16]), ([16], [16]), ([17, 18, 16, 16], [16, 17, 18]), ([16], [16]), ([16], [16]), ([16], [16]), ([21, 22, 19, 16], [16, 21, 22]), ([20, 23, 23, 16], [16, 20, 23]), ([19, 24, 24, 16], [16, 19, 24]), ([16, 25], [16, 25]), ([26, 25], [26]), ([27, 27], [27]), ([27, 28], [27, 28]), ([29, 28, 0, 1, 2, 3, 4, 5, 6, 7, 8, 9, 10, 11, 12, 13, 14, 15, 16, 17, 18, 19, 20, 21, 22, 23, 24, 25, 26, 27, 28, 29], [29])])
def zai.B4 : List Nat := [0, 1, 3, 7, 7, 7, 55, 127, 255, 511, 1023, 1023, 4095, 1023, 16383, 32767, 65535, 131071, 131071, 524287, 131071, 131071, 131071, 7340031, 16777215, 33554431, 67108863, 134217727, 268435455, 536870911, 1073741823]
theorem zai.tab4 : rtab .any (opsOf Try.f5 4) = zai.T4 := by kernel_rfl
theorem zai.bits4 : zck zai.T4.2 zai.B4 = true := by kernel_rfl
theorem zai.calls (k : Nat) (A0_0 : Option Addr) (c0_0 : Nat) (l0_0 : List (S38)) (A1_0 : Option Addr) (c1_0 : Nat) (l1_0 : List (S38)) (A2_0 : Option Addr) (c2_0 : Nat) (l2_0 : List (S38)) (r : Bool) (w : World) (hr0_0 : Kd.C k38 w A0_0 l0_0.length l0_0) (hc0_0 : l0_0.length ≤ c0_0) (hr1_0 : Kd.C k38 w A1_0 l1_0.length l1_0) (hc1_0 : l1_0.length ≤ c1_0) (hr2_0 : Kd.C k38 w A2_0 l2_0.length l2_0) (hc2_0 : l2_0.length ≤ c2_0) (h : zai.f k l0_0 l1_0 l2_0 = some r) :
  Calls Try.prog 5 #[.agg #[.slice A0_0 l0_0.length c0_0], .agg #[.slice A1_0 l1_0.length c1_0], .agg #[.slice A2_0 l2_0.length c2_0]] w fun e w' => e = .returned (.bool r) ∧ Below w.heap.size w w' := by
 have hu24 := Try.underlying24
 have HR0_0 := zab.mk hr0_0;have HC0_0 := zab.mk hc0_0;clear hr0_0 hc0_0;have HR1_0 := zab.mk hr1_0;have HC1_0 := zab.mk hc1_0;clear hr1_0 hc1_0;have HR2_0 := zab.mk hr2_0;have HC2_0 := zab.mk hc2_0;clear hr2_0 hc2_0
 have HB := zab.mk (Below.refl w.heap.size w)
 have H : ((zam.f k l0_0).bind fun t127 => (if t127 = true then ((zam.f k l1_0).bind fun t128 => (if t128 = true then ((zam.f k l2_0).bind fun t129 => (if t129 = true then ((zae.f k l0_0).bind fun t130 => (if t130 = true then ((zae.f k l1_0).bind fun t131 => (if t131 = true then ((zae.f k l2_0).bind fun t132 => (zai.j0 k (!t132) l0_0 l1_0 l2_0)) else (zai.j0 k true l0_0 l1_0 l2_0))) else (zai.j0 k true l0_0 l1_0 l2_0))) else (zai.j0 k true l0_0 l1_0 l2_0))) else (zai.j0 k true l0_0 l1_0 l2_0))) else (zai.j0 k true l0_0 l1_0 l2_0))) = some r := h
 clear h;have HC4 := zab.mk H;clear H
 go_enter Try.func5, Try.ntmps5
 go_upto_region 1 with (first | ((with_reducible refine za6 (N := 3) rfl ?_); refine Ybx 3 #[.slice A0_0 l0_0.length c0_0] 24 ?_; intro gb124 hg w5 hbox hb; obtain ⟨BK124, GW124, GE124, HB⟩ := Yb4 hbox hg hb Ybe; clear hb hbox hg) | ((with_reducible refine za6 (N := 4) rfl ?_); refine Ybx 4 #[.slice A1_0 l1_0.length c1_0] 24 ?_; intro gb125 hg w6 hbox hb; obtain ⟨BK125, GW125, GE125, HB⟩ := Yb4 hbox hg hb Yb_PGssMergesx4_0; have NB124_125 := Ynl BK124 hg; have NB125_124 := Yng BK124 hg; replace BK124 := Ykb BK124 hb; clear hb hbox hg) | ((with_reducible refine za6 (N := 5) rfl ?_); refine Ybx 5 #[.slice A2_0 l2_0.length c2_0] 24 ?_; intro gb126 hg w7 hbox hb; obtain ⟨BK126, GW126, GE126, HB⟩ := Yb4 hbox hg hb Yb_PGssMergesx4_1; have NB124_126 := Ynl BK124 hg; have NB126_124 := Yng BK124 hg; replace BK124 := Ykb BK124 hb; have NB125_126 := Ynl BK125 hg; have NB126_125 := Yng BK125 hg; replace BK125 := Ykb BK125 hb; clear hb hbox hg))
 (try simp only [Act.put, Y1, Y2, Y3])
 go_cut [35] (fun v35 wc => ∃ (kq : Nat) (x35_3 : Bool), v35 = .bool x35_3 ∧ zab (zai.j0 kq x35_3 l0_0 l1_0 l2_0 = some r) ∧ zab (kq ≤ k) ∧ zab (wc.heap[gb124]? = some (.cells #[(.slice A0_0 l0_0.length c0_0)] 24 (0, 0))) ∧ zab (wc.heap[gb125]? = some (.cells #[(.slice A1_0 l1_0.length c1_0)] 24 (0, 0))) ∧ zab (wc.heap[gb126]? = some (.cells #[(.slice A2_0 l2_0.length c2_0)] 24 (0, 0))) ∧ zab (Below w.heap.size w wc))
 case first =>
  have H := HC4.out;clear HC4;replace H := Option.bind_eq_some_iff.mp H
  obtain ⟨t127, A80, H⟩ := H
  replace H : (if t127 = true then ((zam.f k l1_0).bind fun t128 => (if t128 = true then ((zam.f k l2_0).bind fun t129 => (if t129 = true then ((zae.f k l0_0).bind fun t130 => (if t130 = true then ((zae.f k l1_0).bind fun t131 => (if t131 = true then ((zae.f k l2_0).bind fun t132 => (zai.j0 k (!t132) l0_0 l1_0 l2_0)) else (zai.j0 k true l0_0 l1_0 l2_0))) else (zai.j0 k true l0_0 l1_0 l2_0))) else (zai.j0 k true l0_0 l1_0 l2_0))) else (zai.j0 k true l0_0 l1_0 l2_0))) else (zai.j0 k true l0_0 l1_0 l2_0)) = some r := H
  have A8 := zab.mk A80;clear A80
  by_cases c9 : t127 = true
  ·subst c9
   have H1 : ((zam.f k l1_0).bind fun t128 => (if t128 = true then ((zam.f k l2_0).bind fun t129 => (if t129 = true then ((zae.f k l0_0).bind fun t130 => (if t130 = true then ((zae.f k l1_0).bind fun t131 => (if t131 = true then ((zae.f k l2_0).bind fun t132 => (zai.j0 k (!t132) l0_0 l1_0 l2_0)) else (zai.j0 k true l0_0 l1_0 l2_0))) else (zai.j0 k true l0_0 l1_0 l2_0))) else (zai.j0 k true l0_0 l1_0 l2_0))) else (zai.j0 k true l0_0 l1_0 l2_0))) = some r := by rw [if_pos rfl] at H; exact H
   clear H;have H := H1;clear H1;replace H := Option.bind_eq_some_iff.mp H
   obtain ⟨t128, A100, H⟩ := H
   replace H : (if t128 = true then ((zam.f k l2_0).bind fun t129 => (if t129 = true then ((zae.f k l0_0).bind fun t130 => (if t130 = true then ((zae.f k l1_0).bind fun t131 => (if t131 = true then ((zae.f k l2_0).bind fun t132 => (zai.j0 k (!t132) l0_0 l1_0 l2_0)) else (zai.j0 k true l0_0 l1_0 l2_0))) else (zai.j0 k true l0_0 l1_0 l2_0))) else (zai.j0 k true l0_0 l1_0 l2_0))) else (zai.j0 k true l0_0 l1_0 l2_0)) = some r := H
   have A10 := zab.mk A100;clear A100
   by_cases c11 : t128 = true
   ·subst c11
    have H1 : ((zam.f k l2_0).bind fun t129 => (if t129 = true then ((zae.f k l0_0).bind fun t130 => (if t130 = true then ((zae.f k l1_0).bind fun t131 => (if t131 = true then ((zae.f k l2_0).bind fun t132 => (zai.j0 k (!t132) l0_0 l1_0 l2_0)) else (zai.j0 k true l0_0 l1_0 l2_0))) else (zai.j0 k true l0_0 l1_0 l2_0))) else (zai.j0 k true l0_0 l1_0 l2_0))) = some r := by rw [if_pos rfl] at H; exact H
    clear H;have H := H1;clear H1;replace H := Option.bind_eq_some_iff.mp H
    obtain ⟨t129, A120, H⟩ := H
    replace H : (if t129 = true then ((zae.f k l0_0).bind fun t130 => (if t130 = true then ((zae.f k l1_0).bind fun t131 => (if t131 = true then ((zae.f k l2_0).bind fun t132 => (zai.j0 k (!t132) l0_0 l1_0 l2_0)) else (zai.j0 k true l0_0 l1_0 l2_0))) else (zai.j0 k true l0_0 l1_0 l2_0))) else (zai.j0 k true l0_0 l1_0 l2_0)) = some r := H
    have A12 := zab.mk A120;clear A120
    by_cases c13 : t129 = true
    ·subst c13
     have H1 : ((zae.f k l0_0).bind fun t130 => (if t130 = true then ((zae.f k l1_0).bind fun t131 => (if t131 = true then ((zae.f k l2_0).bind fun t132 => (zai.j0 k (!t132) l0_0 l1_0 l2_0)) else (zai.j0 k true l0_0 l1_0 l2_0))) else (zai.j0 k true l0_0 l1_0 l2_0))) = some r := by rw [if_pos rfl] at H; exact H
     clear H;have H := H1;clear H1;replace H := Option.bind_eq_some_iff.mp H
     obtain ⟨t130, A140, H⟩ := H
     replace H : (if t130 = true then ((zae.f k l1_0).bind fun t131 => (if t131 = true then ((zae.f k l2_0).bind fun t132 => (zai.j0 k (!t132) l0_0 l1_0 l2_0)) else (zai.j0 k true l0_0 l1_0 l2_0))) else (zai.j0 k true l0_0 l1_0 l2_0)) = some r := H
     have A14 := zab.mk A140;clear A140
     by_cases c15 : t130 = true
     ·subst c15
      have H1 : ((zae.f k l1_0).bind fun t131 => (if t131 = true then ((zae.f k l2_0).bind fun t132 => (zai.j0 k (!t132) l0_0 l1_0 l2_0)) else (zai.j0 k true l0_0 l1_0 l2_0))) = some r := by rw [if_pos rfl] at H; exact H
      clear H;have H := H1;clear H1;replace H := Option.bind_eq_some_iff.mp H
      obtain ⟨t131, A160, H⟩ := H
      replace H : (if t131 = true then ((zae.f k l2_0).bind fun t132 => (zai.j0 k (!t132) l0_0 l1_0 l2_0)) else (zai.j0 k true l0_0 l1_0 l2_0)) = some r := H
      have A16 := zab.mk A160;clear A160
      by_cases c17 : t131 = true
      ·subst c17
       have H1 : ((zae.f k l2_0).bind fun t132 => (zai.j0 k (!t132) l0_0 l1_0 l2_0)) = some r := by rw [if_pos rfl] at H; exact H
       clear H;have H := H1;clear H1;replace H := Option.bind_eq_some_iff.mp H
       obtain ⟨t132, A180, H⟩ := H
       replace H : (zai.j0 k (!t132) l0_0 l1_0 l2_0) = some r := H
       have A18 := zab.mk A180;clear A180
       have H' := zab.mk H
       clear H
       have hnb19 := NB124_125.out
       have hnc19 := NB125_124.out
       have hnb20 := NB124_126.out
       have hnc20 := NB126_124.out
       obtain ⟨hcz21_0, hfz21_0⟩ := Yc1 BK124.out
       go_wp2_with (first | ((with_reducible refine za5 (f := 7) rfl ?_); refine Ygl (some 9) Try.func7 #[.agg #[.slice A0_0 l0_0.length c0_0]] ?_; (with_reducible refine (zam.calls k _ _ l0_0 true _ (Kd.zaq HR0_0.out Ybe) HC0_0.out A8.out).mono ?_); rintro e w22 ⟨rfl, hb⟩; refine ⟨_, rfl, ?_⟩; replace BK124 := Ykb BK124 hb; replace BK125 := Ykb BK125 hb; replace BK126 := Ykb BK126 hb; replace HB := zab.mk (zar Yb_PGssMergesx4_2 hb); (try clear hb); (try clear hb2); (try clear hk); (try clear hi); have hnb23 := NB125_126.out; have hnc23 := NB126_125.out; obtain ⟨hcz24_0, hfz24_0⟩ := Yc1 BK125.out) | (go_at_call 7; (with_reducible refine (zam.calls k _ _ l1_0 true _ (Kd.zaq HR1_0.out Ybe) HC1_0.out A10.out).mono ?_); rintro e w25 ⟨rfl, hb⟩; replace BK124 := Ykb BK124 hb; replace BK125 := Ykb BK125 hb; replace BK126 := Ykb BK126 hb; replace HB := zab.mk (zar Yb_PGssMergesx4_2 hb); (try clear hb); (try clear hb2); (try clear hk); (try clear hi); obtain ⟨hcz26_0, hfz26_0⟩ := Yc1 BK126.out) | (go_at_call 7; (with_reducible refine (zam.calls k _ _ l2_0 true _ (Kd.zaq HR2_0.out Ybe) HC2_0.out A12.out).mono ?_); rintro e w27 ⟨rfl, hb⟩; replace BK124 := Ykb BK124 hb; replace BK125 := Ykb BK125 hb; replace BK126 := Ykb BK126 hb; replace HB := zab.mk (zar Yb_PGssMergesx4_2 hb); (try clear hb); (try clear hb2); (try clear hk); (try clear hi); obtain ⟨hcz28_0, hfz28_0⟩ := Yc1 BK124.out) | (go_at_call 8; (with_reducible refine (zae.calls k _ _ l0_0 true _ (Kd.zaq HR0_0.out Ybe) HC0_0.out A14.out).mono ?_); rintro e w29 ⟨rfl, hb⟩; replace BK124 := Ykb BK124 hb; replace BK125 := Ykb BK125 hb; replace BK126 := Ykb BK126 hb; replace HB := zab.mk (zar Yb_PGssMergesx4_2 hb); (try clear hb); (try clear hb2); (try clear hk); (try clear hi); obtain ⟨hcz30_0, hfz30_0⟩ := Yc1 BK125.out) | (go_at_call 8; (with_reducible refine (zae.calls k _ _ l1_0 true _ (Kd.zaq HR1_0.out Ybe) HC1_0.out A16.out).mono ?_); rintro e w31 ⟨rfl, hb⟩; replace BK124 := Ykb BK124 hb; replace BK125 := Ykb BK125 hb; replace BK126 := Ykb BK126 hb; replace HB := zab.mk (zar Yb_PGssMergesx4_2 hb); (try clear hb); (try clear hb2); (try clear hk); (try clear hi); obtain ⟨hcz32_0, hfz32_0⟩ := Yc1 BK126.out) | (go_at_call 8; (with_reducible refine (zae.calls k _ _ l2_0 t132 _ (Kd.zaq HR2_0.out Ybe) HC2_0.out A18.out).mono ?_); rintro e w33 ⟨rfl, hb⟩; replace BK124 := Ykb BK124 hb; replace BK125 := Ykb BK125 hb; replace BK126 := Ykb BK126 hb; replace HB := zab.mk (zar Yb_PGssMergesx4_2 hb); (try clear hb); (try clear hb2); (try clear hk); (try clear hi)))
       go_meet
       case rel => exact ⟨_, (!t132), Yfs, H', ⟨by first | omega | exact Nat.le_refl _⟩, ⟨Yg BK124⟩, ⟨Yg BK125⟩, ⟨Yg BK126⟩, ⟨Yb_PGssMergesx4_2⟩⟩
      ·replace c17 := Bool.eq_false_iff.mpr c17
       subst c17
       have H1 : (zai.j0 k true l0_0 l1_0 l2_0) = some r := by rw [if_neg (show ¬ (false = true) by decide)] at H; exact H
       clear H;have H := H1;clear H1
       have H' := zab.mk H
       clear H
       have hnb34 := NB124_125.out
       have hnc34 := NB125_124.out
       have hnb35 := NB124_126.out
       have hnc35 := NB126_124.out
       obtain ⟨hcz36_0, hfz36_0⟩ := Yc1 BK124.out
       go_wp2_with (first | ((with_reducible refine za5 (f := 7) rfl ?_); refine Ygl (some 9) Try.func7 #[.agg #[.slice A0_0 l0_0.length c0_0]] ?_; (with_reducible refine (zam.calls k _ _ l0_0 true _ (Kd.zaq HR0_0.out Ybe) HC0_0.out A8.out).mono ?_); rintro e w37 ⟨rfl, hb⟩; refine ⟨_, rfl, ?_⟩; replace BK124 := Ykb BK124 hb; replace BK125 := Ykb BK125 hb; replace BK126 := Ykb BK126 hb; replace HB := zab.mk (zar Yb_PGssMergesx4_2 hb); (try clear hb); (try clear hb2); (try clear hk); (try clear hi); have hnb38 := NB125_126.out; have hnc38 := NB126_125.out; obtain ⟨hcz39_0, hfz39_0⟩ := Yc1 BK125.out) | (go_at_call 7; (with_reducible refine (zam.calls k _ _ l1_0 true _ (Kd.zaq HR1_0.out Ybe) HC1_0.out A10.out).mono ?_); rintro e w40 ⟨rfl, hb⟩; replace BK124 := Ykb BK124 hb; replace BK125 := Ykb BK125 hb; replace BK126 := Ykb BK126 hb; replace HB := zab.mk (zar Yb_PGssMergesx4_2 hb); (try clear hb); (try clear hb2); (try clear hk); (try clear hi); obtain ⟨hcz41_0, hfz41_0⟩ := Yc1 BK126.out) | (go_at_call 7; (with_reducible refine (zam.calls k _ _ l2_0 true _ (Kd.zaq HR2_0.out Ybe) HC2_0.out A12.out).mono ?_); rintro e w42 ⟨rfl, hb⟩; replace BK124 := Ykb BK124 hb; replace BK125 := Ykb BK125 hb; replace BK126 := Ykb BK126 hb; replace HB := zab.mk (zar Yb_PGssMergesx4_2 hb); (try clear hb); (try clear hb2); (try clear hk); (try clear hi); obtain ⟨hcz43_0, hfz43_0⟩ := Yc1 BK124.out) | (go_at_call 8; (with_reducible refine (zae.calls k _ _ l0_0 true _ (Kd.zaq HR0_0.out Ybe) HC0_0.out A14.out).mono ?_); rintro e w44 ⟨rfl, hb⟩; replace BK124 := Ykb BK124 hb; replace BK125 := Ykb BK125 hb; replace BK126 := Ykb BK126 hb; replace HB := zab.mk (zar Yb_PGssMergesx4_2 hb); (try clear hb); (try clear hb2); (try clear hk); (try clear hi); obtain ⟨hcz45_0, hfz45_0⟩ := Yc1 BK125.out) | (go_at_call 8; (with_reducible refine (zae.calls k _ _ l1_0 false _ (Kd.zaq HR1_0.out Ybe) HC1_0.out A16.out).mono ?_); rintro e w46 ⟨rfl, hb⟩; replace BK124 := Ykb BK124 hb; replace BK125 := Ykb BK125 hb; replace BK126 := Ykb BK126 hb; replace HB := zab.mk (zar Yb_PGssMergesx4_2 hb); (try clear hb); (try clear hb2); (try clear hk); (try clear hi)))
       go_meet
       case rel => exact ⟨_, (true), Yfs, H', ⟨by first | omega | exact Nat.le_refl _⟩, ⟨Yg BK124⟩, ⟨Yg BK125⟩, ⟨Yg BK126⟩, ⟨Yb_PGssMergesx4_2⟩⟩
     ·replace c15 := Bool.eq_false_iff.mpr c15
      subst c15
      have H1 : (zai.j0 k true l0_0 l1_0 l2_0) = some r := by rw [if_neg (show ¬ (false = true) by decide)] at H; exact H
      clear H;have H := H1;clear H1
      have H' := zab.mk H
      clear H
      have hnb47 := NB124_125.out
      have hnc47 := NB125_124.out
      have hnb48 := NB124_126.out
      have hnc48 := NB126_124.out
      obtain ⟨hcz49_0, hfz49_0⟩ := Yc1 BK124.out
      go_wp2_with (first | ((with_reducible refine za5 (f := 7) rfl ?_); refine Ygl (some 9) Try.func7 #[.agg #[.slice A0_0 l0_0.length c0_0]] ?_; (with_reducible refine (zam.calls k _ _ l0_0 true _ (Kd.zaq HR0_0.out Ybe) HC0_0.out A8.out).mono ?_); rintro e w50 ⟨rfl, hb⟩; refine ⟨_, rfl, ?_⟩; replace BK124 := Ykb BK124 hb; replace BK125 := Ykb BK125 hb; replace BK126 := Ykb BK126 hb; replace HB := zab.mk (zar Yb_PGssMergesx4_2 hb); (try clear hb); (try clear hb2); (try clear hk); (try clear hi); have hnb51 := NB125_126.out; have hnc51 := NB126_125.out; obtain ⟨hcz52_0, hfz52_0⟩ := Yc1 BK125.out) | (go_at_call 7; (with_reducible refine (zam.calls k _ _ l1_0 true _ (Kd.zaq HR1_0.out Ybe) HC1_0.out A10.out).mono ?_); rintro e w53 ⟨rfl, hb⟩; replace BK124 := Ykb BK124 hb; replace BK125 := Ykb BK125 hb; replace BK126 := Ykb BK126 hb; replace HB := zab.mk (zar Yb_PGssMergesx4_2 hb); (try clear hb); (try clear hb2); (try clear hk); (try clear hi); obtain ⟨hcz54_0, hfz54_0⟩ := Yc1 BK126.out) | (go_at_call 7; (with_reducible refine (zam.calls k _ _ l2_0 true _ (Kd.zaq HR2_0.out Ybe) HC2_0.out A12.out).mono ?_); rintro e w55 ⟨rfl, hb⟩; replace BK124 := Ykb BK124 hb; replace BK125 := Ykb BK125 hb; replace BK126 := Ykb BK126 hb; replace HB := zab.mk (zar Yb_PGssMergesx4_2 hb); (try clear hb); (try clear hb2); (try clear hk); (try clear hi); obtain ⟨hcz56_0, hfz56_0⟩ := Yc1 BK124.out) | (go_at_call 8; (with_reducible refine (zae.calls k _ _ l0_0 false _ (Kd.zaq HR0_0.out Ybe) HC0_0.out A14.out).mono ?_); rintro e w57 ⟨rfl, hb⟩; replace BK124 := Ykb BK124 hb; replace BK125 := Ykb BK125 hb; replace BK126 := Ykb BK126 hb; replace HB := zab.mk (zar Yb_PGssMergesx4_2 hb); (try clear hb); (try clear hb2); (try clear hk); (try clear hi)))
      go_meet
      case rel => exact ⟨_, (true), Yfs, H', ⟨by first | omega | exact Nat.le_refl _⟩, ⟨Yg BK124⟩, ⟨Yg BK125⟩, ⟨Yg BK126⟩, ⟨Yb_PGssMergesx4_2⟩⟩
    ·replace c13 := Bool.eq_false_iff.mpr c13
     subst c13
     have H1 : (zai.j0 k true l0_0 l1_0 l2_0) = some r := by rw [if_neg (show ¬ (false = true) by decide)] at H; exact H
     clear H;have H := H1;clear H1
     have H' := zab.mk H
     clear H
     have hnb58 := NB124_125.out
     have hnc58 := NB125_124.out
     have hnb59 := NB124_126.out
     have hnc59 := NB126_124.out
     obtain ⟨hcz60_0, hfz60_0⟩ := Yc1 BK124.out
     go_wp2_with (first | ((with_reducible refine za5 (f := 7) rfl ?_); refine Ygl (some 9) Try.func7 #[.agg #[.slice A0_0 l0_0.length c0_0]] ?_; (with_reducible refine (zam.calls k _ _ l0_0 true _ (Kd.zaq HR0_0.out Ybe) HC0_0.out A8.out).mono ?_); rintro e w61 ⟨rfl, hb⟩; refine ⟨_, rfl, ?_⟩; replace BK124 := Ykb BK124 hb; replace BK125 := Ykb BK125 hb; replace BK126 := Ykb BK126 hb; replace HB := zab.mk (zar Yb_PGssMergesx4_2 hb); (try clear hb); (try clear hb2); (try clear hk); (try clear hi); have hnb62 := NB125_126.out; have hnc62 := NB126_125.out; obtain ⟨hcz63_0, hfz63_0⟩ := Yc1 BK125.out) | (go_at_call 7; (with_reducible refine (zam.calls k _ _ l1_0 true _ (Kd.zaq HR1_0.out Ybe) HC1_0.out A10.out).mono ?_); rintro e w64 ⟨rfl, hb⟩; replace BK124 := Ykb BK124 hb; replace BK125 := Ykb BK125 hb; replace BK126 := Ykb BK126 hb; replace HB := zab.mk (zar Yb_PGssMergesx4_2 hb); (try clear hb); (try clear hb2); (try clear hk); (try clear hi); obtain ⟨hcz65_0, hfz65_0⟩ := Yc1 BK126.out) | (go_at_call 7; (with_reducible refine (zam.calls k _ _ l2_0 false _ (Kd.zaq HR2_0.out Ybe) HC2_0.out A12.out).mono ?_); rintro e w66 ⟨rfl, hb⟩; replace BK124 := Ykb BK124 hb; replace BK125 := Ykb BK125 hb; replace BK126 := Ykb BK126 hb; replace HB := zab.mk (zar Yb_PGssMergesx4_2 hb); (try clear hb); (try clear hb2); (try clear hk); (try clear hi)))
     go_meet
     case rel => exact ⟨_, (true), Yfs, H', ⟨by first | omega | exact Nat.le_refl _⟩, ⟨Yg BK124⟩, ⟨Yg BK125⟩, ⟨Yg BK126⟩, ⟨Yb_PGssMergesx4_2⟩⟩
   ·replace c11 := Bool.eq_false_iff.mpr c11
    subst c11
    have H1 : (zai.j0 k true l0_0 l1_0 l2_0) = some r := by rw [if_neg (show ¬ (false = true) by decide)] at H; exact H
    clear H;have H := H1;clear H1
    have H' := zab.mk H
    clear H
    have hnb67 := NB124_125.out
    have hnc67 := NB125_124.out
    have hnb68 := NB124_126.out
    have hnc68 := NB126_124.out
    obtain ⟨hcz69_0, hfz69_0⟩ := Yc1 BK124.out
    go_wp2_with (first | ((with_reducible refine za5 (f := 7) rfl ?_); refine Ygl (some 9) Try.func7 #[.agg #[.slice A0_0 l0_0.length c0_0]] ?_; (with_reducible refine (zam.calls k _ _ l0_0 true _ (Kd.zaq HR0_0.out Ybe) HC0_0.out A8.out).mono ?_); rintro e w70 ⟨rfl, hb⟩; refine ⟨_, rfl, ?_⟩; replace BK124 := Ykb BK124 hb; replace BK125 := Ykb BK125 hb; replace BK126 := Ykb BK126 hb; replace HB := zab.mk (zar Yb_PGssMergesx4_2 hb); (try clear hb); (try clear hb2); (try clear hk); (try clear hi); have hnb71 := NB125_126.out; have hnc71 := NB126_125.out; obtain ⟨hcz72_0, hfz72_0⟩ := Yc1 BK125.out) | (go_at_call 7; (with_reducible refine (zam.calls k _ _ l1_0 false _ (Kd.zaq HR1_0.out Ybe) HC1_0.out A10.out).mono ?_); rintro e w73 ⟨rfl, hb⟩; replace BK124 := Ykb BK124 hb; replace BK125 := Ykb BK125 hb; replace BK126 := Ykb BK126 hb; replace HB := zab.mk (zar Yb_PGssMergesx4_2 hb); (try clear hb); (try clear hb2); (try clear hk); (try clear hi)))
    go_meet
    case rel => exact ⟨_, (true), Yfs, H', ⟨by first | omega | exact Nat.le_refl _⟩, ⟨Yg BK124⟩, ⟨Yg BK125⟩, ⟨Yg BK126⟩, ⟨Yb_PGssMergesx4_2⟩⟩
  ·replace c9 := Bool.eq_false_iff.mpr c9
   subst c9
   have H1 : (zai.j0 k true l0_0 l1_0 l2_0) = some r := by rw [if_neg (show ¬ (false = true) by decide)] at H; exact H
   clear H;have H := H1;clear H1
   have H' := zab.mk H
   clear H
   have hnb74 := NB124_125.out
   have hnc74 := NB125_124.out
   have hnb75 := NB124_126.out
   have hnc75 := NB126_124.out
   obtain ⟨hcz76_0, hfz76_0⟩ := Yc1 BK124.out
   go_wp2_with (first | ((with_reducible refine za5 (f := 7) rfl ?_); refine Ygl (some 9) Try.func7 #[.agg #[.slice A0_0 l0_0.length c0_0]] ?_; (with_reducible refine (zam.calls k _ _ l0_0 false _ (Kd.zaq HR0_0.out Ybe) HC0_0.out A8.out).mono ?_); rintro e w77 ⟨rfl, hb⟩; refine ⟨_, rfl, ?_⟩; replace BK124 := Ykb BK124 hb; replace BK125 := Ykb BK125 hb; replace BK126 := Ykb BK126 hb; replace HB := zab.mk (zar Yb_PGssMergesx4_2 hb); (try clear hb); (try clear hb2); (try clear hk); (try clear hi)))
   go_meet
   case rel => exact ⟨_, (true), Yfs, H', ⟨by first | omega | exact Nat.le_refl _⟩, ⟨Yg BK124⟩, ⟨Yg BK125⟩, ⟨Yg BK126⟩, ⟨Yb_PGssMergesx4_2⟩⟩
 case rest =>
  clear HC4
  obtain ⟨kq, x35_3, rfl, HA, HJ3, BK124, BK125, BK126, HB⟩ := hcut
  cases kq with
  | zero => exact absurd HA.out (by simp [zai.j0])
  | succ kj3 =>
   have H := HA.out;clear HA
   simp only [zai.j0] at H
   by_cases c78 : x35_3 = true
   ·subst c78
    have H1 : ((za1.f).bind fun t133 => (some t133)) = some r := by rw [if_pos rfl] at H; exact H
    clear H;have H := H1;clear H1;replace H := Option.bind_eq_some_iff.mp H
    obtain ⟨t133, A790, H⟩ := H
    replace H : (some t133) = some r := H
    have A79 := zab.mk A790;clear A790;obtain rfl := Option.some.inj H
    go_wp2_with (first | ((with_reducible refine za5 (f := 9) rfl ?_); refine Ygl (some 36) Try.func9 #[] ?_; (with_reducible refine (za1.calls  t133 _ A79.out).mono ?_); rintro e w80 ⟨rfl, hb⟩; refine ⟨_, rfl, ?_⟩; replace BK124 := Ykb BK124 hb; replace BK125 := Ykb BK125 hb; replace BK126 := Ykb BK126 hb; replace HB := zab.mk (zar Yb_PGssMergesx4_2 hb); (try clear hb); (try clear hb2); (try clear hk); (try clear hi)))
    go_ret
    exact ⟨Yfi, Yb_PGssMergesx4_2⟩
   ·replace c78 := Bool.eq_false_iff.mpr c78
    subst c78
    have H1 : ((zan.f l0_0 l1_0).bind fun t134 => ((zae.f kj3 t134).bind fun t138 => (if t138 = true then ((zan.f l1_0 l0_0).bind fun t139 => ((zak.f kj3 t134 t139).bind fun t142 => (if t142 = true then ((zan.f t134 l0_0).bind fun t143 => ((zak.f kj3 t143 t134).bind fun t146 => (if t146 = true then ((zan.f t134 l2_0).bind fun t147 => ((zan.f l1_0 l2_0).bind fun t150 => ((zan.f l0_0 t150).bind fun t153 => ((zak.f kj3 t147 t153).bind fun t156 => (if t156 = true then ((za1.f).bind fun t157 => (some t157)) else (some false)))))) else (some false)))) else (some false)))) else (some false)))) = some r := by rw [if_neg (show ¬ (false = true) by decide)] at H; exact H
    clear H;have H := H1;clear H1;replace H := Option.bind_eq_some_iff.mp H
    obtain ⟨t134, A810, H⟩ := H
    replace H : ((zae.f kj3 t134).bind fun t138 => (if t138 = true then ((zan.f l1_0 l0_0).bind fun t139 => ((zak.f kj3 t134 t139).bind fun t142 => (if t142 = true then ((zan.f t134 l0_0).bind fun t143 => ((zak.f kj3 t143 t134).bind fun t146 => (if t146 = true then ((zan.f t134 l2_0).bind fun t147 => ((zan.f l1_0 l2_0).bind fun t150 => ((zan.f l0_0 t150).bind fun t153 => ((zak.f kj3 t147 t153).bind fun t156 => (if t156 = true then ((za1.f).bind fun t157 => (some t157)) else (some false)))))) else (some false)))) else (some false)))) else (some false))) = some r := H
    have A81 := zab.mk A810;clear A810;replace H := Option.bind_eq_some_iff.mp H
    obtain ⟨t138, A820, H⟩ := H
    replace H : (if t138 = true then ((zan.f l1_0 l0_0).bind fun t139 => ((zak.f kj3 t134 t139).bind fun t142 => (if t142 = true then ((zan.f t134 l0_0).bind fun t143 => ((zak.f kj3 t143 t134).bind fun t146 => (if t146 = true then ((zan.f t134 l2_0).bind fun t147 => ((zan.f l1_0 l2_0).bind fun t150 => ((zan.f l0_0 t150).bind fun t153 => ((zak.f kj3 t147 t153).bind fun t156 => (if t156 = true then ((za1.f).bind fun t157 => (some t157)) else (some false)))))) else (some false)))) else (some false)))) else (some false)) = some r := H
    have A82 := zab.mk A820;clear A820
    by_cases c83 : t138 = true
    ·subst c83
     have H1 : ((zan.f l1_0 l0_0).bind fun t139 => ((zak.f kj3 t134 t139).bind fun t142 => (if t142 = true then ((zan.f t134 l0_0).bind fun t143 => ((zak.f kj3 t143 t134).bind fun t146 => (if t146 = true then ((zan.f t134 l2_0).bind fun t147 => ((zan.f l1_0 l2_0).bind fun t150 => ((zan.f l0_0 t150).bind fun t153 => ((zak.f kj3 t147 t153).bind fun t156 => (if t156 = true then ((za1.f).bind fun t157 => (some t157)) else (some false)))))) else (some false)))) else (some false)))) = some r := by rw [if_pos rfl] at H; exact H
     clear H;have H := H1;clear H1;replace H := Option.bind_eq_some_iff.mp H
     obtain ⟨t139, A840, H⟩ := H
     replace H : ((zak.f kj3 t134 t139).bind fun t142 => (if t142 = true then ((zan.f t134 l0_0).bind fun t143 => ((zak.f kj3 t143 t134).bind fun t146 => (if t146 = true then ((zan.f t134 l2_0).bind fun t147 => ((zan.f l1_0 l2_0).bind fun t150 => ((zan.f l0_0 t150).bind fun t153 => ((zak.f kj3 t147 t153).bind fun t156 => (if t156 = true then ((za1.f).bind fun t157 => (some t157)) else (some false)))))) else (some false)))) else (some false))) = some r := H
     have A84 := zab.mk A840;clear A840;replace H := Option.bind_eq_some_iff.mp H
     obtain ⟨t142, A850, H⟩ := H
     replace H : (if t142 = true then ((zan.f t134 l0_0).bind fun t143 => ((zak.f kj3 t143 t134).bind fun t146 => (if t146 = true then ((zan.f t134 l2_0).bind fun t147 => ((zan.f l1_0 l2_0).bind fun t150 => ((zan.f l0_0 t150).bind fun t153 => ((zak.f kj3 t147 t153).bind fun t156 => (if t156 = true then ((za1.f).bind fun t157 => (some t157)) else (some false)))))) else (some false)))) else (some false)) = some r := H
     have A85 := zab.mk A850;clear A850
     by_cases c86 : t142 = true
     ·subst c86
      have H1 : ((zan.f t134 l0_0).bind fun t143 => ((zak.f kj3 t143 t134).bind fun t146 => (if t146 = true then ((zan.f t134 l2_0).bind fun t147 => ((zan.f l1_0 l2_0).bind fun t150 => ((zan.f l0_0 t150).bind fun t153 => ((zak.f kj3 t147 t153).bind fun t156 => (if t156 = true then ((za1.f).bind fun t157 => (some t157)) else (some false)))))) else (some false)))) = some r := by rw [if_pos rfl] at H; exact H
      clear H;have H := H1;clear H1;replace H := Option.bind_eq_some_iff.mp H
      obtain ⟨t143, A870, H⟩ := H
      replace H : ((zak.f kj3 t143 t134).bind fun t146 => (if t146 = true then ((zan.f t134 l2_0).bind fun t147 => ((zan.f l1_0 l2_0).bind fun t150 => ((zan.f l0_0 t150).bind fun t153 => ((zak.f kj3 t147 t153).bind fun t156 => (if t156 = true then ((za1.f).bind fun t157 => (some t157)) else (some false)))))) else (some false))) = some r := H
      have A87 := zab.mk A870;clear A870;replace H := Option.bind_eq_some_iff.mp H
      obtain ⟨t146, A880, H⟩ := H
      replace H : (if t146 = true then ((zan.f t134 l2_0).bind fun t147 => ((zan.f l1_0 l2_0).bind fun t150 => ((zan.f l0_0 t150).bind fun t153 => ((zak.f kj3 t147 t153).bind fun t156 => (if t156 = true then ((za1.f).bind fun t157 => (some t157)) else (some false)))))) else (some false)) = some r := H
      have A88 := zab.mk A880;clear A880
      by_cases c89 : t146 = true
      ·subst c89
       have H1 : ((zan.f t134 l2_0).bind fun t147 => ((zan.f l1_0 l2_0).bind fun t150 => ((zan.f l0_0 t150).bind fun t153 => ((zak.f kj3 t147 t153).bind fun t156 => (if t156 = true then ((za1.f).bind fun t157 => (some t157)) else (some false)))))) = some r := by rw [if_pos rfl] at H; exact H
       clear H;have H := H1;clear H1;replace H := Option.bind_eq_some_iff.mp H
       obtain ⟨t147, A900, H⟩ := H
       replace H : ((zan.f l1_0 l2_0).bind fun t150 => ((zan.f l0_0 t150).bind fun t153 => ((zak.f kj3 t147 t153).bind fun t156 => (if t156 = true then ((za1.f).bind fun t157 => (some t157)) else (some false))))) = some r := H
       have A90 := zab.mk A900;clear A900;replace H := Option.bind_eq_some_iff.mp H
       obtain ⟨t150, A910, H⟩ := H
       replace H : ((zan.f l0_0 t150).bind fun t153 => ((zak.f kj3 t147 t153).bind fun t156 => (if t156 = true then ((za1.f).bind fun t157 => (some t157)) else (some false)))) = some r := H
       have A91 := zab.mk A910;clear A910;replace H := Option.bind_eq_some_iff.mp H
       obtain ⟨t153, A920, H⟩ := H
       replace H : ((zak.f kj3 t147 t153).bind fun t156 => (if t156 = true then ((za1.f).bind fun t157 => (some t157)) else (some false))) = some r := H
       have A92 := zab.mk A920;clear A920;replace H := Option.bind_eq_some_iff.mp H
       obtain ⟨t156, A930, H⟩ := H
       replace H : (if t156 = true then ((za1.f).bind fun t157 => (some t157)) else (some false)) = some r := H
       have A93 := zab.mk A930;clear A930
       by_cases c94 : t156 = true
       ·subst c94
        have H1 : ((za1.f).bind fun t157 => (some t157)) = some r := by rw [if_pos rfl] at H; exact H
        clear H;have H := H1;clear H1;replace H := Option.bind_eq_some_iff.mp H
        obtain ⟨t157, A950, H⟩ := H
        replace H : (some t157) = some r := H
        have A95 := zab.mk A950;clear A950;obtain rfl := Option.some.inj H
        have hnb96 := NB124_125.out
        have hnc96 := NB125_124.out
        have hnb97 := NB124_126.out
        have hnc97 := NB126_124.out
        obtain ⟨hcz98_0, hfz98_0⟩ := Yc1 BK124.out
        have hnb99 := NB125_126.out
        have hnc99 := NB126_125.out
        obtain ⟨hcz100_0, hfz100_0⟩ := Yc1 BK125.out
        try go_wp2_with (first | ((with_reducible refine za5 (f := 17) rfl ?_); refine Ygl (some 39) Try.func17 #[.agg #[.slice A0_0 l0_0.length c0_0], .agg #[.slice A1_0 l1_0.length c1_0]] ?_; (with_reducible refine (zan.calls _ _ l0_0 _ _ l1_0 t134 _ (Kd.zaq HR0_0.out Ybe) HC0_0.out (Kd.zaq HR1_0.out Ybe) HC1_0.out A81.out).mono ?_); rintro e w101 ⟨v135, rfl, ho0, hb⟩; refine ⟨_, rfl, ?_⟩; have HO136 := zab.mk (Kd.zbf ho0 (zbd Yb_PGssMergesx4_2)); replace BK124 := Ykb BK124 hb; replace BK125 := Ykb BK125 hb; replace BK126 := Ykb BK126 hb; replace HB := zab.mk (zar Yb_PGssMergesx4_2 hb); (try clear hb); (try clear hb2); (try clear hk); (try clear hi); (try clear ho0)) | ((with_reducible refine za6 (N := 7) rfl ?_); refine Ybx 7 #[.slice none 0 0] 24 ?_; intro gb137 hg w102 hbox hb; replace HO136 := zab.mk (Kd.za2 (Yr HO136) hb); obtain ⟨BK137, GW137, GE137, HB⟩ := Yb4 hbox hg hb Yb_PGssMergesx4_2; have NB124_137 := Ynl BK124 hg; have NB137_124 := Yng BK124 hg; replace BK124 := Ykb BK124 hb; have NB125_137 := Ynl BK125 hg; have NB137_125 := Yng BK125 hg; replace BK125 := Ykb BK125 hb; have NB126_137 := Ynl BK126 hg; have NB137_126 := Yng BK126 hg; replace BK126 := Ykb BK126 hb; clear hb hbox hg; obtain ⟨Ao103, co103, eo103⟩ := Kd.zbi HO136.out; subst eo103; have hnb104 := NB137_124.out; have hnc104 := NB124_137.out; have hnb105 := NB137_125.out; have hnc105 := NB125_137.out; have hnb106 := NB137_126.out; have hnc106 := NB126_137.out; obtain ⟨hcz107_0, hfz107_0⟩ := Yc1 BK137.out))
        have n0_ : zab (Kd.R k38 38 (w102.setCell ⟨gb137, 0, none⟩ (.slice Ao103 t134.length co103)) w.heap.size (fun _ => True) (.slice Ao103 t134.length co103) t134) := ⟨by (with_reducible repeat (first | apply Kd.zc1 | apply Kd.R_drewN | apply Kd.zcw)); exact Kd.zb2 (Kd.R_far (p := ⟨gb137, 0, none⟩) (Kd.zc2 HO136.out BK137.out (by decide)) (fun _ hk => hk.2) (.slice Ao103 t134.length co103)) (fun _ hk => trivial)⟩
        have n1_ : zab ((w102.setCell ⟨gb137, 0, none⟩ (.slice Ao103 t134.length co103)).heap[gb124]? = some (.cells #[.slice A0_0 l0_0.length c0_0] 24 (0, 0))) := ⟨by (with_reducible repeat (first | refine zah ?_ _ | refine zad ?_ | refine zaf ?_ _)); refine zal ?_ NB124_137.out _; (with_reducible repeat (first | refine zah ?_ _ | refine zad ?_ | refine zaf ?_ _)); exact BK124.out⟩
        have n2_ : zab ((w102.setCell ⟨gb137, 0, none⟩ (.slice Ao103 t134.length co103)).heap[gb125]? = some (.cells #[.slice A1_0 l1_0.length c1_0] 24 (0, 0))) := ⟨by (with_reducible repeat (first | refine zah ?_ _ | refine zad ?_ | refine zaf ?_ _)); refine zal ?_ NB125_137.out _; (with_reducible repeat (first | refine zah ?_ _ | refine zad ?_ | refine zaf ?_ _)); exact BK125.out⟩
        have n3_ : zab ((w102.setCell ⟨gb137, 0, none⟩ (.slice Ao103 t134.length co103)).heap[gb126]? = some (.cells #[.slice A2_0 l2_0.length c2_0] 24 (0, 0))) := ⟨by (with_reducible repeat (first | refine zah ?_ _ | refine zad ?_ | refine zaf ?_ _)); refine zal ?_ NB126_137.out _; (with_reducible repeat (first | refine zah ?_ _ | refine zad ?_ | refine zaf ?_ _)); exact BK126.out⟩
        have n4_ : zab ((w102.setCell ⟨gb137, 0, none⟩ (.slice Ao103 t134.length co103)).heap[gb137]? = some (.cells #[.slice Ao103 t134.length co103] 24 (0, 0))) := ⟨by (with_reducible repeat (first | refine zah ?_ _ | refine zad ?_ | refine zaf ?_ _)); refine zat (cs := #[.slice none 0 0]) ?_ 0 _ rfl; (with_reducible repeat (first | refine zah ?_ _ | refine zad ?_ | refine zaf ?_ _)); exact BK137.out⟩
        have n5_ : zab (Below w.heap.size w (w102.setCell ⟨gb137, 0, none⟩ (.slice Ao103 t134.length co103))) := ⟨Yb_PGssMergesx4_3⟩
        (try clear HO136)
        (try clear BK124)
        (try clear BK125)
        (try clear BK126)
        (try clear BK137)
        (try clear HB)
        generalize (w102.setCell ⟨gb137, 0, none⟩ (.slice Ao103 t134.length co103)) = w108 at n0_ n1_ n2_ n3_ n4_ n5_ ⊢
        have HO136 := n0_;have BK124 := n1_;have BK125 := n2_;have BK126 := n3_;have BK137 := n4_;have HB := n5_;clear n0_ n1_ n2_ n3_ n4_ n5_
        replace HO136 := zab.mk (Kd.zcw HO136.out)
        replace BK124 := zab.mk (zad BK124.out)
        replace BK125 := zab.mk (zad BK125.out)
        replace BK126 := zab.mk (zad BK126.out)
        replace BK137 := zab.mk (zad BK137.out)
        replace HB := zab.mk (zav HB.out)
        refine zbh (n := 31) (S := fun w' => w'.cell? ⟨gb137, 0, none⟩ = some (.slice Ao103 t134.length co103) ∧ w'.cell? ⟨gb125, 0, none⟩ = some (.slice A1_0 l1_0.length c1_0) ∧ w'.cell? ⟨gb124, 0, none⟩ = some (.slice A0_0 l0_0.length c0_0) ∧ w'.cell? ⟨gb126, 0, none⟩ = some (.slice A2_0 l2_0.length c2_0)) (ds := []) (Ymk 31 0) (by kernel_rfl) rfl rfl ⟨(zac BK137.out 0).trans rfl, (zac BK125.out 0).trans rfl, (zac BK124.out 0).trans rfl, (zac BK126.out 0).trans rfl⟩ (fun hHeld => ?_); refine zbc zai.tab4 zai.bits4 (fun HT_ HW_ => ?_)
        generalize w108.drew = w109 at HO136 BK124 BK125 BK126 BK137 HB hHeld ⊢
        refine Ytt 0 40 31 1 HT_ HW_ hHeld ?_
        refine Yot 1 41 31 3 HT_ (fun K hK => ?_)
        refine Ygs Try.func8 #[.agg #[.slice Ao103 t134.length co103]] ?_
        with_reducible refine (zae.calls kj3 _ _ t134 true _ ?side1 ?side2 A82.out).mono ?_
        (case side1 => repeat (first | exact (Kd.R_reads' HO136.out).2.2 | (with_reducible refine Kd.C_alloc ?_ _) | (with_reducible refine Kd.C_drewN ?_ _) | (with_reducible refine Kd.C_drew ?_)))
        (case side2 => exact (Kd.R_reads' HO136.out).2.1)
        rintro e w110 ⟨rfl, hb⟩
        refine ⟨_, rfl, ?_⟩
        replace HO136 := zab.mk (Kd.za2 (Yr HO136) hb)
        replace BK124 := Ykb BK124 hb
        replace BK125 := Ykb BK125 hb
        replace BK126 := Ykb BK126 hb
        replace BK137 := Ykb BK137 hb
        replace HB := zab.mk (zar Yb_PGssMergesx4_3 hb)
        (try clear hb)
        (try clear hb2)
        (try clear hk)
        (try clear hi)
        refine hK.out _ _ ⟨(zac BK137.out 0).trans rfl, (zac BK125.out 0).trans rfl, (zac BK124.out 0).trans rfl, (zac BK126.out 0).trans rfl⟩ (fun hHeld => ?_)
        clear hK K
        refine Ynw 41 ?_
        refine Ypt 2 42 31 7 HT_ ?_
        refine Ytt 3 43 31 15 HT_ HW_ hHeld ?_
        refine Ytt 4 44 31 31 HT_ HW_ hHeld ?_
        refine Ytt 5 45 31 63 HT_ HW_ hHeld ?_
        refine Yot 6 46 31 127 HT_ (fun K hK => ?_)
        refine Ygs Try.func17 #[.agg #[.slice A1_0 l1_0.length c1_0], .agg #[.slice A0_0 l0_0.length c0_0]] ?_
        with_reducible refine (zan.calls _ _ l1_0 _ _ l0_0 t139 _ (Kd.zaq HR1_0.out Ybe) HC1_0.out (Kd.zaq HR0_0.out Ybe) HC0_0.out A84.out).mono ?_
        rintro e w111 ⟨v140, rfl, ho0, hb⟩
        refine ⟨_, rfl, ?_⟩
        have HO141 := zab.mk (Kd.zbf (Kd.R_new' ho0 (Kd.R_lt (Yr HO136))) (zbd Yb_PGssMergesx4_3))
        replace HO136 := zab.mk (Kd.R_elder' (Yr HO136) (Kd.zbe ho0) hb)
        replace BK124 := Ykb BK124 hb
        replace BK125 := Ykb BK125 hb
        replace BK126 := Ykb BK126 hb
        replace BK137 := Ykb BK137 hb
        replace HB := zab.mk (zar Yb_PGssMergesx4_3 hb)
        (try clear hb)
        (try clear hb2)
        (try clear hk)
        (try clear hi)
        (try clear ho0)
        obtain ⟨Ao112, co112, eo112⟩ := Kd.zbi HO141.out
        (first | subst eo112 | (injection eo112 with f1_ f2_ f3_; have f4_ := f1_.symm; have f5_ := f3_.symm; clear f1_ f2_ f3_; subst f4_; subst f5_))
        refine hK.out _ _ ⟨(zac BK137.out 0).trans rfl, (zac BK125.out 0).trans rfl, (zac BK124.out 0).trans rfl, (zac BK126.out 0).trans rfl⟩ (fun hHeld => ?_)
        clear hK K
        refine Ynw 46 ?_
        refine Yot 7 47 31 255 HT_ (fun K hK => ?_)
        refine Ygs Try.func16 #[.agg #[.slice Ao103 t134.length co103], .agg #[.slice Ao112 t139.length co112]] ?_
        with_reducible refine (zak.calls kj3 _ _ t134 _ _ t139 true _ ?side1 ?side2 ?side3 ?side4 A85.out).mono ?_
        (case side1 => repeat (first | exact (Kd.R_reads' HO136.out).2.2 | (with_reducible refine Kd.C_alloc ?_ _) | (with_reducible refine Kd.C_drewN ?_ _) | (with_reducible refine Kd.C_drew ?_)))
        (case side2 => exact (Kd.R_reads' HO136.out).2.1)
        (case side3 => repeat (first | exact (Kd.R_reads' HO141.out).2.2 | (with_reducible refine Kd.C_alloc ?_ _) | (with_reducible refine Kd.C_drewN ?_ _) | (with_reducible refine Kd.C_drew ?_)))
        (case side4 => exact (Kd.R_reads' HO141.out).2.1)
        rintro e w113 ⟨rfl, hb⟩
        refine ⟨_, rfl, ?_⟩
        replace HO136 := zab.mk (Kd.za2 (Yr HO136) hb)
        replace HO141 := zab.mk (Kd.za2 (Yr HO141) hb)
        replace BK124 := Ykb BK124 hb
        replace BK125 := Ykb BK125 hb
        replace BK126 := Ykb BK126 hb
        replace BK137 := Ykb BK137 hb
        replace HB := zab.mk (zar Yb_PGssMergesx4_3 hb)
        (try clear hb)
        (try clear hb2)
        (try clear hk)
        (try clear hi)
        refine hK.out _ _ ⟨(zac BK137.out 0).trans rfl, (zac BK125.out 0).trans rfl, (zac BK124.out 0).trans rfl, (zac BK126.out 0).trans rfl⟩ (fun hHeld => ?_)
        clear hK K
        refine Ynw 47 ?_
        refine Ypt 8 48 31 511 HT_ ?_
        refine Ypt 9 49 31 1023 HT_ ?_
        refine Ytt 10 50 31 2047 HT_ HW_ hHeld ?_
        refine Ytt 11 51 31 4095 HT_ HW_ hHeld ?_
        refine Ytt 13 53 31 12287 HT_ HW_ hHeld ?_
        refine Yot 12 52 31 16383 HT_ (fun K hK => ?_)
        refine Ygs Try.func17 #[.agg #[.slice Ao103 t134.length co103], .agg #[.slice A0_0 l0_0.length c0_0]] ?_
        with_reducible refine (zan.calls _ _ t134 _ _ l0_0 t143 _ ?side1 ?side2 (Kd.zaq HR0_0.out Ybe) HC0_0.out A87.out).mono ?_
        (case side1 => repeat (first | exact (Kd.R_reads' HO136.out).2.2 | (with_reducible refine Kd.C_alloc ?_ _) | (with_reducible refine Kd.C_drewN ?_ _) | (with_reducible refine Kd.C_drew ?_)))
        (case side2 => exact (Kd.R_reads' HO136.out).2.1)
        rintro e w114 ⟨v144, rfl, ho0, hb⟩
        refine ⟨_, rfl, ?_⟩
        have HO145 := zab.mk (Kd.zbf (Kd.R_new' (Kd.R_new' ho0 (Kd.R_lt (Yr HO136))) (Kd.R_lt (Yr HO141))) (zbd Yb_PGssMergesx4_3))
        replace HO136 := zab.mk (Kd.R_elder' (Yr HO136) (Kd.zbe ho0) hb)
        replace HO141 := zab.mk (Kd.R_elder' (Yr HO141) (Kd.zbe ho0) hb)
        replace BK124 := Ykb BK124 hb
        replace BK125 := Ykb BK125 hb
        replace BK126 := Ykb BK126 hb
        replace BK137 := Ykb BK137 hb
        replace HB := zab.mk (zar Yb_PGssMergesx4_3 hb)
        (try clear hb)
        (try clear hb2)
        (try clear hk)
        (try clear hi)
        (try clear ho0)
        obtain ⟨Ao115, co115, eo115⟩ := Kd.zbi HO145.out
        (first | subst eo115 | (injection eo115 with f1_ f2_ f3_; have f4_ := f1_.symm; have f5_ := f3_.symm; clear f1_ f2_ f3_; subst f4_; subst f5_))
        refine hK.out _ _ ⟨(zac BK137.out 0).trans rfl, (zac BK125.out 0).trans rfl, (zac BK124.out 0).trans rfl, (zac BK126.out 0).trans rfl⟩ (fun hHeld => ?_)
        clear hK K
        refine Ynw 52 ?_
        refine Yot 14 54 31 32767 HT_ (fun K hK => ?_)
        refine Ygs Try.func16 #[.agg #[.slice Ao115 t143.length co115], .agg #[.slice Ao103 t134.length co103]] ?_
        with_reducible refine (zak.calls kj3 _ _ t143 _ _ t134 true _ ?side1 ?side2 ?side3 ?side4 A88.out).mono ?_
        (case side1 => repeat (first | exact (Kd.R_reads' HO145.out).2.2 | (with_reducible refine Kd.C_alloc ?_ _) | (with_reducible refine Kd.C_drewN ?_ _) | (with_reducible refine Kd.C_drew ?_)))
        (case side2 => exact (Kd.R_reads' HO145.out).2.1)
        (case side3 => repeat (first | exact (Kd.R_reads' HO136.out).2.2 | (with_reducible refine Kd.C_alloc ?_ _) | (with_reducible refine Kd.C_drewN ?_ _) | (with_reducible refine Kd.C_drew ?_)))
        (case side4 => exact (Kd.R_reads' HO136.out).2.1)
        rintro e w116 ⟨rfl, hb⟩
        refine ⟨_, rfl, ?_⟩
        replace HO136 := zab.mk (Kd.za2 (Yr HO136) hb)
        replace HO141 := zab.mk (Kd.za2 (Yr HO141) hb)
        replace HO145 := zab.mk (Kd.za2 (Yr HO145) hb)
        replace BK124 := Ykb BK124 hb
        replace BK125 := Ykb BK125 hb
        replace BK126 := Ykb BK126 hb
        replace BK137 := Ykb BK137 hb
        replace HB := zab.mk (zar Yb_PGssMergesx4_3 hb)
        (try clear hb)
        (try clear hb2)
        (try clear hk)
        (try clear hi)
        refine hK.out _ _ ⟨(zac BK137.out 0).trans rfl, (zac BK125.out 0).trans rfl, (zac BK124.out 0).trans rfl, (zac BK126.out 0).trans rfl⟩ (fun hHeld => ?_)
        clear hK K
        refine Ynw 54 ?_
        refine Ypt 15 55 31 65535 HT_ ?_
        refine Ypt 16 56 31 131071 HT_ ?_
        refine Ytt 17 57 31 262143 HT_ HW_ hHeld ?_
        refine Ytt 18 58 31 524287 HT_ HW_ hHeld ?_
        refine Ytt 20 60 31 1572863 HT_ HW_ hHeld ?_
        refine Ytt 21 61 31 3670015 HT_ HW_ hHeld ?_
        refine Ytt 22 62 31 7864319 HT_ HW_ hHeld ?_
        refine Yot 19 59 31 8388607 HT_ (fun K hK => ?_)
        refine Ygs Try.func17 #[.agg #[.slice Ao103 t134.length co103], .agg #[.slice A2_0 l2_0.length c2_0]] ?_
        with_reducible refine (zan.calls _ _ t134 _ _ l2_0 t147 _ ?side1 ?side2 (Kd.zaq HR2_0.out Ybe) HC2_0.out A90.out).mono ?_
        (case side1 => repeat (first | exact (Kd.R_reads' HO136.out).2.2 | (with_reducible refine Kd.C_alloc ?_ _) | (with_reducible refine Kd.C_drewN ?_ _) | (with_reducible refine Kd.C_drew ?_)))
        (case side2 => exact (Kd.R_reads' HO136.out).2.1)
        rintro e w117 ⟨v148, rfl, ho0, hb⟩
        refine ⟨_, rfl, ?_⟩
        have HO149 := zab.mk (Kd.zbf (Kd.R_new' (Kd.R_new' (Kd.R_new' ho0 (Kd.R_lt (Yr HO136))) (Kd.R_lt (Yr HO141))) (Kd.R_lt (Yr HO145))) (zbd Yb_PGssMergesx4_3))
        replace HO136 := zab.mk (Kd.R_elder' (Yr HO136) (Kd.zbe ho0) hb)
        replace HO141 := zab.mk (Kd.R_elder' (Yr HO141) (Kd.zbe ho0) hb)
        replace HO145 := zab.mk (Kd.R_elder' (Yr HO145) (Kd.zbe ho0) hb)
        replace BK124 := Ykb BK124 hb
        replace BK125 := Ykb BK125 hb
        replace BK126 := Ykb BK126 hb
        replace BK137 := Ykb BK137 hb
        replace HB := zab.mk (zar Yb_PGssMergesx4_3 hb)
        (try clear hb)
        (try clear hb2)
        (try clear hk)
        (try clear hi)
        (try clear ho0)
        refine hK.out _ _ ⟨(zac BK137.out 0).trans rfl, (zac BK125.out 0).trans rfl, (zac BK124.out 0).trans rfl, (zac BK126.out 0).trans rfl⟩ (fun hHeld => ?_)
        clear hK K
        refine Ynw 59 ?_
        refine Yot 23 63 31 16777215 HT_ (fun K hK => ?_)
        refine Ygs Try.func17 #[.agg #[.slice A1_0 l1_0.length c1_0], .agg #[.slice A2_0 l2_0.length c2_0]] ?_
        with_reducible refine (zan.calls _ _ l1_0 _ _ l2_0 t150 _ (Kd.zaq HR1_0.out Ybe) HC1_0.out (Kd.zaq HR2_0.out Ybe) HC2_0.out A91.out).mono ?_
        rintro e w118 ⟨v151, rfl, ho0, hb⟩
        refine ⟨_, rfl, ?_⟩
        have HO152 := zab.mk (Kd.zbf (Kd.R_new' (Kd.R_new' (Kd.R_new' (Kd.R_new' ho0 (Kd.R_lt (Yr HO136))) (Kd.R_lt (Yr HO141))) (Kd.R_lt (Yr HO145))) (Kd.R_lt (Yr HO149))) (zbd Yb_PGssMergesx4_3))
        replace HO136 := zab.mk (Kd.R_elder' (Yr HO136) (Kd.zbe ho0) hb)
        replace HO141 := zab.mk (Kd.R_elder' (Yr HO141) (Kd.zbe ho0) hb)
        replace HO145 := zab.mk (Kd.R_elder' (Yr HO145) (Kd.zbe ho0) hb)
        replace HO149 := zab.mk (Kd.R_elder' (Yr HO149) (Kd.zbe ho0) hb)
        replace BK124 := Ykb BK124 hb
        replace BK125 := Ykb BK125 hb
        replace BK126 := Ykb BK126 hb
        replace BK137 := Ykb BK137 hb
        replace HB := zab.mk (zar Yb_PGssMergesx4_3 hb)
        (try clear hb)
        (try clear hb2)
        (try clear hk)
        (try clear hi)
        (try clear ho0)
        obtain ⟨Ao119, co119, eo119⟩ := Kd.zbi HO152.out
        (first | subst eo119 | (injection eo119 with f1_ f2_ f3_; have f4_ := f1_.symm; have f5_ := f3_.symm; clear f1_ f2_ f3_; subst f4_; subst f5_))
        refine hK.out _ _ ⟨(zac BK137.out 0).trans rfl, (zac BK125.out 0).trans rfl, (zac BK124.out 0).trans rfl, (zac BK126.out 0).trans rfl⟩ (fun hHeld => ?_)
        clear hK K
        refine Ynw 63 ?_
        refine Yot 24 64 31 33554431 HT_ (fun K hK => ?_)
        refine Ygs Try.func17 #[.agg #[.slice A0_0 l0_0.length c0_0], .agg #[.slice Ao119 t150.length co119]] ?_
        with_reducible refine (zan.calls _ _ l0_0 _ _ t150 t153 _ (Kd.zaq HR0_0.out Ybe) HC0_0.out ?side3 ?side4 A92.out).mono ?_
        (case side3 => repeat (first | exact (Kd.R_reads' HO152.out).2.2 | (with_reducible refine Kd.C_alloc ?_ _) | (with_reducible refine Kd.C_drewN ?_ _) | (with_reducible refine Kd.C_drew ?_)))
        (case side4 => exact (Kd.R_reads' HO152.out).2.1)
        rintro e w120 ⟨v154, rfl, ho0, hb⟩
        refine ⟨_, rfl, ?_⟩
        have HO155 := zab.mk (Kd.zbf (Kd.R_new' (Kd.R_new' (Kd.R_new' (Kd.R_new' (Kd.R_new' ho0 (Kd.R_lt (Yr HO136))) (Kd.R_lt (Yr HO141))) (Kd.R_lt (Yr HO145))) (Kd.R_lt (Yr HO149))) (Kd.R_lt (Yr HO152))) (zbd Yb_PGssMergesx4_3))
        replace HO136 := zab.mk (Kd.R_elder' (Yr HO136) (Kd.zbe ho0) hb)
        replace HO141 := zab.mk (Kd.R_elder' (Yr HO141) (Kd.zbe ho0) hb)
        replace HO145 := zab.mk (Kd.R_elder' (Yr HO145) (Kd.zbe ho0) hb)
        replace HO149 := zab.mk (Kd.R_elder' (Yr HO149) (Kd.zbe ho0) hb)
        replace HO152 := zab.mk (Kd.R_elder' (Yr HO152) (Kd.zbe ho0) hb)
        replace BK124 := Ykb BK124 hb
        replace BK125 := Ykb BK125 hb
        replace BK126 := Ykb BK126 hb
        replace BK137 := Ykb BK137 hb
        replace HB := zab.mk (zar Yb_PGssMergesx4_3 hb)
        (try clear hb)
        (try clear hb2)
        (try clear hk)
        (try clear hi)
        (try clear ho0)
        obtain ⟨Ao121, co121, eo121⟩ := Kd.zbi HO149.out
        (first | subst eo121 | (injection eo121 with f1_ f2_ f3_; have f4_ := f1_.symm; have f5_ := f3_.symm; clear f1_ f2_ f3_; subst f4_; subst f5_))
        obtain ⟨Ao122, co122, eo122⟩ := Kd.zbi HO155.out
        (first | subst eo122 | (injection eo122 with f1_ f2_ f3_; have f4_ := f1_.symm; have f5_ := f3_.symm; clear f1_ f2_ f3_; subst f4_; subst f5_))
        refine hK.out _ _ ⟨(zac BK137.out 0).trans rfl, (zac BK125.out 0).trans rfl, (zac BK124.out 0).trans rfl, (zac BK126.out 0).trans rfl⟩ (fun hHeld => ?_)
        clear hK K
        refine Ynw 64 ?_
        refine Yot 25 65 31 67108863 HT_ (fun K hK => ?_)
        refine Ygs Try.func16 #[.agg #[.slice Ao121 t147.length co121], .agg #[.slice Ao122 t153.length co122]] ?_
        with_reducible refine (zak.calls kj3 _ _ t147 _ _ t153 true _ ?side1 ?side2 ?side3 ?side4 A93.out).mono ?_
        (case side1 => repeat (first | exact (Kd.R_reads' HO149.out).2.2 | (with_reducible refine Kd.C_alloc ?_ _) | (with_reducible refine Kd.C_drewN ?_ _) | (with_reducible refine Kd.C_drew ?_)))
        (case side2 => exact (Kd.R_reads' HO149.out).2.1)
        (case side3 => repeat (first | exact (Kd.R_reads' HO155.out).2.2 | (with_reducible refine Kd.C_alloc ?_ _) | (with_reducible refine Kd.C_drewN ?_ _) | (with_reducible refine Kd.C_drew ?_)))
        (case side4 => exact (Kd.R_reads' HO155.out).2.1)
        rintro e w123 ⟨rfl, hb⟩
        refine ⟨_, rfl, ?_⟩
        replace HO136 := zab.mk (Kd.za2 (Yr HO136) hb)
        replace HO141 := zab.mk (Kd.za2 (Yr HO141) hb)
        replace HO145 := zab.mk (Kd.za2 (Yr HO145) hb)
        replace HO149 := zab.mk (Kd.za2 (Yr HO149) hb)
        replace HO152 := zab.mk (Kd.za2 (Yr HO152) hb)
        replace HO155 := zab.mk (Kd.za2 (Yr HO155) hb)
        replace BK124 := Ykb BK124 hb
        replace BK125 := Ykb BK125 hb
        replace BK126 := Ykb BK126 hb
        replace BK137 := Ykb BK137 hb
        replace HB := zab.mk (zar Yb_PGssMergesx4_3 hb)
        (try clear hb)
        (try clear hb2)
        (try clear hk)
        (try clear hi)
        refine hK.out _ _ ⟨(zac BK137.out 0).trans rfl, (zac BK125.out 0).trans rfl, (zac BK124.out 0).trans rfl, (zac BK126.out 0).trans rfl⟩ (fun hHeld => ?_)
        clear hK K
        refine Ynw 65 ?_
        refine Ypt 26 66 31 134217727 HT_ ?_
        refine Ypt 27 67 31 268435455 HT_ ?_
        refine Yot 28 68 31 536870911 HT_ (fun K hK => ?_)
        refine Ygs Try.func9 #[] ?_
        with_reducible refine (za1.calls  t157 _ A95.out).mono ?_
        rintro e w124 ⟨rfl, hb⟩
        refine ⟨_, rfl, ?_⟩
        replace HO136 := zab.mk (Kd.za2 (Yr HO136) hb)
        replace HO141 := zab.mk (Kd.za2 (Yr HO141) hb)
        replace HO145 := zab.mk (Kd.za2 (Yr HO145) hb)
        replace HO149 := zab.mk (Kd.za2 (Yr HO149) hb)
        replace HO152 := zab.mk (Kd.za2 (Yr HO152) hb)
        replace HO155 := zab.mk (Kd.za2 (Yr HO155) hb)
        replace BK124 := Ykb BK124 hb
        replace BK125 := Ykb BK125 hb
        replace BK126 := Ykb BK126 hb
        replace BK137 := Ykb BK137 hb
        replace HB := zab.mk (zar Yb_PGssMergesx4_3 hb)
        (try clear hb)
        (try clear hb2)
        (try clear hk)
        (try clear hi)
        refine hK.out _ _ ⟨(zac BK137.out 0).trans rfl, (zac BK125.out 0).trans rfl, (zac BK124.out 0).trans rfl, (zac BK126.out 0).trans rfl⟩ (fun hHeld => ?_)
        clear hK K
        refine Ynw 68 ?_
        refine Ypt 29 69 31 1073741823 HT_ ?_
        refine Ypt 30 6 31 2147483647 HT_ ?_
        refine zbn (zbk HT_.out (by kernel_rfl)) ?_
        try go_wp2
        go_ret
        exact ⟨Yfi, Yb_PGssMergesx4_3⟩
       ·replace c94 := Bool.eq_false_iff.mpr c94
        subst c94
        have H1 : (some false) = some r := by rw [if_neg (show ¬ (false = true) by decide)] at H; exact H
        clear H;have H := H1;clear H1;obtain rfl := Option.some.inj H
        have hnb125 := NB124_125.out
        have hnc125 := NB125_124.out
        have hnb126 := NB124_126.out
        have hnc126 := NB126_124.out
        obtain ⟨hcz127_0, hfz127_0⟩ := Yc1 BK124.out
        have hnb128 := NB125_126.out
        have hnc128 := NB126_125.out
        obtain ⟨hcz129_0, hfz129_0⟩ := Yc1 BK125.out
        try go_wp2_with (first | ((with_reducible refine za5 (f := 17) rfl ?_); refine Ygl (some 39) Try.func17 #[.agg #[.slice A0_0 l0_0.length c0_0], .agg #[.slice A1_0 l1_0.length c1_0]] ?_; (with_reducible refine (zan.calls _ _ l0_0 _ _ l1_0 t134 _ (Kd.zaq HR0_0.out Ybe) HC0_0.out (Kd.zaq HR1_0.out Ybe) HC1_0.out A81.out).mono ?_); rintro e w130 ⟨v135, rfl, ho0, hb⟩; refine ⟨_, rfl, ?_⟩; have HO136 := zab.mk (Kd.zbf ho0 (zbd Yb_PGssMergesx4_2)); replace BK124 := Ykb BK124 hb; replace BK125 := Ykb BK125 hb; replace BK126 := Ykb BK126 hb; replace HB := zab.mk (zar Yb_PGssMergesx4_2 hb); (try clear hb); (try clear hb2); (try clear hk); (try clear hi); (try clear ho0)) | ((with_reducible refine za6 (N := 7) rfl ?_); refine Ybx 7 #[.slice none 0 0] 24 ?_; intro gb137 hg w131 hbox hb; replace HO136 := zab.mk (Kd.za2 (Yr HO136) hb); obtain ⟨BK137, GW137, GE137, HB⟩ := Yb4 hbox hg hb Yb_PGssMergesx4_2; have NB124_137 := Ynl BK124 hg; have NB137_124 := Yng BK124 hg; replace BK124 := Ykb BK124 hb; have NB125_137 := Ynl BK125 hg; have NB137_125 := Yng BK125 hg; replace BK125 := Ykb BK125 hb; have NB126_137 := Ynl BK126 hg; have NB137_126 := Yng BK126 hg; replace BK126 := Ykb BK126 hb; clear hb hbox hg; obtain ⟨Ao132, co132, eo132⟩ := Kd.zbi HO136.out; subst eo132; have hnb133 := NB137_124.out; have hnc133 := NB124_137.out; have hnb134 := NB137_125.out; have hnc134 := NB125_137.out; have hnb135 := NB137_126.out; have hnc135 := NB126_137.out; obtain ⟨hcz136_0, hfz136_0⟩ := Yc1 BK137.out))
        have n0_ : zab (Kd.R k38 38 (w131.setCell ⟨gb137, 0, none⟩ (.slice Ao132 t134.length co132)) w.heap.size (fun _ => True) (.slice Ao132 t134.length co132) t134) := ⟨by (with_reducible repeat (first | apply Kd.zc1 | apply Kd.R_drewN | apply Kd.zcw)); exact Kd.zb2 (Kd.R_far (p := ⟨gb137, 0, none⟩) (Kd.zc2 HO136.out BK137.out (by decide)) (fun _ hk => hk.2) (.slice Ao132 t134.length co132)) (fun _ hk => trivial)⟩
        have n1_ : zab ((w131.setCell ⟨gb137, 0, none⟩ (.slice Ao132 t134.length co132)).heap[gb124]? = some (.cells #[.slice A0_0 l0_0.length c0_0] 24 (0, 0))) := ⟨by (with_reducible repeat (first | refine zah ?_ _ | refine zad ?_ | refine zaf ?_ _)); refine zal ?_ NB124_137.out _; (with_reducible repeat (first | refine zah ?_ _ | refine zad ?_ | refine zaf ?_ _)); exact BK124.out⟩
        have n2_ : zab ((w131.setCell ⟨gb137, 0, none⟩ (.slice Ao132 t134.length co132)).heap[gb125]? = some (.cells #[.slice A1_0 l1_0.length c1_0] 24 (0, 0))) := ⟨by (with_reducible repeat (first | refine zah ?_ _ | refine zad ?_ | refine zaf ?_ _)); refine zal ?_ NB125_137.out _; (with_reducible repeat (first | refine zah ?_ _ | refine zad ?_ | refine zaf ?_ _)); exact BK125.out⟩
        have n3_ : zab ((w131.setCell ⟨gb137, 0, none⟩ (.slice Ao132 t134.length co132)).heap[gb126]? = some (.cells #[.slice A2_0 l2_0.length c2_0] 24 (0, 0))) := ⟨by (with_reducible repeat (first | refine zah ?_ _ | refine zad ?_ | refine zaf ?_ _)); refine zal ?_ NB126_137.out _; (with_reducible repeat (first | refine zah ?_ _ | refine zad ?_ | refine zaf ?_ _)); exact BK126.out⟩
        have n4_ : zab ((w131.setCell ⟨gb137, 0, none⟩ (.slice Ao132 t134.length co132)).heap[gb137]? = some (.cells #[.slice Ao132 t134.length co132] 24 (0, 0))) := ⟨by (with_reducible repeat (first | refine zah ?_ _ | refine zad ?_ | refine zaf ?_ _)); refine zat (cs := #[.slice none 0 0]) ?_ 0 _ rfl; (with_reducible repeat (first | refine zah ?_ _ | refine zad ?_ | refine zaf ?_ _)); exact BK137.out⟩
        have n5_ : zab (Below w.heap.size w (w131.setCell ⟨gb137, 0, none⟩ (.slice Ao132 t134.length co132))) := ⟨Yb_PGssMergesx4_3⟩
        (try clear HO136)
        (try clear BK124)
        (try clear BK125)
        (try clear BK126)
        (try clear BK137)
        (try clear HB)
        generalize (w131.setCell ⟨gb137, 0, none⟩ (.slice Ao132 t134.length co132)) = w137 at n0_ n1_ n2_ n3_ n4_ n5_ ⊢
        have HO136 := n0_;have BK124 := n1_;have BK125 := n2_;have BK126 := n3_;have BK137 := n4_;have HB := n5_;clear n0_ n1_ n2_ n3_ n4_ n5_
        replace HO136 := zab.mk (Kd.zcw HO136.out)
        replace BK124 := zab.mk (zad BK124.out)
        replace BK125 := zab.mk (zad BK125.out)
        replace BK126 := zab.mk (zad BK126.out)
        replace BK137 := zab.mk (zad BK137.out)
        replace HB := zab.mk (zav HB.out)
        refine zbh (n := 31) (S := fun w' => w'.cell? ⟨gb137, 0, none⟩ = some (.slice Ao132 t134.length co132) ∧ w'.cell? ⟨gb125, 0, none⟩ = some (.slice A1_0 l1_0.length c1_0) ∧ w'.cell? ⟨gb124, 0, none⟩ = some (.slice A0_0 l0_0.length c0_0) ∧ w'.cell? ⟨gb126, 0, none⟩ = some (.slice A2_0 l2_0.length c2_0)) (ds := []) (Ymk 31 0) (by kernel_rfl) rfl rfl ⟨(zac BK137.out 0).trans rfl, (zac BK125.out 0).trans rfl, (zac BK124.out 0).trans rfl, (zac BK126.out 0).trans rfl⟩ (fun hHeld => ?_); refine zbc zai.tab4 zai.bits4 (fun HT_ HW_ => ?_)
        generalize w137.drew = w138 at HO136 BK124 BK125 BK126 BK137 HB hHeld ⊢
        refine Ytt 0 40 31 1 HT_ HW_ hHeld ?_
        refine Yot 1 41 31 3 HT_ (fun K hK => ?_)
        refine Ygs Try.func8 #[.agg #[.slice Ao132 t134.length co132]] ?_
        with_reducible refine (zae.calls kj3 _ _ t134 true _ ?side1 ?side2 A82.out).mono ?_
        (case side1 => repeat (first | exact (Kd.R_reads' HO136.out).2.2 | (with_reducible refine Kd.C_alloc ?_ _) | (with_reducible refine Kd.C_drewN ?_ _) | (with_reducible refine Kd.C_drew ?_)))
        (case side2 => exact (Kd.R_reads' HO136.out).2.1)
        rintro e w139 ⟨rfl, hb⟩
        refine ⟨_, rfl, ?_⟩
        replace HO136 := zab.mk (Kd.za2 (Yr HO136) hb)
        replace BK124 := Ykb BK124 hb
        replace BK125 := Ykb BK125 hb
        replace BK126 := Ykb BK126 hb
        replace BK137 := Ykb BK137 hb
        replace HB := zab.mk (zar Yb_PGssMergesx4_3 hb)
        (try clear hb)
        (try clear hb2)
        (try clear hk)
        (try clear hi)
        refine hK.out _ _ ⟨(zac BK137.out 0).trans rfl, (zac BK125.out 0).trans rfl, (zac BK124.out 0).trans rfl, (zac BK126.out 0).trans rfl⟩ (fun hHeld => ?_)
        clear hK K
        refine Ynw 41 ?_
        refine Ypt 2 42 31 7 HT_ ?_
        refine Ytt 3 43 31 15 HT_ HW_ hHeld ?_
        refine Ytt 4 44 31 31 HT_ HW_ hHeld ?_
        refine Ytt 5 45 31 63 HT_ HW_ hHeld ?_
        refine Yot 6 46 31 127 HT_ (fun K hK => ?_)
        refine Ygs Try.func17 #[.agg #[.slice A1_0 l1_0.length c1_0], .agg #[.slice A0_0 l0_0.length c0_0]] ?_
        with_reducible refine (zan.calls _ _ l1_0 _ _ l0_0 t139 _ (Kd.zaq HR1_0.out Ybe) HC1_0.out (Kd.zaq HR0_0.out Ybe) HC0_0.out A84.out).mono ?_
        rintro e w140 ⟨v140, rfl, ho0, hb⟩
        refine ⟨_, rfl, ?_⟩
        have HO141 := zab.mk (Kd.zbf (Kd.R_new' ho0 (Kd.R_lt (Yr HO136))) (zbd Yb_PGssMergesx4_3))
        replace HO136 := zab.mk (Kd.R_elder' (Yr HO136) (Kd.zbe ho0) hb)
        replace BK124 := Ykb BK124 hb
        replace BK125 := Ykb BK125 hb
        replace BK126 := Ykb BK126 hb
        replace BK137 := Ykb BK137 hb
        replace HB := zab.mk (zar Yb_PGssMergesx4_3 hb)
        (try clear hb)
        (try clear hb2)
        (try clear hk)
        (try clear hi)
        (try clear ho0)
        obtain ⟨Ao141, co141, eo141⟩ := Kd.zbi HO141.out
        (first | subst eo141 | (injection eo141 with f1_ f2_ f3_; have f4_ := f1_.symm; have f5_ := f3_.symm; clear f1_ f2_ f3_; subst f4_; subst f5_))
        refine hK.out _ _ ⟨(zac BK137.out 0).trans rfl, (zac BK125.out 0).trans rfl, (zac BK124.out 0).trans rfl, (zac BK126.out 0).trans rfl⟩ (fun hHeld => ?_)
        clear hK K
        refine Ynw 46 ?_
        refine Yot 7 47 31 255 HT_ (fun K hK => ?_)
        refine Ygs Try.func16 #[.agg #[.slice Ao132 t134.length co132], .agg #[.slice Ao141 t139.length co141]] ?_
        with_reducible refine (zak.calls kj3 _ _ t134 _ _ t139 true _ ?side1 ?side2 ?side3 ?side4 A85.out).mono ?_
        (case side1 => repeat (first | exact (Kd.R_reads' HO136.out).2.2 | (with_reducible refine Kd.C_alloc ?_ _) | (with_reducible refine Kd.C_drewN ?_ _) | (with_reducible refine Kd.C_drew ?_)))
        (case side2 => exact (Kd.R_reads' HO136.out).2.1)
        (case side3 => repeat (first | exact (Kd.R_reads' HO141.out).2.2 | (with_reducible refine Kd.C_alloc ?_ _) | (with_reducible refine Kd.C_drewN ?_ _) | (with_reducible refine Kd.C_drew ?_)))
        (case side4 => exact (Kd.R_reads' HO141.out).2.1)
        rintro e w142 ⟨rfl, hb⟩
        refine ⟨_, rfl, ?_⟩
        replace HO136 := zab.mk (Kd.za2 (Yr HO136) hb)
        replace HO141 := zab.mk (Kd.za2 (Yr HO141) hb)
        replace BK124 := Ykb BK124 hb
        replace BK125 := Ykb BK125 hb
        replace BK126 := Ykb BK126 hb
        replace BK137 := Ykb BK137 hb
        replace HB := zab.mk (zar Yb_PGssMergesx4_3 hb)
        (try clear hb)
        (try clear hb2)
        (try clear hk)
        (try clear hi)
        refine hK.out _ _ ⟨(zac BK137.out 0).trans rfl, (zac BK125.out 0).trans rfl, (zac BK124.out 0).trans rfl, (zac BK126.out 0).trans rfl⟩ (fun hHeld => ?_)
        clear hK K
        refine Ynw 47 ?_
        refine Ypt 8 48 31 511 HT_ ?_
        refine Ypt 9 49 31 1023 HT_ ?_
        refine Ytt 10 50 31 2047 HT_ HW_ hHeld ?_
        refine Ytt 11 51 31 4095 HT_ HW_ hHeld ?_
        refine Ytt 13 53 31 12287 HT_ HW_ hHeld ?_
        refine Yot 12 52 31 16383 HT_ (fun K hK => ?_)
        refine Ygs Try.func17 #[.agg #[.slice Ao132 t134.length co132], .agg #[.slice A0_0 l0_0.length c0_0]] ?_
        with_reducible refine (zan.calls _ _ t134 _ _ l0_0 t143 _ ?side1 ?side2 (Kd.zaq HR0_0.out Ybe) HC0_0.out A87.out).mono ?_
        (case side1 => repeat (first | exact (Kd.R_reads' HO136.out).2.2 | (with_reducible refine Kd.C_alloc ?_ _) | (with_reducible refine Kd.C_drewN ?_ _) | (with_reducible refine Kd.C_drew ?_)))
        (case side2 => exact (Kd.R_reads' HO136.out).2.1)
        rintro e w143 ⟨v144, rfl, ho0, hb⟩
        refine ⟨_, rfl, ?_⟩
        have HO145 := zab.mk (Kd.zbf (Kd.R_new' (Kd.R_new' ho0 (Kd.R_lt (Yr HO136))) (Kd.R_lt (Yr HO141))) (zbd Yb_PGssMergesx4_3))
        replace HO136 := zab.mk (Kd.R_elder' (Yr HO136) (Kd.zbe ho0) hb)
        replace HO141 := zab.mk (Kd.R_elder' (Yr HO141) (Kd.zbe ho0) hb)
        replace BK124 := Ykb BK124 hb
        replace BK125 := Ykb BK125 hb
        replace BK126 := Ykb BK126 hb
        replace BK137 := Ykb BK137 hb
        replace HB := zab.mk (zar Yb_PGssMergesx4_3 hb)
        (try clear hb)
        (try clear hb2)
        (try clear hk)
        (try clear hi)
        (try clear ho0)
        obtain ⟨Ao144, co144, eo144⟩ := Kd.zbi HO145.out
        (first | subst eo144 | (injection eo144 with f1_ f2_ f3_; have f4_ := f1_.symm; have f5_ := f3_.symm; clear f1_ f2_ f3_; subst f4_; subst f5_))
        refine hK.out _ _ ⟨(zac BK137.out 0).trans rfl, (zac BK125.out 0).trans rfl, (zac BK124.out 0).trans rfl, (zac BK126.out 0).trans rfl⟩ (fun hHeld => ?_)
        clear hK K
        refine Ynw 52 ?_
        refine Yot 14 54 31 32767 HT_ (fun K hK => ?_)
        refine Ygs Try.func16 #[.agg #[.slice Ao144 t143.length co144], .agg #[.slice Ao132 t134.length co132]] ?_
        with_reducible refine (zak.calls kj3 _ _ t143 _ _ t134 true _ ?side1 ?side2 ?side3 ?side4 A88.out).mono ?_
        (case side1 => repeat (first | exact (Kd.R_reads' HO145.out).2.2 | (with_reducible refine Kd.C_alloc ?_ _) | (with_reducible refine Kd.C_drewN ?_ _) | (with_reducible refine Kd.C_drew ?_)))
        (case side2 => exact (Kd.R_reads' HO145.out).2.1)
        (case side3 => repeat (first | exact (Kd.R_reads' HO136.out).2.2 | (with_reducible refine Kd.C_alloc ?_ _) | (with_reducible refine Kd.C_drewN ?_ _) | (with_reducible refine Kd.C_drew ?_)))
        (case side4 => exact (Kd.R_reads' HO136.out).2.1)
        rintro e w145 ⟨rfl, hb⟩
        refine ⟨_, rfl, ?_⟩
        replace HO136 := zab.mk (Kd.za2 (Yr HO136) hb)
        replace HO141 := zab.mk (Kd.za2 (Yr HO141) hb)
        replace HO145 := zab.mk (Kd.za2 (Yr HO145) hb)
        replace BK124 := Ykb BK124 hb
        replace BK125 := Ykb BK125 hb
        replace BK126 := Ykb BK126 hb
        replace BK137 := Ykb BK137 hb
        replace HB := zab.mk (zar Yb_PGssMergesx4_3 hb)
        (try clear hb)
        (try clear hb2)
        (try clear hk)
        (try clear hi)
        refine hK.out _ _ ⟨(zac BK137.out 0).trans rfl, (zac BK125.out 0).trans rfl, (zac BK124.out 0).trans rfl, (zac BK126.out 0).trans rfl⟩ (fun hHeld => ?_)
        clear hK K
        refine Ynw 54 ?_
        refine Ypt 15 55 31 65535 HT_ ?_
        refine Ypt 16 56 31 131071 HT_ ?_
        refine Ytt 17 57 31 262143 HT_ HW_ hHeld ?_
        refine Ytt 18 58 31 524287 HT_ HW_ hHeld ?_
        refine Ytt 20 60 31 1572863 HT_ HW_ hHeld ?_
        refine Ytt 21 61 31 3670015 HT_ HW_ hHeld ?_
        refine Ytt 22 62 31 7864319 HT_ HW_ hHeld ?_
        refine Yot 19 59 31 8388607 HT_ (fun K hK => ?_)
        refine Ygs Try.func17 #[.agg #[.slice Ao132 t134.length co132], .agg #[.slice A2_0 l2_0.length c2_0]] ?_
        with_reducible refine (zan.calls _ _ t134 _ _ l2_0 t147 _ ?side1 ?side2 (Kd.zaq HR2_0.out Ybe) HC2_0.out A90.out).mono ?_
        (case side1 => repeat (first | exact (Kd.R_reads' HO136.out).2.2 | (with_reducible refine Kd.C_alloc ?_ _) | (with_reducible refine Kd.C_drewN ?_ _) | (with_reducible refine Kd.C_drew ?_)))
        (case side2 => exact (Kd.R_reads' HO136.out).2.1)
        rintro e w146 ⟨v148, rfl, ho0, hb⟩
        refine ⟨_, rfl, ?_⟩
        have HO149 := zab.mk (Kd.zbf (Kd.R_new' (Kd.R_new' (Kd.R_new' ho0 (Kd.R_lt (Yr HO136))) (Kd.R_lt (Yr HO141))) (Kd.R_lt (Yr HO145))) (zbd Yb_PGssMergesx4_3))
        replace HO136 := zab.mk (Kd.R_elder' (Yr HO136) (Kd.zbe ho0) hb)
        replace HO141 := zab.mk (Kd.R_elder' (Yr HO141) (Kd.zbe ho0) hb)
        replace HO145 := zab.mk (Kd.R_elder' (Yr HO145) (Kd.zbe ho0) hb)
        replace BK124 := Ykb BK124 hb
        replace BK125 := Ykb BK125 hb
        replace BK126 := Ykb BK126 hb
        replace BK137 := Ykb BK137 hb
        replace HB := zab.mk (zar Yb_PGssMergesx4_3 hb)
        (try clear hb)
        (try clear hb2)
        (try clear hk)
        (try clear hi)
        (try clear ho0)
        refine hK.out _ _ ⟨(zac BK137.out 0).trans rfl, (zac BK125.out 0).trans rfl, (zac BK124.out 0).trans rfl, (zac BK126.out 0).trans rfl⟩ (fun hHeld => ?_)
        clear hK K
        refine Ynw 59 ?_
        refine Yot 23 63 31 16777215 HT_ (fun K hK => ?_)
        refine Ygs Try.func17 #[.agg #[.slice A1_0 l1_0.length c1_0], .agg #[.slice A2_0 l2_0.length c2_0]] ?_
        with_reducible refine (zan.calls _ _ l1_0 _ _ l2_0 t150 _ (Kd.zaq HR1_0.out Ybe) HC1_0.out (Kd.zaq HR2_0.out Ybe) HC2_0.out A91.out).mono ?_
        rintro e w147 ⟨v151, rfl, ho0, hb⟩
        refine ⟨_, rfl, ?_⟩
        have HO152 := zab.mk (Kd.zbf (Kd.R_new' (Kd.R_new' (Kd.R_new' (Kd.R_new' ho0 (Kd.R_lt (Yr HO136))) (Kd.R_lt (Yr HO141))) (Kd.R_lt (Yr HO145))) (Kd.R_lt (Yr HO149))) (zbd Yb_PGssMergesx4_3))
        replace HO136 := zab.mk (Kd.R_elder' (Yr HO136) (Kd.zbe ho0) hb)
        replace HO141 := zab.mk (Kd.R_elder' (Yr HO141) (Kd.zbe ho0) hb)
        replace HO145 := zab.mk (Kd.R_elder' (Yr HO145) (Kd.zbe ho0) hb)
        replace HO149 := zab.mk (Kd.R_elder' (Yr HO149) (Kd.zbe ho0) hb)
        replace BK124 := Ykb BK124 hb
        replace BK125 := Ykb BK125 hb
        replace BK126 := Ykb BK126 hb
        replace BK137 := Ykb BK137 hb
        replace HB := zab.mk (zar Yb_PGssMergesx4_3 hb)
        (try clear hb)
        (try clear hb2)
        (try clear hk)
        (try clear hi)
        (try clear ho0)
        obtain ⟨Ao148, co148, eo148⟩ := Kd.zbi HO152.out
        (first | subst eo148 | (injection eo148 with f1_ f2_ f3_; have f4_ := f1_.symm; have f5_ := f3_.symm; clear f1_ f2_ f3_; subst f4_; subst f5_))
        refine hK.out _ _ ⟨(zac BK137.out 0).trans rfl, (zac BK125.out 0).trans rfl, (zac BK124.out 0).trans rfl, (zac BK126.out 0).trans rfl⟩ (fun hHeld => ?_)
        clear hK K
        refine Ynw 63 ?_
        refine Yot 24 64 31 33554431 HT_ (fun K hK => ?_)
        refine Ygs Try.func17 #[.agg #[.slice A0_0 l0_0.length c0_0], .agg #[.slice Ao148 t150.length co148]] ?_
        with_reducible refine (zan.calls _ _ l0_0 _ _ t150 t153 _ (Kd.zaq HR0_0.out Ybe) HC0_0.out ?side3 ?side4 A92.out).mono ?_
        (case side3 => repeat (first | exact (Kd.R_reads' HO152.out).2.2 | (with_reducible refine Kd.C_alloc ?_ _) | (with_reducible refine Kd.C_drewN ?_ _) | (with_reducible refine Kd.C_drew ?_)))
        (case side4 => exact (Kd.R_reads' HO152.out).2.1)
        rintro e w149 ⟨v154, rfl, ho0, hb⟩
        refine ⟨_, rfl, ?_⟩
        have HO155 := zab.mk (Kd.zbf (Kd.R_new' (Kd.R_new' (Kd.R_new' (Kd.R_new' (Kd.R_new' ho0 (Kd.R_lt (Yr HO136))) (Kd.R_lt (Yr HO141))) (Kd.R_lt (Yr HO145))) (Kd.R_lt (Yr HO149))) (Kd.R_lt (Yr HO152))) (zbd Yb_PGssMergesx4_3))
        replace HO136 := zab.mk (Kd.R_elder' (Yr HO136) (Kd.zbe ho0) hb)
        replace HO141 := zab.mk (Kd.R_elder' (Yr HO141) (Kd.zbe ho0) hb)
        replace HO145 := zab.mk (Kd.R_elder' (Yr HO145) (Kd.zbe ho0) hb)
        replace HO149 := zab.mk (Kd.R_elder' (Yr HO149) (Kd.zbe ho0) hb)
        replace HO152 := zab.mk (Kd.R_elder' (Yr HO152) (Kd.zbe ho0) hb)
        replace BK124 := Ykb BK124 hb
        replace BK125 := Ykb BK125 hb
        replace BK126 := Ykb BK126 hb
        replace BK137 := Ykb BK137 hb
        replace HB := zab.mk (zar Yb_PGssMergesx4_3 hb)
        (try clear hb)
        (try clear hb2)
        (try clear hk)
        (try clear hi)
        (try clear ho0)
        obtain ⟨Ao150, co150, eo150⟩ := Kd.zbi HO149.out
        (first | subst eo150 | (injection eo150 with f1_ f2_ f3_; have f4_ := f1_.symm; have f5_ := f3_.symm; clear f1_ f2_ f3_; subst f4_; subst f5_))
        obtain ⟨Ao151, co151, eo151⟩ := Kd.zbi HO155.out
        (first | subst eo151 | (injection eo151 with f1_ f2_ f3_; have f4_ := f1_.symm; have f5_ := f3_.symm; clear f1_ f2_ f3_; subst f4_; subst f5_))
        refine hK.out _ _ ⟨(zac BK137.out 0).trans rfl, (zac BK125.out 0).trans rfl, (zac BK124.out 0).trans rfl, (zac BK126.out 0).trans rfl⟩ (fun hHeld => ?_)
        clear hK K
        refine Ynw 64 ?_
        refine Yot 25 65 31 67108863 HT_ (fun K hK => ?_)
        refine Ygs Try.func16 #[.agg #[.slice Ao150 t147.length co150], .agg #[.slice Ao151 t153.length co151]] ?_
        with_reducible refine (zak.calls kj3 _ _ t147 _ _ t153 false _ ?side1 ?side2 ?side3 ?side4 A93.out).mono ?_
        (case side1 => repeat (first | exact (Kd.R_reads' HO149.out).2.2 | (with_reducible refine Kd.C_alloc ?_ _) | (with_reducible refine Kd.C_drewN ?_ _) | (with_reducible refine Kd.C_drew ?_)))
        (case side2 => exact (Kd.R_reads' HO149.out).2.1)
        (case side3 => repeat (first | exact (Kd.R_reads' HO155.out).2.2 | (with_reducible refine Kd.C_alloc ?_ _) | (with_reducible refine Kd.C_drewN ?_ _) | (with_reducible refine Kd.C_drew ?_)))
        (case side4 => exact (Kd.R_reads' HO155.out).2.1)
        rintro e w152 ⟨rfl, hb⟩
        refine ⟨_, rfl, ?_⟩
        replace HO136 := zab.mk (Kd.za2 (Yr HO136) hb)
        replace HO141 := zab.mk (Kd.za2 (Yr HO141) hb)
        replace HO145 := zab.mk (Kd.za2 (Yr HO145) hb)
        replace HO149 := zab.mk (Kd.za2 (Yr HO149) hb)
        replace HO152 := zab.mk (Kd.za2 (Yr HO152) hb)
        replace HO155 := zab.mk (Kd.za2 (Yr HO155) hb)
        replace BK124 := Ykb BK124 hb
        replace BK125 := Ykb BK125 hb
        replace BK126 := Ykb BK126 hb
        replace BK137 := Ykb BK137 hb
        replace HB := zab.mk (zar Yb_PGssMergesx4_3 hb)
        (try clear hb)
        (try clear hb2)
        (try clear hk)
        (try clear hi)
        refine hK.out _ _ ⟨(zac BK137.out 0).trans rfl, (zac BK125.out 0).trans rfl, (zac BK124.out 0).trans rfl, (zac BK126.out 0).trans rfl⟩ (fun hHeld => ?_)
        clear hK K
        refine Ynw 65 ?_
        refine Ypt 26 66 31 134217727 HT_ ?_
        refine Ypt 27 67 31 268435455 HT_ ?_
        refine Ypu 28 68 31 536870911 HT_ ?_
        refine Ypt 29 69 31 1073741823 HT_ ?_
        refine Ypt 30 6 31 2147483647 HT_ ?_
        refine zbn (zbk HT_.out (by kernel_rfl)) ?_
        try go_wp2
        go_ret
        exact ⟨Yfi, Yb_PGssMergesx4_3⟩
      ·replace c89 := Bool.eq_false_iff.mpr c89
       subst c89
       have H1 : (some false) = some r := by rw [if_neg (show ¬ (false = true) by decide)] at H; exact H
       clear H;have H := H1;clear H1;obtain rfl := Option.some.inj H
       have hnb153 := NB124_125.out
       have hnc153 := NB125_124.out
       have hnb154 := NB124_126.out
       have hnc154 := NB126_124.out
       obtain ⟨hcz155_0, hfz155_0⟩ := Yc1 BK124.out
       have hnb156 := NB125_126.out
       have hnc156 := NB126_125.out
       obtain ⟨hcz157_0, hfz157_0⟩ := Yc1 BK125.out
       try go_wp2_with (first | ((with_reducible refine za5 (f := 17) rfl ?_); refine Ygl (some 39) Try.func17 #[.agg #[.slice A0_0 l0_0.length c0_0], .agg #[.slice A1_0 l1_0.length c1_0]] ?_; (with_reducible refine (zan.calls _ _ l0_0 _ _ l1_0 t134 _ (Kd.zaq HR0_0.out Ybe) HC0_0.out (Kd.zaq HR1_0.out Ybe) HC1_0.out A81.out).mono ?_); rintro e w158 ⟨v135, rfl, ho0, hb⟩; refine ⟨_, rfl, ?_⟩; have HO136 := zab.mk (Kd.zbf ho0 (zbd Yb_PGssMergesx4_2)); replace BK124 := Ykb BK124 hb; replace BK125 := Ykb BK125 hb; replace BK126 := Ykb BK126 hb; replace HB := zab.mk (zar Yb_PGssMergesx4_2 hb); (try clear hb); (try clear hb2); (try clear hk); (try clear hi); (try clear ho0)) | ((with_reducible refine za6 (N := 7) rfl ?_); refine Ybx 7 #[.slice none 0 0] 24 ?_; intro gb137 hg w159 hbox hb; replace HO136 := zab.mk (Kd.za2 (Yr HO136) hb); obtain ⟨BK137, GW137, GE137, HB⟩ := Yb4 hbox hg hb Yb_PGssMergesx4_2; have NB124_137 := Ynl BK124 hg; have NB137_124 := Yng BK124 hg; replace BK124 := Ykb BK124 hb; have NB125_137 := Ynl BK125 hg; have NB137_125 := Yng BK125 hg; replace BK125 := Ykb BK125 hb; have NB126_137 := Ynl BK126 hg; have NB137_126 := Yng BK126 hg; replace BK126 := Ykb BK126 hb; clear hb hbox hg; obtain ⟨Ao160, co160, eo160⟩ := Kd.zbi HO136.out; subst eo160; have hnb161 := NB137_124.out; have hnc161 := NB124_137.out; have hnb162 := NB137_125.out; have hnc162 := NB125_137.out; have hnb163 := NB137_126.out; have hnc163 := NB126_137.out; obtain ⟨hcz164_0, hfz164_0⟩ := Yc1 BK137.out))
       have n0_ : zab (Kd.R k38 38 (w159.setCell ⟨gb137, 0, none⟩ (.slice Ao160 t134.length co160)) w.heap.size (fun _ => True) (.slice Ao160 t134.length co160) t134) := ⟨by (with_reducible repeat (first | apply Kd.zc1 | apply Kd.R_drewN | apply Kd.zcw)); exact Kd.zb2 (Kd.R_far (p := ⟨gb137, 0, none⟩) (Kd.zc2 HO136.out BK137.out (by decide)) (fun _ hk => hk.2) (.slice Ao160 t134.length co160)) (fun _ hk => trivial)⟩
       have n1_ : zab ((w159.setCell ⟨gb137, 0, none⟩ (.slice Ao160 t134.length co160)).heap[gb124]? = some (.cells #[.slice A0_0 l0_0.length c0_0] 24 (0, 0))) := ⟨by (with_reducible repeat (first | refine zah ?_ _ | refine zad ?_ | refine zaf ?_ _)); refine zal ?_ NB124_137.out _; (with_reducible repeat (first | refine zah ?_ _ | refine zad ?_ | refine zaf ?_ _)); exact BK124.out⟩
       have n2_ : zab ((w159.setCell ⟨gb137, 0, none⟩ (.slice Ao160 t134.length co160)).heap[gb125]? = some (.cells #[.slice A1_0 l1_0.length c1_0] 24 (0, 0))) := ⟨by (with_reducible repeat (first | refine zah ?_ _ | refine zad ?_ | refine zaf ?_ _)); refine zal ?_ NB125_137.out _; (with_reducible repeat (first | refine zah ?_ _ | refine zad ?_ | refine zaf ?_ _)); exact BK125.out⟩
       have n3_ : zab ((w159.setCell ⟨gb137, 0, none⟩ (.slice Ao160 t134.length co160)).heap[gb126]? = some (.cells #[.slice A2_0 l2_0.length c2_0] 24 (0, 0))) := ⟨by (with_reducible repeat (first | refine zah ?_ _ | refine zad ?_ | refine zaf ?_ _)); refine zal ?_ NB126_137.out _; (with_reducible repeat (first | refine zah ?_ _ | refine zad ?_ | refine zaf ?_ _)); exact BK126.out⟩
       have n4_ : zab ((w159.setCell ⟨gb137, 0, none⟩ (.slice Ao160 t134.length co160)).heap[gb137]? = some (.cells #[.slice Ao160 t134.length co160] 24 (0, 0))) := ⟨by (with_reducible repeat (first | refine zah ?_ _ | refine zad ?_ | refine zaf ?_ _)); refine zat (cs := #[.slice none 0 0]) ?_ 0 _ rfl; (with_reducible repeat (first | refine zah ?_ _ | refine zad ?_ | refine zaf ?_ _)); exact BK137.out⟩
       have n5_ : zab (Below w.heap.size w (w159.setCell ⟨gb137, 0, none⟩ (.slice Ao160 t134.length co160))) := ⟨Yb_PGssMergesx4_3⟩
       (try clear HO136)
       (try clear BK124)
       (try clear BK125)
       (try clear BK126)
       (try clear BK137)
       (try clear HB)
       generalize (w159.setCell ⟨gb137, 0, none⟩ (.slice Ao160 t134.length co160)) = w165 at n0_ n1_ n2_ n3_ n4_ n5_ ⊢
       have HO136 := n0_;have BK124 := n1_;have BK125 := n2_;have BK126 := n3_;have BK137 := n4_;have HB := n5_;clear n0_ n1_ n2_ n3_ n4_ n5_
       replace HO136 := zab.mk (Kd.zcw HO136.out)
       replace BK124 := zab.mk (zad BK124.out)
       replace BK125 := zab.mk (zad BK125.out)
       replace BK126 := zab.mk (zad BK126.out)
       replace BK137 := zab.mk (zad BK137.out)
       replace HB := zab.mk (zav HB.out)
       refine zbh (n := 31) (S := fun w' => w'.cell? ⟨gb137, 0, none⟩ = some (.slice Ao160 t134.length co160) ∧ w'.cell? ⟨gb125, 0, none⟩ = some (.slice A1_0 l1_0.length c1_0) ∧ w'.cell? ⟨gb124, 0, none⟩ = some (.slice A0_0 l0_0.length c0_0)) (ds := []) (Ymk 31 0) (by kernel_rfl) rfl rfl ⟨(zac BK137.out 0).trans rfl, (zac BK125.out 0).trans rfl, (zac BK124.out 0).trans rfl⟩ (fun hHeld => ?_); refine zbc zai.tab4 zai.bits4 (fun HT_ HW_ => ?_)
       generalize w165.drew = w166 at HO136 BK124 BK125 BK126 BK137 HB hHeld ⊢
       refine Ytt 0 40 31 1 HT_ HW_ hHeld ?_
       refine Yot 1 41 31 3 HT_ (fun K hK => ?_)
       refine Ygs Try.func8 #[.agg #[.slice Ao160 t134.length co160]] ?_
       with_reducible refine (zae.calls kj3 _ _ t134 true _ ?side1 ?side2 A82.out).mono ?_
       (case side1 => repeat (first | exact (Kd.R_reads' HO136.out).2.2 | (with_reducible refine Kd.C_alloc ?_ _) | (with_reducible refine Kd.C_drewN ?_ _) | (with_reducible refine Kd.C_drew ?_)))
       (case side2 => exact (Kd.R_reads' HO136.out).2.1)
       rintro e w167 ⟨rfl, hb⟩
       refine ⟨_, rfl, ?_⟩
       replace HO136 := zab.mk (Kd.za2 (Yr HO136) hb)
       replace BK124 := Ykb BK124 hb
       replace BK125 := Ykb BK125 hb
       replace BK126 := Ykb BK126 hb
       replace BK137 := Ykb BK137 hb
       replace HB := zab.mk (zar Yb_PGssMergesx4_3 hb)
       (try clear hb)
       (try clear hb2)
       (try clear hk)
       (try clear hi)
       refine hK.out _ _ ⟨(zac BK137.out 0).trans rfl, (zac BK125.out 0).trans rfl, (zac BK124.out 0).trans rfl⟩ (fun hHeld => ?_)
       clear hK K
       refine Ynw 41 ?_
       refine Ypt 2 42 31 7 HT_ ?_
       refine Ytt 3 43 31 15 HT_ HW_ hHeld ?_
       refine Ytt 4 44 31 31 HT_ HW_ hHeld ?_
       refine Ytt 5 45 31 63 HT_ HW_ hHeld ?_
       refine Yot 6 46 31 127 HT_ (fun K hK => ?_)
       refine Ygs Try.func17 #[.agg #[.slice A1_0 l1_0.length c1_0], .agg #[.slice A0_0 l0_0.length c0_0]] ?_
       with_reducible refine (zan.calls _ _ l1_0 _ _ l0_0 t139 _ (Kd.zaq HR1_0.out Ybe) HC1_0.out (Kd.zaq HR0_0.out Ybe) HC0_0.out A84.out).mono ?_
       rintro e w168 ⟨v140, rfl, ho0, hb⟩
       refine ⟨_, rfl, ?_⟩
       have HO141 := zab.mk (Kd.zbf (Kd.R_new' ho0 (Kd.R_lt (Yr HO136))) (zbd Yb_PGssMergesx4_3))
       replace HO136 := zab.mk (Kd.R_elder' (Yr HO136) (Kd.zbe ho0) hb)
       replace BK124 := Ykb BK124 hb
       replace BK125 := Ykb BK125 hb
       replace BK126 := Ykb BK126 hb
       replace BK137 := Ykb BK137 hb
       replace HB := zab.mk (zar Yb_PGssMergesx4_3 hb)
       (try clear hb)
       (try clear hb2)
       (try clear hk)
       (try clear hi)
       (try clear ho0)
       obtain ⟨Ao169, co169, eo169⟩ := Kd.zbi HO141.out
       (first | subst eo169 | (injection eo169 with f1_ f2_ f3_; have f4_ := f1_.symm; have f5_ := f3_.symm; clear f1_ f2_ f3_; subst f4_; subst f5_))
       refine hK.out _ _ ⟨(zac BK137.out 0).trans rfl, (zac BK125.out 0).trans rfl, (zac BK124.out 0).trans rfl⟩ (fun hHeld => ?_)
       clear hK K
       refine Ynw 46 ?_
       refine Yot 7 47 31 255 HT_ (fun K hK => ?_)
       refine Ygs Try.func16 #[.agg #[.slice Ao160 t134.length co160], .agg #[.slice Ao169 t139.length co169]] ?_
       with_reducible refine (zak.calls kj3 _ _ t134 _ _ t139 true _ ?side1 ?side2 ?side3 ?side4 A85.out).mono ?_
       (case side1 => repeat (first | exact (Kd.R_reads' HO136.out).2.2 | (with_reducible refine Kd.C_alloc ?_ _) | (with_reducible refine Kd.C_drewN ?_ _) | (with_reducible refine Kd.C_drew ?_)))
       (case side2 => exact (Kd.R_reads' HO136.out).2.1)
       (case side3 => repeat (first | exact (Kd.R_reads' HO141.out).2.2 | (with_reducible refine Kd.C_alloc ?_ _) | (with_reducible refine Kd.C_drewN ?_ _) | (with_reducible refine Kd.C_drew ?_)))
       (case side4 => exact (Kd.R_reads' HO141.out).2.1)
       rintro e w170 ⟨rfl, hb⟩
       refine ⟨_, rfl, ?_⟩
       replace HO136 := zab.mk (Kd.za2 (Yr HO136) hb)
       replace HO141 := zab.mk (Kd.za2 (Yr HO141) hb)
       replace BK124 := Ykb BK124 hb
       replace BK125 := Ykb BK125 hb
       replace BK126 := Ykb BK126 hb
       replace BK137 := Ykb BK137 hb
       replace HB := zab.mk (zar Yb_PGssMergesx4_3 hb)
       (try clear hb)
       (try clear hb2)
       (try clear hk)
       (try clear hi)
       refine hK.out _ _ ⟨(zac BK137.out 0).trans rfl, (zac BK125.out 0).trans rfl, (zac BK124.out 0).trans rfl⟩ (fun hHeld => ?_)
       clear hK K
       refine Ynw 47 ?_
       refine Ypt 8 48 31 511 HT_ ?_
       refine Ypt 9 49 31 1023 HT_ ?_
       refine Ytt 10 50 31 2047 HT_ HW_ hHeld ?_
       refine Ytt 11 51 31 4095 HT_ HW_ hHeld ?_
       refine Ytt 13 53 31 12287 HT_ HW_ hHeld ?_
       refine Yot 12 52 31 16383 HT_ (fun K hK => ?_)
       refine Ygs Try.func17 #[.agg #[.slice Ao160 t134.length co160], .agg #[.slice A0_0 l0_0.length c0_0]] ?_
       with_reducible refine (zan.calls _ _ t134 _ _ l0_0 t143 _ ?side1 ?side2 (Kd.zaq HR0_0.out Ybe) HC0_0.out A87.out).mono ?_
       (case side1 => repeat (first | exact (Kd.R_reads' HO136.out).2.2 | (with_reducible refine Kd.C_alloc ?_ _) | (with_reducible refine Kd.C_drewN ?_ _) | (with_reducible refine Kd.C_drew ?_)))
       (case side2 => exact (Kd.R_reads' HO136.out).2.1)
       rintro e w171 ⟨v144, rfl, ho0, hb⟩
       refine ⟨_, rfl, ?_⟩
       have HO145 := zab.mk (Kd.zbf (Kd.R_new' (Kd.R_new' ho0 (Kd.R_lt (Yr HO136))) (Kd.R_lt (Yr HO141))) (zbd Yb_PGssMergesx4_3))
       replace HO136 := zab.mk (Kd.R_elder' (Yr HO136) (Kd.zbe ho0) hb)
       replace HO141 := zab.mk (Kd.R_elder' (Yr HO141) (Kd.zbe ho0) hb)
       replace BK124 := Ykb BK124 hb
       replace BK125 := Ykb BK125 hb
       replace BK126 := Ykb BK126 hb
       replace BK137 := Ykb BK137 hb
       replace HB := zab.mk (zar Yb_PGssMergesx4_3 hb)
       (try clear hb)
       (try clear hb2)
       (try clear hk)
       (try clear hi)
       (try clear ho0)
       obtain ⟨Ao172, co172, eo172⟩ := Kd.zbi HO145.out
       (first | subst eo172 | (injection eo172 with f1_ f2_ f3_; have f4_ := f1_.symm; have f5_ := f3_.symm; clear f1_ f2_ f3_; subst f4_; subst f5_))
       refine hK.out _ _ ⟨(zac BK137.out 0).trans rfl, (zac BK125.out 0).trans rfl, (zac BK124.out 0).trans rfl⟩ (fun hHeld => ?_)
       clear hK K
       refine Ynw 52 ?_
       refine Yot 14 54 31 32767 HT_ (fun K hK => ?_)
       refine Ygs Try.func16 #[.agg #[.slice Ao172 t143.length co172], .agg #[.slice Ao160 t134.length co160]] ?_
       with_reducible refine (zak.calls kj3 _ _ t143 _ _ t134 false _ ?side1 ?side2 ?side3 ?side4 A88.out).mono ?_
       (case side1 => repeat (first | exact (Kd.R_reads' HO145.out).2.2 | (with_reducible refine Kd.C_alloc ?_ _) | (with_reducible refine Kd.C_drewN ?_ _) | (with_reducible refine Kd.C_drew ?_)))
       (case side2 => exact (Kd.R_reads' HO145.out).2.1)
       (case side3 => repeat (first | exact (Kd.R_reads' HO136.out).2.2 | (with_reducible refine Kd.C_alloc ?_ _) | (with_reducible refine Kd.C_drewN ?_ _) | (with_reducible refine Kd.C_drew ?_)))
       (case side4 => exact (Kd.R_reads' HO136.out).2.1)
       rintro e w173 ⟨rfl, hb⟩
       refine ⟨_, rfl, ?_⟩
       replace HO136 := zab.mk (Kd.za2 (Yr HO136) hb)
       replace HO141 := zab.mk (Kd.za2 (Yr HO141) hb)
       replace HO145 := zab.mk (Kd.za2 (Yr HO145) hb)
       replace BK124 := Ykb BK124 hb
       replace BK125 := Ykb BK125 hb
       replace BK126 := Ykb BK126 hb
       replace BK137 := Ykb BK137 hb
       replace HB := zab.mk (zar Yb_PGssMergesx4_3 hb)
       (try clear hb)
       (try clear hb2)
       (try clear hk)
       (try clear hi)
       refine hK.out _ _ ⟨(zac BK137.out 0).trans rfl, (zac BK125.out 0).trans rfl, (zac BK124.out 0).trans rfl⟩ (fun hHeld => ?_)
       clear hK K
       refine Ynw 54 ?_
       refine Ypt 15 55 31 65535 HT_ ?_
       refine Ypt 16 56 31 131071 HT_ ?_
       refine Ypu 17 57 31 262143 HT_ ?_
       refine Ypu 18 58 31 524287 HT_ ?_
       refine Ypu 19 59 31 1048575 HT_ ?_
       refine Ypu 20 60 31 2097151 HT_ ?_
       refine Ypu 21 61 31 4194303 HT_ ?_
       refine Ypu 22 62 31 8388607 HT_ ?_
       refine Ypu 23 63 31 16777215 HT_ ?_
       refine Ypu 24 64 31 33554431 HT_ ?_
       refine Ypu 25 65 31 67108863 HT_ ?_
       refine Ypt 26 66 31 134217727 HT_ ?_
       refine Ypt 27 67 31 268435455 HT_ ?_
       refine Ypu 28 68 31 536870911 HT_ ?_
       refine Ypt 29 69 31 1073741823 HT_ ?_
       refine Ypt 30 6 31 2147483647 HT_ ?_
       refine zbn (zbk HT_.out (by kernel_rfl)) ?_
       try go_wp2
       go_ret
       exact ⟨Yfi, Yb_PGssMergesx4_3⟩
     ·replace c86 := Bool.eq_false_iff.mpr c86
      subst c86
      have H1 : (some false) = some r := by rw [if_neg (show ¬ (false = true) by decide)] at H; exact H
      clear H;have H := H1;clear H1;obtain rfl := Option.some.inj H
      have hnb174 := NB124_125.out
      have hnc174 := NB125_124.out
      have hnb175 := NB124_126.out
      have hnc175 := NB126_124.out
      obtain ⟨hcz176_0, hfz176_0⟩ := Yc1 BK124.out
      have hnb177 := NB125_126.out
      have hnc177 := NB126_125.out
      obtain ⟨hcz178_0, hfz178_0⟩ := Yc1 BK125.out
      try go_wp2_with (first | ((with_reducible refine za5 (f := 17) rfl ?_); refine Ygl (some 39) Try.func17 #[.agg #[.slice A0_0 l0_0.length c0_0], .agg #[.slice A1_0 l1_0.length c1_0]] ?_; (with_reducible refine (zan.calls _ _ l0_0 _ _ l1_0 t134 _ (Kd.zaq HR0_0.out Ybe) HC0_0.out (Kd.zaq HR1_0.out Ybe) HC1_0.out A81.out).mono ?_); rintro e w179 ⟨v135, rfl, ho0, hb⟩; refine ⟨_, rfl, ?_⟩; have HO136 := zab.mk (Kd.zbf ho0 (zbd Yb_PGssMergesx4_2)); replace BK124 := Ykb BK124 hb; replace BK125 := Ykb BK125 hb; replace BK126 := Ykb BK126 hb; replace HB := zab.mk (zar Yb_PGssMergesx4_2 hb); (try clear hb); (try clear hb2); (try clear hk); (try clear hi); (try clear ho0)) | ((with_reducible refine za6 (N := 7) rfl ?_); refine Ybx 7 #[.slice none 0 0] 24 ?_; intro gb137 hg w180 hbox hb; replace HO136 := zab.mk (Kd.za2 (Yr HO136) hb); obtain ⟨BK137, GW137, GE137, HB⟩ := Yb4 hbox hg hb Yb_PGssMergesx4_2; have NB124_137 := Ynl BK124 hg; have NB137_124 := Yng BK124 hg; replace BK124 := Ykb BK124 hb; have NB125_137 := Ynl BK125 hg; have NB137_125 := Yng BK125 hg; replace BK125 := Ykb BK125 hb; have NB126_137 := Ynl BK126 hg; have NB137_126 := Yng BK126 hg; replace BK126 := Ykb BK126 hb; clear hb hbox hg; obtain ⟨Ao181, co181, eo181⟩ := Kd.zbi HO136.out; subst eo181; have hnb182 := NB137_124.out; have hnc182 := NB124_137.out; have hnb183 := NB137_125.out; have hnc183 := NB125_137.out; have hnb184 := NB137_126.out; have hnc184 := NB126_137.out; obtain ⟨hcz185_0, hfz185_0⟩ := Yc1 BK137.out))
      have n0_ : zab (Kd.R k38 38 (w180.setCell ⟨gb137, 0, none⟩ (.slice Ao181 t134.length co181)) w.heap.size (fun _ => True) (.slice Ao181 t134.length co181) t134) := ⟨by (with_reducible repeat (first | apply Kd.zc1 | apply Kd.R_drewN | apply Kd.zcw)); exact Kd.zb2 (Kd.R_far (p := ⟨gb137, 0, none⟩) (Kd.zc2 HO136.out BK137.out (by decide)) (fun _ hk => hk.2) (.slice Ao181 t134.length co181)) (fun _ hk => trivial)⟩
      have n1_ : zab ((w180.setCell ⟨gb137, 0, none⟩ (.slice Ao181 t134.length co181)).heap[gb124]? = some (.cells #[.slice A0_0 l0_0.length c0_0] 24 (0, 0))) := ⟨by (with_reducible repeat (first | refine zah ?_ _ | refine zad ?_ | refine zaf ?_ _)); refine zal ?_ NB124_137.out _; (with_reducible repeat (first | refine zah ?_ _ | refine zad ?_ | refine zaf ?_ _)); exact BK124.out⟩
      have n2_ : zab ((w180.setCell ⟨gb137, 0, none⟩ (.slice Ao181 t134.length co181)).heap[gb125]? = some (.cells #[.slice A1_0 l1_0.length c1_0] 24 (0, 0))) := ⟨by (with_reducible repeat (first | refine zah ?_ _ | refine zad ?_ | refine zaf ?_ _)); refine zal ?_ NB125_137.out _; (with_reducible repeat (first | refine zah ?_ _ | refine zad ?_ | refine zaf ?_ _)); exact BK125.out⟩
      have n3_ : zab ((w180.setCell ⟨gb137, 0, none⟩ (.slice Ao181 t134.length co181)).heap[gb126]? = some (.cells #[.slice A2_0 l2_0.length c2_0] 24 (0, 0))) := ⟨by (with_reducible repeat (first | refine zah ?_ _ | refine zad ?_ | refine zaf ?_ _)); refine zal ?_ NB126_137.out _; (with_reducible repeat (first | refine zah ?_ _ | refine zad ?_ | refine zaf ?_ _)); exact BK126.out⟩
      have n4_ : zab ((w180.setCell ⟨gb137, 0, none⟩ (.slice Ao181 t134.length co181)).heap[gb137]? = some (.cells #[.slice Ao181 t134.length co181] 24 (0, 0))) := ⟨by (with_reducible repeat (first | refine zah ?_ _ | refine zad ?_ | refine zaf ?_ _)); refine zat (cs := #[.slice none 0 0]) ?_ 0 _ rfl; (with_reducible repeat (first | refine zah ?_ _ | refine zad ?_ | refine zaf ?_ _)); exact BK137.out⟩
      have n5_ : zab (Below w.heap.size w (w180.setCell ⟨gb137, 0, none⟩ (.slice Ao181 t134.length co181))) := ⟨Yb_PGssMergesx4_3⟩
      (try clear HO136)
      (try clear BK124)
      (try clear BK125)
      (try clear BK126)
      (try clear BK137)
      (try clear HB)
      generalize (w180.setCell ⟨gb137, 0, none⟩ (.slice Ao181 t134.length co181)) = w186 at n0_ n1_ n2_ n3_ n4_ n5_ ⊢
      have HO136 := n0_;have BK124 := n1_;have BK125 := n2_;have BK126 := n3_;have BK137 := n4_;have HB := n5_;clear n0_ n1_ n2_ n3_ n4_ n5_
      replace HO136 := zab.mk (Kd.zcw HO136.out)
      replace BK124 := zab.mk (zad BK124.out)
      replace BK125 := zab.mk (zad BK125.out)
      replace BK126 := zab.mk (zad BK126.out)
      replace BK137 := zab.mk (zad BK137.out)
      replace HB := zab.mk (zav HB.out)
      refine zbh (n := 31) (S := fun w' => w'.cell? ⟨gb137, 0, none⟩ = some (.slice Ao181 t134.length co181) ∧ w'.cell? ⟨gb125, 0, none⟩ = some (.slice A1_0 l1_0.length c1_0) ∧ w'.cell? ⟨gb124, 0, none⟩ = some (.slice A0_0 l0_0.length c0_0)) (ds := []) (Ymk 31 0) (by kernel_rfl) rfl rfl ⟨(zac BK137.out 0).trans rfl, (zac BK125.out 0).trans rfl, (zac BK124.out 0).trans rfl⟩ (fun hHeld => ?_); refine zbc zai.tab4 zai.bits4 (fun HT_ HW_ => ?_)
      generalize w186.drew = w187 at HO136 BK124 BK125 BK126 BK137 HB hHeld ⊢
      refine Ytt 0 40 31 1 HT_ HW_ hHeld ?_
      refine Yot 1 41 31 3 HT_ (fun K hK => ?_)
      refine Ygs Try.func8 #[.agg #[.slice Ao181 t134.length co181]] ?_
      with_reducible refine (zae.calls kj3 _ _ t134 true _ ?side1 ?side2 A82.out).mono ?_
      (case side1 => repeat (first | exact (Kd.R_reads' HO136.out).2.2 | (with_reducible refine Kd.C_alloc ?_ _) | (with_reducible refine Kd.C_drewN ?_ _) | (with_reducible refine Kd.C_drew ?_)))
      (case side2 => exact (Kd.R_reads' HO136.out).2.1)
      rintro e w188 ⟨rfl, hb⟩
      refine ⟨_, rfl, ?_⟩
      replace HO136 := zab.mk (Kd.za2 (Yr HO136) hb)
      replace BK124 := Ykb BK124 hb
      replace BK125 := Ykb BK125 hb
      replace BK126 := Ykb BK126 hb
      replace BK137 := Ykb BK137 hb
      replace HB := zab.mk (zar Yb_PGssMergesx4_3 hb)
      (try clear hb)
      (try clear hb2)
      (try clear hk)
      (try clear hi)
      refine hK.out _ _ ⟨(zac BK137.out 0).trans rfl, (zac BK125.out 0).trans rfl, (zac BK124.out 0).trans rfl⟩ (fun hHeld => ?_)
      clear hK K
      refine Ynw 41 ?_
      refine Ypt 2 42 31 7 HT_ ?_
      refine Ytt 3 43 31 15 HT_ HW_ hHeld ?_
      refine Ytt 4 44 31 31 HT_ HW_ hHeld ?_
      refine Ytt 5 45 31 63 HT_ HW_ hHeld ?_
      refine Yot 6 46 31 127 HT_ (fun K hK => ?_)
      refine Ygs Try.func17 #[.agg #[.slice A1_0 l1_0.length c1_0], .agg #[.slice A0_0 l0_0.length c0_0]] ?_
      with_reducible refine (zan.calls _ _ l1_0 _ _ l0_0 t139 _ (Kd.zaq HR1_0.out Ybe) HC1_0.out (Kd.zaq HR0_0.out Ybe) HC0_0.out A84.out).mono ?_
      rintro e w189 ⟨v140, rfl, ho0, hb⟩
      refine ⟨_, rfl, ?_⟩
      have HO141 := zab.mk (Kd.zbf (Kd.R_new' ho0 (Kd.R_lt (Yr HO136))) (zbd Yb_PGssMergesx4_3))
      replace HO136 := zab.mk (Kd.R_elder' (Yr HO136) (Kd.zbe ho0) hb)
      replace BK124 := Ykb BK124 hb
      replace BK125 := Ykb BK125 hb
      replace BK126 := Ykb BK126 hb
      replace BK137 := Ykb BK137 hb
      replace HB := zab.mk (zar Yb_PGssMergesx4_3 hb)
      (try clear hb)
      (try clear hb2)
      (try clear hk)
      (try clear hi)
      (try clear ho0)
      obtain ⟨Ao190, co190, eo190⟩ := Kd.zbi HO141.out
      (first | subst eo190 | (injection eo190 with f1_ f2_ f3_; have f4_ := f1_.symm; have f5_ := f3_.symm; clear f1_ f2_ f3_; subst f4_; subst f5_))
      refine hK.out _ _ ⟨(zac BK137.out 0).trans rfl, (zac BK125.out 0).trans rfl, (zac BK124.out 0).trans rfl⟩ (fun hHeld => ?_)
      clear hK K
      refine Ynw 46 ?_
      refine Yot 7 47 31 255 HT_ (fun K hK => ?_)
      refine Ygs Try.func16 #[.agg #[.slice Ao181 t134.length co181], .agg #[.slice Ao190 t139.length co190]] ?_
      with_reducible refine (zak.calls kj3 _ _ t134 _ _ t139 false _ ?side1 ?side2 ?side3 ?side4 A85.out).mono ?_
      (case side1 => repeat (first | exact (Kd.R_reads' HO136.out).2.2 | (with_reducible refine Kd.C_alloc ?_ _) | (with_reducible refine Kd.C_drewN ?_ _) | (with_reducible refine Kd.C_drew ?_)))
      (case side2 => exact (Kd.R_reads' HO136.out).2.1)
      (case side3 => repeat (first | exact (Kd.R_reads' HO141.out).2.2 | (with_reducible refine Kd.C_alloc ?_ _) | (with_reducible refine Kd.C_drewN ?_ _) | (with_reducible refine Kd.C_drew ?_)))
      (case side4 => exact (Kd.R_reads' HO141.out).2.1)
      rintro e w191 ⟨rfl, hb⟩
      refine ⟨_, rfl, ?_⟩
      replace HO136 := zab.mk (Kd.za2 (Yr HO136) hb)
      replace HO141 := zab.mk (Kd.za2 (Yr HO141) hb)
      replace BK124 := Ykb BK124 hb
      replace BK125 := Ykb BK125 hb
      replace BK126 := Ykb BK126 hb
      replace BK137 := Ykb BK137 hb
      replace HB := zab.mk (zar Yb_PGssMergesx4_3 hb)
      (try clear hb)
      (try clear hb2)
      (try clear hk)
      (try clear hi)
      refine hK.out _ _ ⟨(zac BK137.out 0).trans rfl, (zac BK125.out 0).trans rfl, (zac BK124.out 0).trans rfl⟩ (fun hHeld => ?_)
      clear hK K
      refine Ynw 47 ?_
      refine Ypt 8 48 31 511 HT_ ?_
      refine Ypt 9 49 31 1023 HT_ ?_
      refine Ypu 10 50 31 2047 HT_ ?_
      refine Ypu 11 51 31 4095 HT_ ?_
      refine Ypu 12 52 31 8191 HT_ ?_
      refine Ypu 13 53 31 16383 HT_ ?_
      refine Ypu 14 54 31 32767 HT_ ?_
      refine Ypt 15 55 31 65535 HT_ ?_
      refine Ypt 16 56 31 131071 HT_ ?_
      refine Ypu 17 57 31 262143 HT_ ?_
      refine Ypu 18 58 31 524287 HT_ ?_
      refine Ypu 19 59 31 1048575 HT_ ?_
      refine Ypu 20 60 31 2097151 HT_ ?_
      refine Ypu 21 61 31 4194303 HT_ ?_
      refine Ypu 22 62 31 8388607 HT_ ?_
      refine Ypu 23 63 31 16777215 HT_ ?_
      refine Ypu 24 64 31 33554431 HT_ ?_
      refine Ypu 25 65 31 67108863 HT_ ?_
      refine Ypt 26 66 31 134217727 HT_ ?_
      refine Ypt 27 67 31 268435455 HT_ ?_
      refine Ypu 28 68 31 536870911 HT_ ?_
      refine Ypt 29 69 31 1073741823 HT_ ?_
      refine Ypt 30 6 31 2147483647 HT_ ?_
      refine zbn (zbk HT_.out (by kernel_rfl)) ?_
      try go_wp2
      go_ret
      exact ⟨Yfi, Yb_PGssMergesx4_3⟩
    ·replace c83 := Bool.eq_false_iff.mpr c83
     subst c83
     have H1 : (some false) = some r := by rw [if_neg (show ¬ (false = true) by decide)] at H; exact H
     clear H;have H := H1;clear H1;obtain rfl := Option.some.inj H
     have hnb192 := NB124_125.out
     have hnc192 := NB125_124.out
     have hnb193 := NB124_126.out
     have hnc193 := NB126_124.out
     obtain ⟨hcz194_0, hfz194_0⟩ := Yc1 BK124.out
     have hnb195 := NB125_126.out
     have hnc195 := NB126_125.out
     obtain ⟨hcz196_0, hfz196_0⟩ := Yc1 BK125.out
     try go_wp2_with (first | ((with_reducible refine za5 (f := 17) rfl ?_); refine Ygl (some 39) Try.func17 #[.agg #[.slice A0_0 l0_0.length c0_0], .agg #[.slice A1_0 l1_0.length c1_0]] ?_; (with_reducible refine (zan.calls _ _ l0_0 _ _ l1_0 t134 _ (Kd.zaq HR0_0.out Ybe) HC0_0.out (Kd.zaq HR1_0.out Ybe) HC1_0.out A81.out).mono ?_); rintro e w197 ⟨v135, rfl, ho0, hb⟩; refine ⟨_, rfl, ?_⟩; have HO136 := zab.mk (Kd.zbf ho0 (zbd Yb_PGssMergesx4_2)); replace BK124 := Ykb BK124 hb; replace BK125 := Ykb BK125 hb; replace BK126 := Ykb BK126 hb; replace HB := zab.mk (zar Yb_PGssMergesx4_2 hb); (try clear hb); (try clear hb2); (try clear hk); (try clear hi); (try clear ho0)) | ((with_reducible refine za6 (N := 7) rfl ?_); refine Ybx 7 #[.slice none 0 0] 24 ?_; intro gb137 hg w198 hbox hb; replace HO136 := zab.mk (Kd.za2 (Yr HO136) hb); obtain ⟨BK137, GW137, GE137, HB⟩ := Yb4 hbox hg hb Yb_PGssMergesx4_2; have NB124_137 := Ynl BK124 hg; have NB137_124 := Yng BK124 hg; replace BK124 := Ykb BK124 hb; have NB125_137 := Ynl BK125 hg; have NB137_125 := Yng BK125 hg; replace BK125 := Ykb BK125 hb; have NB126_137 := Ynl BK126 hg; have NB137_126 := Yng BK126 hg; replace BK126 := Ykb BK126 hb; clear hb hbox hg; obtain ⟨Ao199, co199, eo199⟩ := Kd.zbi HO136.out; subst eo199; have hnb200 := NB137_124.out; have hnc200 := NB124_137.out; have hnb201 := NB137_125.out; have hnc201 := NB125_137.out; have hnb202 := NB137_126.out; have hnc202 := NB126_137.out; obtain ⟨hcz203_0, hfz203_0⟩ := Yc1 BK137.out))
     have n0_ : zab (Kd.R k38 38 (w198.setCell ⟨gb137, 0, none⟩ (.slice Ao199 t134.length co199)) w.heap.size (fun _ => True) (.slice Ao199 t134.length co199) t134) := ⟨by (with_reducible repeat (first | apply Kd.zc1 | apply Kd.R_drewN | apply Kd.zcw)); exact Kd.zb2 (Kd.R_far (p := ⟨gb137, 0, none⟩) (Kd.zc2 HO136.out BK137.out (by decide)) (fun _ hk => hk.2) (.slice Ao199 t134.length co199)) (fun _ hk => trivial)⟩
     have n1_ : zab ((w198.setCell ⟨gb137, 0, none⟩ (.slice Ao199 t134.length co199)).heap[gb124]? = some (.cells #[.slice A0_0 l0_0.length c0_0] 24 (0, 0))) := ⟨by (with_reducible repeat (first | refine zah ?_ _ | refine zad ?_ | refine zaf ?_ _)); refine zal ?_ NB124_137.out _; (with_reducible repeat (first | refine zah ?_ _ | refine zad ?_ | refine zaf ?_ _)); exact BK124.out⟩
     have n2_ : zab ((w198.setCell ⟨gb137, 0, none⟩ (.slice Ao199 t134.length co199)).heap[gb125]? = some (.cells #[.slice A1_0 l1_0.length c1_0] 24 (0, 0))) := ⟨by (with_reducible repeat (first | refine zah ?_ _ | refine zad ?_ | refine zaf ?_ _)); refine zal ?_ NB125_137.out _; (with_reducible repeat (first | refine zah ?_ _ | refine zad ?_ | refine zaf ?_ _)); exact BK125.out⟩
     have n3_ : zab ((w198.setCell ⟨gb137, 0, none⟩ (.slice Ao199 t134.length co199)).heap[gb126]? = some (.cells #[.slice A2_0 l2_0.length c2_0] 24 (0, 0))) := ⟨by (with_reducible repeat (first | refine zah ?_ _ | refine zad ?_ | refine zaf ?_ _)); refine zal ?_ NB126_137.out _; (with_reducible repeat (first | refine zah ?_ _ | refine zad ?_ | refine zaf ?_ _)); exact BK126.out⟩
     have n4_ : zab ((w198.setCell ⟨gb137, 0, none⟩ (.slice Ao199 t134.length co199)).heap[gb137]? = some (.cells #[.slice Ao199 t134.length co199] 24 (0, 0))) := ⟨by (with_reducible repeat (first | refine zah ?_ _ | refine zad ?_ | refine zaf ?_ _)); refine zat (cs := #[.slice none 0 0]) ?_ 0 _ rfl; (with_reducible repeat (first | refine zah ?_ _ | refine zad ?_ | refine zaf ?_ _)); exact BK137.out⟩
     have n5_ : zab (Below w.heap.size w (w198.setCell ⟨gb137, 0, none⟩ (.slice Ao199 t134.length co199))) := ⟨Yb_PGssMergesx4_3⟩
     (try clear HO136)
     (try clear BK124)
     (try clear BK125)
     (try clear BK126)
     (try clear BK137)
     (try clear HB)
     generalize (w198.setCell ⟨gb137, 0, none⟩ (.slice Ao199 t134.length co199)) = w204 at n0_ n1_ n2_ n3_ n4_ n5_ ⊢
     have HO136 := n0_;have BK124 := n1_;have BK125 := n2_;have BK126 := n3_;have BK137 := n4_;have HB := n5_;clear n0_ n1_ n2_ n3_ n4_ n5_
     replace HO136 := zab.mk (Kd.zcw HO136.out)
     replace BK124 := zab.mk (zad BK124.out)
     replace BK125 := zab.mk (zad BK125.out)
     replace BK126 := zab.mk (zad BK126.out)
     replace BK137 := zab.mk (zad BK137.out)
     replace HB := zab.mk (zav HB.out)
     refine zbh (n := 31) (S := fun w' => w'.cell? ⟨gb137, 0, none⟩ = some (.slice Ao199 t134.length co199)) (ds := []) (Ymk 31 0) (by kernel_rfl) rfl rfl ((zac BK137.out 0).trans rfl) (fun hHeld => ?_); refine zbc zai.tab4 zai.bits4 (fun HT_ HW_ => ?_)
     generalize w204.drew = w205 at HO136 BK124 BK125 BK126 BK137 HB hHeld ⊢
     refine take_ (i := 0) (N := some 40) (v := ?_) (a' := ?_) (Ymk 31 1) rfl rfl (zfy HT_.out HW_.out (by kernel_rfl)) (fun _ _ _ h => h) (Or.inl ⟨by rfl, ?_⟩) hHeld ?_ ?_
     rotate_left
     ·intro w' s0
      go_simp
      with_reducible rfl
     rotate_left; · simp only [Act.put, Y1, Y2, Y3, zcm, zc0]; rfl
     refine Yot 1 41 31 3 HT_ (fun K hK => ?_)
     refine Ygs Try.func8 #[.agg #[.slice Ao199 t134.length co199]] ?_
     with_reducible refine (zae.calls kj3 _ _ t134 false _ ?side1 ?side2 A82.out).mono ?_
     (case side1 => repeat (first | exact (Kd.R_reads' HO136.out).2.2 | (with_reducible refine Kd.C_alloc ?_ _) | (with_reducible refine Kd.C_drewN ?_ _) | (with_reducible refine Kd.C_drew ?_)))
     (case side2 => exact (Kd.R_reads' HO136.out).2.1)
     rintro e w206 ⟨rfl, hb⟩
     refine ⟨_, rfl, ?_⟩
     replace HO136 := zab.mk (Kd.za2 (Yr HO136) hb)
     replace BK124 := Ykb BK124 hb
     replace BK125 := Ykb BK125 hb
     replace BK126 := Ykb BK126 hb
     replace BK137 := Ykb BK137 hb
     replace HB := zab.mk (zar Yb_PGssMergesx4_3 hb)
     (try clear hb)
     (try clear hb2)
     (try clear hk)
     (try clear hi)
     refine hK.out _ _ ((zac BK137.out 0).trans rfl) (fun hHeld => ?_)
     clear hK K
     refine Ynw 41 ?_
     refine Ypt 2 42 31 7 HT_ ?_
     refine Ypu 3 43 31 15 HT_ ?_
     refine Ypu 4 44 31 31 HT_ ?_
     refine Ypu 5 45 31 63 HT_ ?_
     refine Ypu 6 46 31 127 HT_ ?_
     refine Ypu 7 47 31 255 HT_ ?_
     refine Ypt 8 48 31 511 HT_ ?_
     refine Ypt 9 49 31 1023 HT_ ?_
     refine Ypu 10 50 31 2047 HT_ ?_
     refine Ypu 11 51 31 4095 HT_ ?_
     refine Ypu 12 52 31 8191 HT_ ?_
     refine Ypu 13 53 31 16383 HT_ ?_
     refine Ypu 14 54 31 32767 HT_ ?_
     refine Ypt 15 55 31 65535 HT_ ?_
     refine Ypt 16 56 31 131071 HT_ ?_
     refine Ypu 17 57 31 262143 HT_ ?_
     refine Ypu 18 58 31 524287 HT_ ?_
     refine Ypu 19 59 31 1048575 HT_ ?_
     refine Ypu 20 60 31 2097151 HT_ ?_
     refine Ypu 21 61 31 4194303 HT_ ?_
     refine Ypu 22 62 31 8388607 HT_ ?_
     refine Ypu 23 63 31 16777215 HT_ ?_
     refine Ypu 24 64 31 33554431 HT_ ?_
     refine Ypu 25 65 31 67108863 HT_ ?_
     refine Ypt 26 66 31 134217727 HT_ ?_
     refine Ypt 27 67 31 268435455 HT_ ?_
     refine Ypu 28 68 31 536870911 HT_ ?_
     refine Ypt 29 69 31 1073741823 HT_ ?_
     refine Ypt 30 6 31 2147483647 HT_ ?_
     refine zbn (zbk HT_.out (by kernel_rfl)) ?_
     try go_wp2
     go_ret
     exact ⟨Yfi, Yb_PGssMergesx4_3⟩
end Go.Proofs.ZZ.PGssMerges
end
section
namespace Go.Proofs.ZZ.PGssMerges
open Go.RowKit Go.Proofs.ZW.PrintWords Go.Proofs.ZW.PrintLast
def ok38 (s : S38) : Prop := ((Lit.int .i64 s.f0).wf = true) ∧ ((Lit.int .i64 s.f1).wf = true) ∧ (s.f2.length * 8 ≤ 140737488351232 ∧ ∀ y ∈ s.f2, ((Lit.int .i64 y).wf = true))
def ok24 (s : S24) : Prop := (s.f0.length * 40 ≤ 140737488351232 ∧ ∀ y ∈ s.f0, ok38 y)
def zai.Pure : Prop := ∀ (s0 : S24) (s1 : S24) (s2 : S24), ok24 s0 → ok24 s1 → ok24 s2 → ∃ k, zai.f k s0.f0 s1.f0 s2.f0 = some true
end Go.Proofs.ZZ.PGssMerges
end
