import Derived.Shelf.SlGeneric
import Derived.Shelf.Sort.Plain
import Derived.Shelf.Slices.In.SortNone
import Derived.Shelf.Slices.CompactI
import Derived.Test.YtgdmjpehofdnpaaGreatProg
import Derived.Sort.OwnSortedInts
import Derived.Laws.AppendOwnNone
import Derived.Below
import Derived.Deep.Draws
import Derived.Deep.AppendLies
import Derived.Maps.AppendAt
import Derived.OwnWalk
import Derived.Laws.BytesArg
import Derived.Laws.MakeOwn
import Derived.Laws.OwnMore
import Derived.Deep.OwnRows
import Derived.Tactics
import Derived.Lib.ConvBytes
import Derived.Laws.Slices
import Derived.WalkKit
import Derived.KernelRfl
import Derived.RowKit3
import Derived.Deep.LoopGhost
import Derived.Deep.QuietTactic
import Derived.BigQuiet
import Derived.WideLaws
import Derived.Deep.DeepCutAuto
import Derived.Deep.CutBlock
import Derived.Deep.RegionHeld3
import Derived.Laws.Rows
import Derived.Lib.AppendStr
import Derived.ArgAppend
import Derived.Laws.IdiomCopy
import Derived.OrdersHeld
import Derived.Laws.BitsLemmas
import Derived.RowKit
import Derived.Lib.Strings
import Derived.Lib.Bytealg
import Derived.Lib.Slices
import Derived.Lib.Walk
import Derived.Maps.Keyed
import Derived.DeepKeys4
import Derived.Maps.OwnIn
import Derived.Maps.OwnSet
import Derived.Maps.Ext
import Derived.Test.YtgdmjpehofdnpaaGreatPackItemPrefixes1
section
namespace Go.Proofs.YtgdmjpehofdnpaaGreat.Begin
open Go Go.RowKit Go.Shelf Go.Maps Go.Proofs.YtgdmjpehofdnpaaGreatW.PrintWords Go.Proofs.YtgdmjpehofdnpaaGreatW.PrintLast Go.Proofs.YtgdmjpehofdnpaaGreat.Round Go.Proofs.YtgdmjpehofdnpaaGreat.RangeG Go.Proofs.YtgdmjpehofdnpaaGreat.RangeH Go.Proofs.YtgdmjpehofdnpaaGreat.Fl Go.Proofs.YtgdmjpehofdnpaaGreat.Grow Go.Proofs.YtgdmjpehofdnpaaGreat.Seqs Go.Proofs.YtgdmjpehofdnpaaGreat.MSet Go.Proofs.YtgdmjpehofdnpaaGreat.Add Go.Proofs.YtgdmjpehofdnpaaGreat.Deri Go.Proofs.YtgdmjpehofdnpaaGreat.Ahd
attribute [local go_sem] Oper.semAt_some
set_option linter.unusedVariables false
set_option linter.unusedSimpArgs false
def ahV (N : Nat) (em : List Bool) (Ss : List (List Int)) : List I → List Int → List Int
 | [], B => B
 | i :: t, B => if 0 ≤ i.1 ∧ i.1 < N then (if at_ em i.1 = true then unionV (ahV N em Ss t B) (Ss.getD i.1.toNat []) else Ss.getD i.1.toNat []) else ahV N em Ss t B
theorem ahV_mem (N : Nat) (em : List Bool) (Ss : List (List Int)) (B : List Int) (x : Int) : ∀ l : List I, x ∈ ahV N em Ss l B ↔ AhM N em Ss l (· ∈ B) x
 | [] => Iff.rfl
 | i :: t => by
  simp only [ahV, AhM]
  split
  ·split
   ·rename_i h
    rw [zck, ahV_mem N em Ss B x t]
    simp [h]
   ·rename_i h
    simp [h]
  ·exact ahV_mem N em Ss B x t
def Bd (Ss : List (List Int)) : Prop := ∀ S ∈ Ss, ∀ x ∈ S, 0 ≤ x ∧ x < 1000000
theorem rises_len : ∀ {S : List Int} (lo : Int), Rises S → (∀ x ∈ S, lo ≤ x ∧ x < 1000000) → lo ≤ 1000000 → (S.length : Int) ≤ 1000000 - lo
 | [], lo, _, _, h => by simp; omega
 | a :: t, lo, h, hb, _ => by
  obtain ⟨h1, h2⟩ := List.pairwise_cons.1 h
  have ha := hb a (by simp)
  have := rises_len (S := t) (a + 1) h2 (fun x hx => ⟨by have := h1 x hx; omega, (hb x (by simp [hx])).2⟩) (by omega)
  rw [List.length_cons]
  omega
theorem bd_len {Ss : List (List Int)} (h : Bd Ss) (hr : ∀ S ∈ Ss, Rises S) : ∀ S ∈ Ss, S.length ≤ 1000000 := fun S hS => by
 have := rises_len 0 (hr S hS) (h S hS) (by omega)
 omega
theorem fs_rises {G : Geo} {em : List Bool} {Ss : List (List Int)} {W : World} (h : Fs G em Ss W) : ∀ S ∈ Ss, Rises S := fun S hS => by
 obtain ⟨i, hi, rfl⟩ := List.mem_iff_getElem.1 hS
 obtain ⟨b, S', hb, hS', hA, _⟩ := h.bm i (by rw [← h.ssl]; exact hi)
 rw [List.getElem?_eq_getElem hi] at hS'
 cases hS'
 exact hA.1
def stepF (N : Nat) (em : List Bool) (Ss : List (List Int)) (p : P) : List (List Int) × Bool :=
 (Ss.set p.1.toNat (unionV (Ss.getD p.1.toNat []) (ahV N em Ss p.2.1 [])), decide ((unionV (Ss.getD p.1.toNat []) (ahV N em Ss p.2.1 [])).length > (Ss.getD p.1.toNat []).length))
theorem own_g {w : World} {base n : Nat} {v : Value} {xs : List I64} (h : w.ownsRow base TI 1 v n (ints xs)) : ∃ A c, v = .slice A xs.length c ∧ ∃ (g : Nat) (cs : Array Value), xs ≠ [] → A = some ⟨g, 0, none⟩ ∧ base ≤ g ∧ w.heap[g]? = some (.cells cs TI (0, 0)) ∧ ∀ (j : Nat) (x : I64), xs[j]? = some x → cs[j]? = some (.int .i64 x.1) := by
 have hl : n = xs.length := by have := h.1; simp [ints] at this; omega
 subst hl
 rcases h.2 with ⟨hv, hn⟩ | ⟨g, cap, cur, hv, hg, hh, hcap, hmax, hsz, htk⟩
 ·exact ⟨none, 0, by rw [hv, hn], 0, #[], fun hne => absurd (List.eq_nil_of_length_eq_zero hn) hne⟩
 ·refine ⟨_, cap, hv, g, cur, fun _ => ⟨rfl, hg, hh, fun j x hx => ?_⟩⟩
  have hj := (List.getElem?_eq_some_iff.1 hx).1
  have : (ints xs)[j]? = some (.int .i64 x.1) := by unfold ints; rw [List.getElem?_map, hx]; rfl
  rw [← htk, List.getElem?_take_of_lt (by omega), Array.getElem?_toList] at this
  exact this
set_option maxRecDepth 100000 in
set_option maxHeartbeats 4000000 in
theorem addrow_calls (w u : World) (v : Value) (n base : Nat) (xs : List I64) (b : Nat) (S : List Int) (hS : SetAt b S w) (ho : w.ownsRow base TI 1 v n (ints xs)) (hb : b < base) (hub : u.heap.size ≤ b) (hu : Below u.heap.size u w) (hl : S.length + xs.length ≤ 1000000000000) :
  ∃ A c, v = .slice A xs.length c ∧ Calls Tryz.prog 72 #[.map (some b), .func (.func 87) #[] #[.pointer (some ⟨w.heap.size, 0, none⟩)]] (w.alloc (.cells #[v] 35)) fun e w' => e = .returned (.bool (decide ((unionV S (vals xs)).length > S.length))) ∧ SetAt b (unionV S (vals xs)) w' ∧ Turn w.heap.size (fun k => k = b) w w' := by
 obtain ⟨A, c, rfl, g, cs, hg⟩ := own_g ho
 refine ⟨A, c, rfl, ?_⟩
 obtain ⟨W, hW⟩ : ∃ W, w.alloc (.cells #[.slice A xs.length c] 35) = W := ⟨_, rfl⟩
 have hB : W.heap[w.heap.size]? = some (.cells #[.slice A xs.length c] 35 (0, 0)) := by rw [← hW]; exact zbi w _
 have hlt := hS.lt
 have tW : ∀ L T, Turn L T w W := fun L T => by rw [← hW]; exact Turn.alloc _
 have hS' : SetAt b S W := hS.turn (tW w.heap.size (fun _ => False)) (fun h => h) hlt
 have hu' : Below u.heap.size u W := by rw [← hW]; exact hu.alloc hu.size _
 have szW : W.heap.size = w.heap.size + 1 := by rw [← hW]; simp
 obtain ⟨g', hg'1, hg'2, hg'3⟩ : ∃ g', g' < W.heap.size ∧ g' ≠ b ∧ (xs ≠ [] → A = some ⟨g', 0, none⟩ ∧ W.heap[g']? = some (.cells cs TI (0, 0)) ∧ ∀ (j : Nat) (x : I64), xs[j]? = some x → cs[j]? = some (.int .i64 x.1)) := by
  by_cases hx : xs = []
  ·exact ⟨w.heap.size, by omega, by omega, fun h => absurd hx h⟩
  ·obtain ⟨h1, h2, h3, h4⟩ := hg hx
   exact ⟨g, by have := zav h3; omega, by omega, fun _ => ⟨h1, zch h3 (tW 0 (fun _ => False)) (fun h => h), h4⟩⟩
 have hseq := gvals_stops 2 w.heap.size g' (by omega) A c xs cs u W hu' (by omega) hB hg'3
 have ha := add_calls 87 #[.pointer (some ⟨w.heap.size, 0, none⟩)] (enters_of Tryz.func87 (by kernel_rfl) rfl) W u.heap.size [g'] b S xs _ xs.length hl hub (fun d hd => by simp at hd; subst hd; exact ⟨hg'1, hg'2⟩) hS' hseq
 rw [hW]
 refine ha.mono ?_
 rintro e w' ⟨h1, h2, h3⟩
 exact ⟨h1, h2, (tW _ _).trans (h3.mono (by omega) (fun _ h => h))⟩
set_option maxRecDepth 100000 in
set_option maxHeartbeats 4000000 in
theorem change_calls (G : Geo) (em : List Bool) (Ss : List (List Int)) (BX : Nat) (u W : World) (p : P) (A : Option Addr) (c : Nat) (hF : Fs G em Ss W) (hBd : Bd Ss) (hX : Boxed W BX 93 (.pointer (some ⟨G.X, 0, none⟩))) (hok : PrOk G.N p) (hc : p.2.1.length ≤ c) (hp : p.2.1.length ≤ 1000) (hC : Kd.C kI u A p.2.1.length p.2.1) (hu : Below u.heap.size u W) (hub : ∀ b ∈ G.bs, u.heap.size ≤ b) :
  Calls Tryz.prog 71 #[.agg #[.int .i64 p.1, .slice A p.2.1.length c, .int .i64 p.2.2], .pointer (some ⟨BX, 0, none⟩)] W fun e W' => ∃ b, G.bs[p.1.toNat]? = some b ∧ e = .returned (.bool (stepF G.N em Ss p).2) ∧ SetAt b (unionV (Ss.getD p.1.toNat []) (ahV G.N em Ss p.2.1 [])) W' ∧ Turn W.heap.size (fun k => k = b) W W' := by
 obtain ⟨W0, hW0⟩ : ∃ W0, W.alloc (.cells #[.int .i64 p.1, .slice A p.2.1.length c, .int .i64 p.2.2] TP) = W0 := ⟨_, rfl⟩
 have hB0 : Below W.heap.size W W0 := by rw [← hW0]; exact (Below.refl _ _).alloc (Nat.le_refl _) _
 have sz0 : W0.heap.size = W.heap.size + 1 := by rw [← hW0]; simp
 have hF0 := hF.below hB0
 have q0 := hok.1
 have q1 := hok.2.1
 obtain ⟨b, Sb, hbs, hSs, hSA, cm⟩ := hF0.bm p.1.toNat (by omega)
 have hgd : Ss.getD p.1.toNat [] = Sb := by rw [List.getD_eq_getElem?_getD, hSs]; rfl
 have hub' := hub b (List.mem_of_getElem? hbs)
 have hlb : b < W.heap.size := by
  obtain ⟨b', S', h1, h2, h3, _⟩ := hF.bm p.1.toNat (by omega)
  rw [h1] at hbs
  cases hbs
  exact h3.lt
 have hpb : W0.heap[W.heap.size]? = some (.cells #[.int .i64 p.1, .slice A p.2.1.length c, .int .i64 p.2.2] TP (0, 0)) := by rw [← hW0]; exact zbi W _
 have hu0 : Below u.heap.size u W0 := hu.trans (hB0.mono hu.size)
 have hHeld : W0.drew.cell? ⟨BX, 0, none⟩ = some (.pointer (some ⟨G.X, 0, none⟩)) ∧ W0.drew.cell? ⟨G.X, 4, none⟩ = some (.slice (some ⟨G.gr, 0, none⟩) G.N G.cr) ∧ W0.drew.cell? ⟨W.heap.size, 0, none⟩ = some (.int .i64 p.1) ∧ W0.drew.cell? ⟨W.heap.size, 1, none⟩ = some (.slice A p.2.1.length c) ∧ W0.drew.cell? ⟨G.gr, p.1.toNat, none⟩ = some (.map (some b)) :=
  ⟨(hB0.cell (p := ⟨BX, 0, none⟩) hX.lt).trans hX.cell, zac hF0.blk 4, zac hpb 0, zac hpb 1, cm⟩
 have keep : ∀ X Y : World, Below X.heap.size X Y → (fun X => X.cell? ⟨BX, 0, none⟩ = some (.pointer (some ⟨G.X, 0, none⟩)) ∧ X.cell? ⟨G.X, 4, none⟩ = some (.slice (some ⟨G.gr, 0, none⟩) G.N G.cr) ∧ X.cell? ⟨W.heap.size, 0, none⟩ = some (.int .i64 p.1) ∧ X.cell? ⟨W.heap.size, 1, none⟩ = some (.slice A p.2.1.length c) ∧ X.cell? ⟨G.gr, p.1.toNat, none⟩ = some (.map (some b))) X → (fun X => X.cell? ⟨BX, 0, none⟩ = some (.pointer (some ⟨G.X, 0, none⟩)) ∧ X.cell? ⟨G.X, 4, none⟩ = some (.slice (some ⟨G.gr, 0, none⟩) G.N G.cr) ∧ X.cell? ⟨W.heap.size, 0, none⟩ = some (.int .i64 p.1) ∧ X.cell? ⟨W.heap.size, 1, none⟩ = some (.slice A p.2.1.length c) ∧ X.cell? ⟨G.gr, p.1.toNat, none⟩ = some (.map (some b))) Y := fun X Y h hh => ⟨zaq h hh.1, zaq h hh.2.1, zaq h hh.2.2.1, zaq h hh.2.2.2.1, zaq h hh.2.2.2.2⟩
 have t1 : p.2.1.length ≤ 9223372036854775807 := hC.2.1
 go_enter Tryz.func71, Tryz.ntmps71
 go_wp2
 rename_i hK2
 refine wp_qz (zb0 (S := fun X => X.cell? ⟨BX, 0, none⟩ = some (.pointer (some ⟨G.X, 0, none⟩)) ∧ X.cell? ⟨G.X, 4, none⟩ = some (.slice (some ⟨G.gr, 0, none⟩) G.N G.cr) ∧ X.cell? ⟨W.heap.size, 0, none⟩ = some (.int .i64 p.1) ∧ X.cell? ⟨W.heap.size, 1, none⟩ = some (.slice A p.2.1.length c) ∧ X.cell? ⟨G.gr, p.1.toNat, none⟩ = some (.map (some b))) (ds := [14]) #[Nf,Nf,Nf,Nf,Nf,Nf,Nf,Nf,Nf,Nf,Nf,Nf,Nf,Nf,Nf,Nf] (by kernel_rfl) rfl rfl hHeld (fun _ => ?_))
 refine take_ (i := 0) (N := some 4) (v := ?_) (a' := ?_) (Ymk 16 1) rfl rfl (by kernel_rfl) (fun _ _ _ h => h) (Or.inl ⟨by rfl, ?_⟩) hHeld ?_ ?_
 rotate_left
 ·rintro w' ⟨s0, s1, s2, s3, s4⟩
  go_simp
  with_reducible rfl
 rotate_left; · simp only [Act.put, Y1, Y2, Y3]; rfl
 refine pure_ (i := 1) (N := some 5) (v := ?_) (a' := ?_) (Ymk 16 3) rfl rfl (by kernel_rfl) (fun _ _ _ h => h) (Or.inl ⟨by rfl, ?_⟩) ?_ ?_
 rotate_left; · intro w'; go_simp; with_reducible rfl
 rotate_left; · simp only [Act.put, Y1, Y2, Y3]; rfl
 refine pure_ (i := 2) (N := some 6) (v := ?_) (a' := ?_) (Ymk 16 7) rfl rfl (by kernel_rfl) (fun _ _ _ h => h) (Or.inl ⟨by rfl, ?_⟩) ?_ ?_
 rotate_left; · intro w'; go_simp; with_reducible rfl
 rotate_left; · simp only [Act.put, Y1, Y2, Y3]; rfl
 refine take_ (i := 3) (N := some 7) (v := ?_) (a' := ?_) (Ymk 16 15) rfl rfl (by kernel_rfl) (fun _ _ _ h => h) (Or.inl ⟨by rfl, ?_⟩) hHeld ?_ ?_
 rotate_left
 ·rintro w' ⟨s0, s1, s2, s3, s4⟩
  go_simp
  with_reducible rfl
 rotate_left; · simp only [Act.put, Y1, Y2, Y3]; rfl
 refine pure_ (i := 4) (N := some 8) (v := ?_) (a' := ?_) (Ymk 16 31) rfl rfl (by kernel_rfl) (fun _ _ _ h => h) (Or.inl ⟨by rfl, ?_⟩) ?_ ?_
 rotate_left; · intro w'; go_simp; with_reducible rfl
 rotate_left; · simp only [Act.put, Y1, Y2, Y3]; rfl
 refine take_ (i := 5) (N := some 9) (v := ?_) (a' := ?_) (Ymk 16 63) rfl rfl (by kernel_rfl) (fun _ _ _ h => h) (Or.inl ⟨by rfl, ?_⟩) hHeld ?_ ?_
 rotate_left
 ·rintro w' ⟨s0, s1, s2, s3, s4⟩
  go_simp
  with_reducible rfl
 rotate_left; · simp only [Act.put, Y1, Y2, Y3]; rfl
 refine pure_ (i := 6) (N := some 10) (v := ?_) (a' := ?_) (Ymk 16 127) rfl rfl (by kernel_rfl) (fun _ _ _ h => h) (Or.inl ⟨by rfl, ?_⟩) ?_ ?_
 rotate_left; · intro w'; go_simp; with_reducible rfl
 rotate_left; · simp only [Act.put, Y1, Y2, Y3]; rfl
 refine take_ (i := 7) (N := some 11) (v := ?_) (a' := ?_) (Ymk 16 255) rfl rfl (by kernel_rfl) (fun _ _ _ h => h) (Or.inl ⟨by rfl, ?_⟩) hHeld ?_ ?_
 rotate_left
 ·rintro w' ⟨s0, s1, s2, s3, s4⟩
  go_simp
  with_reducible rfl
 rotate_left; · simp only [Act.put, Y1, Y2, Y3]; rfl
 refine take_ (i := 8) (N := some 12) (v := ?_) (a' := ?_) (Ymk 16 511) rfl rfl (by kernel_rfl) (fun _ _ _ h => h) (Or.inl ⟨by rfl, ?_⟩) hHeld ?_ ?_
 rotate_left
 ·rintro w' ⟨s0, s1, s2, s3, s4⟩
  go_simp
  with_reducible rfl
 rotate_left; · simp only [Act.put, Y1, Y2, Y3]; rfl
 refine pure_ (i := 9) (N := some 13) (v := ?_) (a' := ?_) (Ymk 16 1023) rfl rfl (by kernel_rfl) (fun _ _ _ h => h) (Or.inl ⟨by rfl, ?_⟩) ?_ ?_
 rotate_left; · intro w'; go_simp; with_reducible rfl
 rotate_left; · simp only [Act.put, Y1, Y2, Y3]; rfl
 refine take_ (i := 10) (N := some 14) (v := ?_) (a' := ?_) (Ymk 16 2047) rfl rfl (by kernel_rfl) (fun _ _ _ h => h) (Or.inl ⟨by rfl, ?_⟩) hHeld ?_ ?_
 rotate_left
 ·rintro w' ⟨s0, s1, s2, s3, s4⟩
  go_simp
  with_reducible rfl
 rotate_left; · simp only [Act.put, Y1, Y2, Y3]; rfl
 refine one_ (i := 11) (N := some 15) (Ymk 16 4095) rfl rfl (by kernel_rfl) (by decide) (fun K hK => ?_)
 refine goes_ Tryz.func75 (by kernel_rfl) rfl #[.pointer (some ⟨G.X, 0, none⟩), .slice A p.2.1.length c, .func (.func 76) #[] #[]] (by rfl) rfl rfl (by first | rfl | (simp [Act.eval]; done) | (simp [go_sem]; done)) ?_
 refine (ahead_calls G.X A p.2.1.length c 76 #[] W0.drew).mono ?_
 rintro e X1 ⟨rfl, hX1⟩
 refine ⟨_, rfl, ?_⟩
 have hB1 : Below W0.drew.heap.size W0.drew X1 := by rw [← hX1]; exact (((Below.refl _ _).alloc (Nat.le_refl _) _).alloc (by simp) _).alloc (by simp; omega) _
 have sz1 : X1.heap.size = W0.drew.heap.size + 3 := by rw [← hX1]; simp
 have e1 : Boxed X1 (W0.drew.heap.size + 1) 40 (.slice A p.2.1.length c) := by
  rw [← hX1]; have := (Boxed.new (W0.drew.alloc (.cells #[.pointer (some ⟨G.X, 0, none⟩)] 93)) 40 (.slice A p.2.1.length c)).alloc (.cells #[.func (.func 76) #[] #[]] 80); simpa using this
 have e2 : Boxed X1 W0.drew.heap.size 93 (.pointer (some ⟨G.X, 0, none⟩)) := by
  rw [← hX1]; exact ((Boxed.new W0.drew _ _).alloc _).alloc _
 have e3 : Boxed X1 (W0.drew.heap.size + 1 + 1) 80 (.func (.func 76) #[] #[]) := by
  rw [← hX1]; have := Boxed.new ((W0.drew.alloc (.cells #[.pointer (some ⟨G.X, 0, none⟩)] 93)).alloc (.cells #[.slice A p.2.1.length c] 40)) 80 (.func (.func 76) #[] #[]); simpa using this
 have hF1 : Fs G em Ss X1 := (hF0.below (zbb (Below.refl _ _))).below hB1
 have hu1 : Below u.heap.size u X1 := (zbb hu0).trans (hB1.mono (zbb hu0).size)
 have hh1 := keep _ _ hB1 hHeld
 refine hK.out _ _ hh1 (fun _ => ?_)
 clear hK K hX1
 have hno : SeqH 1 Tryz.prog 76 #[] encX (KeepH X1.heap.size) (fun ys => ∀ x, x ∈ vals ys ↔ (fun _ => False) x) (fun _ => True) 0 X1 :=
  SeqH.of (none_stops 1 X1.heap.size [] 0 X1) (fun l A B h => h.1) (fun xs h => by subst h; intro x; simp [vals]) (fun _ _ => trivial)
 have hah := ahead_stops G em Ss X1 u A c p.2.1 (W0.drew.heap.size + 1) W0.drew.heap.size (W0.drew.heap.size + 1 + 1) 76 #[] (enters_of Tryz.func76 (by kernel_rfl) rfl) hF1 (bd_len hBd (fs_rises hF1)) hC hu1 e1 e2 e3 (fun _ => False) (fun _ => True) 0 hno
 refine one_ (i := 12) (N := some 16) (Ymk 16 8191) rfl rfl (by kernel_rfl) (by decide) (fun K hK => ?_)
 refine goes_ Tryz.func74 (by kernel_rfl) rfl #[.func (.func 89) #[] #[.pointer (some ⟨W0.drew.heap.size + 1, 0, none⟩), .pointer (some ⟨W0.drew.heap.size, 0, none⟩), .pointer (some ⟨W0.drew.heap.size + 1 + 1, 0, none⟩)]] (by rfl) rfl rfl (by first | rfl | (simp [Act.eval]; done) | (simp [go_sem]; done)) ?_
 refine (collect_calls 89 _ (enters_of Tryz.func89 (by kernel_rfl) rfl) X1 _ _ _ (by omega) hah).mono ?_
 rintro e X2 ⟨v2, xs, rfl, hxs, hxl, ho2, hB2⟩
 refine ⟨_, rfl, ?_⟩
 have hh2 := keep _ _ hB2 hh1
 refine hK.out _ _ hh2 (fun _ => ?_)
 clear hK K
 obtain ⟨S0, hS0⟩ : ∃ S0 : World, S0 = X2 := ⟨_, rfl⟩
 have hA2 : SetAt b Sb X2 := ((hSA.keep rfl : SetAt b Sb W0.drew).keep (hB1.block b (by show b < W0.heap.size; omega))).keep (hB2.block b (by have := hB1.size; have : W0.drew.heap.size = W0.heap.size := rfl; omega))
 have hu2 := hu1.trans (hB2.mono hu1.size)
 have hSbl : Sb.length ≤ 1000000 := bd_len hBd (fs_rises hF1) Sb (List.mem_of_getElem? hSs)
 obtain ⟨Av, cv, rfl, hadd⟩ := addrow_calls X2 u v2 xs.length X1.heap.size xs b Sb hA2 ho2 (by have : W0.drew.heap.size = W0.heap.size := rfl; omega) hub' hu2 (by omega)
 refine one_ (i := 13) (N := some 17) (Ymk 16 16383) rfl rfl (by kernel_rfl) (by decide) (fun K hK => ?_)
 refine goes_ Tryz.func73 (by kernel_rfl) rfl #[.slice Av xs.length cv] (by rfl) rfl rfl (by first | rfl | (simp [Act.eval]; done) | (simp [go_sem]; done)) ?_
 refine (ivals_calls Av xs.length cv X2).mono ?_
 rintro e X3 ⟨rfl, hX3⟩
 refine ⟨_, rfl, ?_⟩
 have hB3 : Below X2.heap.size X2 X3 := by rw [← hX3]; exact (Below.refl _ _).alloc (Nat.le_refl _) _
 have hh3 := keep _ _ hB3 hh2
 refine hK.out _ _ hh3 (fun _ => ?_)
 clear hK K
 rw [hX3] at hadd
 refine last_ (i := 14) (N := some 18) (Ymk 16 32767) rfl rfl (by kernel_rfl) (by decide) (fun K hK => ?_)
 refine goes_ Tryz.func72 (by kernel_rfl) rfl #[.map (some b), .func (.func 87) #[] #[.pointer (some ⟨X2.heap.size, 0, none⟩)]] (by rfl) rfl rfl (by first | rfl | (simp [Act.eval]; done) | (simp [go_sem]; done)) ?_
 refine hadd.mono ?_
 rintro e X4 ⟨rfl, hA4, ht4⟩
 refine ⟨_, rfl, ?_⟩
 refine hK.out _ _ ?_
 clear hK K
 refine pure_ (i := 15) (N := some 3) (v := ?_) (a' := ?_) (Ymk 16 65535) rfl rfl (by kernel_rfl) (fun _ _ _ h => h) (Or.inl ⟨by rfl, ?_⟩) ?_ ?_
 rotate_left; · intro w'; go_simp; with_reducible rfl
 rotate_left; · simp only [Act.put, Y1, Y2, Y3]; rfl
 refine done_ (by kernel_rfl) ?_
 refine hK2 _ _ ?_
 clear hK2
 have hun : unionV Sb (vals xs) = unionV (Ss.getD p.1.toNat []) (ahV G.N em Ss p.2.1 []) := by
  rw [hgd]
  refine rises_one (unionV_rises _ hSA.1) (unionV_rises _ hSA.1) (fun x => ?_)
  rw [zck, zck, ahV_mem, hxs x]
  simp
 rw [hun, hgd] at hA4
 rw [hgd] at hun
 go_wp2;go_ret
 refine ⟨?_, hA4, ?_⟩
 ·simp only [stepF, hgd]
  rfl
 ·have tz : Turn W.heap.size (fun k => k = b) W X2 := (Turn.below hB0).trans (Turn.drew.trans ((Turn.below hB1).trans (Turn.below hB2)))
  exact tz.trans (ht4.mono (by have := tz.size; omega) (fun _ h => h))
end Go.Proofs.YtgdmjpehofdnpaaGreat.Begin
end
section
namespace Go.Proofs.YtgdmjpehofdnpaaGreat.Begun
open Go Go.RowKit Go.Shelf Go.Maps Go.Proofs.YtgdmjpehofdnpaaGreatW.PrintWords Go.Proofs.YtgdmjpehofdnpaaGreatW.PrintLast Go.Proofs.YtgdmjpehofdnpaaGreat.Round Go.Proofs.YtgdmjpehofdnpaaGreat.RangeG Go.Proofs.YtgdmjpehofdnpaaGreat.RangeH Go.Proofs.YtgdmjpehofdnpaaGreat.Fl Go.Proofs.YtgdmjpehofdnpaaGreat.Grow Go.Proofs.YtgdmjpehofdnpaaGreat.Seqs Go.Proofs.YtgdmjpehofdnpaaGreat.MSet Go.Proofs.YtgdmjpehofdnpaaGreat.Add Go.Proofs.YtgdmjpehofdnpaaGreat.Deri Go.Proofs.YtgdmjpehofdnpaaGreat.Ahd Go.Proofs.YtgdmjpehofdnpaaGreat.Begin
attribute [local go_sem] Oper.semAt_some
set_option linter.unusedVariables false
set_option linter.unusedSimpArgs false
theorem append_ {ops : Array Oper} {Pr : Program} {Q : Exit → Act → World → Prop} {oi : Oper} {N : Option Tmp} {a : Act} {w : World} {K : Act → World → Prop} (hw : Region.wanted oi (yielded ops a.tmps) = true) (hN : oi.dst = N) (s x : Operand) (t : TypeId)
  (ho : oi.op = .call { callee := .builtin .append, args := #[s, x], argTypes := #[t, t] })
  (base : Nat) (e : TypeId) (i : TypeInfo) (z : Value) (size bytes : Nat) (ht : Pr.underlying t = some (.slice e)) (hi : Pr.info? e = some i) (hz : i.zero = some z)
  (hsize : i.size = size) (hby : i.bytes = bytes) (hzs : z.cells.size = size) (hsz : 0 < size)
  (v : Value) (n : Nat) (xs : List Value) (hs : a.eval s = v) (hown : w.ownsRow base e size v n xs)
  (ad : Addr) (m c : Nat) (news : List Value) (hx : a.eval x = .slice (some ad) m c) (hl : news.length = m * size) (hnews : ∀ j u, news[j]? = some u → w.cell? (ad.add j) = some u) (h1 : ∀ u ∈ news, u.oneCell' = true)
  (h63 : n + m ≤ maxLen) (hbytes : (n + m) * bytes ≤ 140737488355328) (hbase : base ≤ w.heap.size)
  (h : ∀ v' w', w'.ownsRow base e size v' (n + m) (xs ++ news) → w.grownBy w' v.ownBlock → K (a.put N v') w') : if Region.wanted oi (yielded ops a.tmps) = true then Oper.wp Pr oi a w K Q else K (a.put N undef) w := by
 obtain ⟨v', w', hr, h2, h3, h4, h5⟩ := run_append_own_at (P := Pr) w base t oi.type e i z size bytes ht hi hz hsize hby hzs hsz v n xs hown ad m c news hl hnews h1 h63 hbytes hbase
 refine zb7 (w1 := w') (v := v') hw hN ?_ (h v' w' h2 h3)
 simp [execOp, ho, resolve, invoke, builtin, hs, hx, hr, Result.andThen]
theorem own_keep {W W' : World} {base : Nat} {e : TypeId} {size : Nat} {v : Value} {k : Nat} {xs : List Value} (h : W.ownsRow base e size v k xs) (hk : ∀ g cs, base ≤ g → W.heap[g]? = some (.cells cs e (0, 0)) → W'.heap[g]? = some (.cells cs e (0, 0))) : W'.ownsRow base e size v k xs := by
 refine ⟨h.1, ?_⟩
 rcases h.2 with h | ⟨g, cap, cur, h1, h2, h3, h4⟩
 ·exact .inl h
 ·exact .inr ⟨g, cap, cur, h1, h2, hk g cur h2 h3, h4⟩
theorem own_ne {W : World} {base : Nat} {e : TypeId} {size : Nat} {v : Value} {k : Nat} {xs : List Value} (h : W.ownsRow base e size v k xs) {j : Nat} {o : Obj} (hj : W.heap[j]? = some o) (hno : ∀ cur, o ≠ .cells cur e (0, 0)) : some j ≠ v.ownBlock := by
 intro e'
 rcases h.2 with ⟨rfl, _⟩ | ⟨g, cap, cur, rfl, hb, hh, _⟩
 ·simp [Value.ownBlock] at e'
 ·obtain rfl : j = g := by simpa [Value.ownBlock] using e'
  rw [hh] at hj
  cases hj
  exact hno cur rfl
def initV (N n0 : Nat) : List (List Int) := (List.range N).map fun i => if i < n0 then [(i : Int)] else []
theorem infoS : (Tryz.prog.info? 103).map (fun i => (i.zero, i.size, i.bytes)) = some (some (.map none), 1, 8) := by kernel_rfl
theorem wf_n {j : Nat} (h : j ≤ 1000000000000) : (Lit.int .i64 (j : Int)).wf = true := by
 simp [Lit.wf, IntKind.min, IntKind.max, IntKind.signed, IntKind.bits]
 omega
theorem Fs.low {G : Geo} {em : List Bool} {Ss : List (List Int)} {L : Nat} {W W' : World} (h : Fs G em Ss W) (h1 : G.X < L) (h2 : G.ge < L) (h3 : G.gr < L) (h4 : ∀ b ∈ G.bs, b < L) (ht : Turn L (fun k => L ≤ k) W W') : Fs G em Ss W' := by
 obtain ⟨cs, r1, r2⟩ := h.row
 exact ⟨ht.same _ _ h.blk (by omega) (.inr rfl), h.nn, h.few, h.eml, ht.same _ _ h.emb (by omega) (.inr rfl), ⟨cs, ht.same _ _ r1 (by omega) (.inr rfl), r2⟩, h.bsl, h.ssl, fun i b S hb hS => (h.sets i b S hb hS).turn ht (by have := h4 b (List.mem_of_getElem? hb); omega) (h4 b (List.mem_of_getElem? hb))⟩
theorem ahV_sub (N : Nat) (em : List Bool) (Ss : List (List Int)) (B : List Int) (x : Int) : ∀ l : List I, x ∈ ahV N em Ss l B → x ∈ B ∨ ∃ S ∈ Ss, x ∈ S
 | [], h => .inl h
 | i :: t, h => by
  have hs : x ∈ Ss.getD i.1.toNat [] → ∃ S ∈ Ss, x ∈ S := fun h => by
   rw [List.getD_eq_getElem?_getD] at h
   cases e : Ss[i.1.toNat]? with
   | none => rw [e] at h; exact nomatch h
   | some S => rw [e] at h; exact ⟨S, List.mem_of_getElem? e, h⟩
  simp only [ahV] at h
  split at h
  ·split at h
   ·rcases (zck x _ _).1 h with h | h
    ·exact .inr (hs h)
    ·exact ahV_sub N em Ss B x t h
   ·exact .inr (hs h)
  ·exact ahV_sub N em Ss B x t h
theorem stepF_bd {N : Nat} {em : List Bool} {Ss : List (List Int)} {p : P} (h : Bd Ss) : Bd (stepF N em Ss p).1 := by
 intro S hS x hx
 rcases List.mem_or_eq_of_mem_set hS with hS | rfl
 ·exact h S hS x hx
 ·rcases (zck x _ _).1 hx with hx | hx
  ·rcases ahV_sub N em Ss [] x _ hx with hx | ⟨S, hS, hx⟩
   ·exact nomatch hx
   ·exact h S hS x hx
  ·rw [List.getD_eq_getElem?_getD] at hx
   cases e : Ss[p.1.toNat]? with
   | none => rw [e] at hx; exact nomatch hx
   | some S => rw [e] at hx; exact h S (List.mem_of_getElem? e) x hx
theorem Fs.step {G : Geo} {em : List Bool} {Ss : List (List Int)} {W W' : World} {q b : Nat} {S : List Int} (h : Fs G em Ss W) (hn : G.bs.Nodup) (hb : G.bs[q]? = some b) (hS : SetAt b S W') (ht : Turn W.heap.size (fun k => k = b) W W') : Fs G em (Ss.set q S) W' := by
 obtain ⟨cs, r1, r2⟩ := h.row
 obtain ⟨b', S', e1, e2, hA, _⟩ := h.bm q (by have := (List.getElem?_eq_some_iff.1 hb).1; rw [h.bsl] at this; exact this)
 rw [hb] at e1
 cases e1
 obtain ⟨o, ho, hc, _⟩ := hA.block
 have hne : ∀ (k : Nat) (cs : Array Value) (t : TypeId) (fr : Nat × Nat), W.heap[k]? = some (.cells cs t fr) → k ≠ b := by
  rintro k cs t fr hk rfl
  rw [ho] at hk
  cases hk
  cases hc
 refine ⟨ht.same _ _ h.blk (hne _ _ _ _ h.blk) (.inr rfl), h.nn, h.few, h.eml, ht.same _ _ h.emb (hne _ _ _ _ h.emb) (.inr rfl), ⟨cs, ht.same _ _ r1 (hne _ _ _ _ r1) (.inr rfl), r2⟩, h.bsl, by rw [List.length_set]; exact h.ssl, fun i b1 S1 hb1 hS1 => ?_⟩
 by_cases e : q = i
 ·subst e
  rw [hb] at hb1
  cases hb1
  rw [List.getElem?_set_self (by rw [h.ssl, ← h.bsl]; exact (List.getElem?_eq_some_iff.1 hb).1)] at hS1
  cases hS1
  exact hS
 ·rw [List.getElem?_set_ne e] at hS1
  have h1 := h.sets i b1 S1 hb1 hS1
  refine h1.turn ht (fun e' => ?_) h1.lt
  subst e'
  obtain ⟨l1, l2⟩ := List.getElem?_eq_some_iff.1 hb
  obtain ⟨l3, l4⟩ := List.getElem?_eq_some_iff.1 hb1
  exact e ((List.getElem_inj hn).1 (l2.trans l4.symm))
theorem initV_len (N n0 : Nat) : (initV N n0).length = N := by simp [initV]
theorem initV_get {N n0 q : Nat} {S : List Int} (h : (initV N n0)[q]? = some S) : S = if q < n0 then [(q : Int)] else [] := by
 obtain ⟨h1, h2⟩ := List.getElem?_eq_some_iff.1 h
 rw [← h2]
 simp [initV]
theorem initV_bd {N n0 : Nat} (hN : N ≤ 1000000) : Bd (initV N n0) := by
 intro S hS x hx
 obtain ⟨q, hq, e⟩ := List.mem_iff_getElem.1 hS
 have := initV_get (S := S) (by rw [List.getElem?_eq_getElem hq, e])
 rw [initV_len] at hq
 subst this
 split at hx
 ·rw [List.mem_singleton] at hx; omega
 ·exact nomatch hx
structure Lp (f N n0 j : Nat) (bs : List Nat) (v : Value) (a0 a1 a2 : Value) (em : List Bool) (BX X ge : Nat) (W : World) : Prop where
 len : bs.length = j
 nod : bs.Nodup
 far : ∀ b ∈ bs, f < b
 sets : ∀ (q b : Nat), bs[q]? = some b → SetAt b (if q < n0 then [(q : Int)] else []) W
 own : W.ownsRow (f + 1) 103 1 v j (bs.map fun b => Value.map (some b))
 hb : Boxed W BX 93 (.pointer (some ⟨X, 0, none⟩))
 hx : W.heap[X]? = some (.cells #[a0, a1, a2, .slice (some ⟨ge, 0, none⟩) N N, v] 92 (0, 0))
 hg : W.heap[ge]? = some (.cells (em.map Value.bool).toArray TB (0, 0))
 hf : W.heap[f]? = some (.cells #[a0, a1, a2] TF (0, 0))
theorem Lp.below {f N n0 j : Nat} {bs : List Nat} {v a0 a1 a2 : Value} {em : List Bool} {BX X ge : Nat} {W W' : World} (h : Lp f N n0 j bs v a0 a1 a2 em BX X ge W) (hb : Below W.heap.size W W') : Lp f N n0 j bs v a0 a1 a2 em BX X ge W' :=
 ⟨h.len, h.nod, h.far, fun q b hq => (h.sets q b hq).keep (hb.block b (h.sets q b hq).lt), own_keep h.own (fun g cs _ hg => zar hg hb), zar h.hb hb, zar h.hx hb, zar h.hg hb, zar h.hf hb⟩
set_option maxRecDepth 100000 in
set_option maxHeartbeats 4000000 in
theorem begin_calls (w : World) (A0 A1 A2 : Option Addr) (n0 n1 c0 c1 c2 N : Nat) (hNe : n0 + n1 = N) (hN1 : 1 ≤ N) (ps : List P) (hC : Kd.C kP w A2 ps.length ps) (hN : N ≤ 1000000) (hps : ∀ p ∈ ps, PrOk N p ∧ p.2.1.length ≤ 1000) (k0 k : Nat) (em : List Bool) (hem : growV stepD ps k0 (List.replicate N false) = some em) (k1 : Nat) (Ss : List (List Int)) (hSs : growV (stepF N em) ps k1 (initV N n0) = some Ss) :
  Calls Tryz.prog 57 #[.agg #[.slice A0 n0 c0, .slice A1 n1 c1, .slice A2 ps.length c2]] w fun e W' => ∃ G : Geo, e = .returned (.pointer (some ⟨G.X, 0, none⟩)) ∧ G.N = N ∧ Fs G em Ss W' ∧ Bd Ss ∧ Below w.heap.size w W' := by
 obtain ⟨W0, hW0⟩ : ∃ W0, w.alloc (.cells #[.slice A0 n0 c0, .slice A1 n1 c1, .slice A2 ps.length c2] TF) = W0 := ⟨_, rfl⟩
 have hB0 : Below w.heap.size w W0 := by rw [← hW0]; exact (Below.refl _ _).alloc (Nat.le_refl _) _
 have sz0 : W0.heap.size = w.heap.size + 1 := by rw [← hW0]; simp
 have f0 : W0.heap[w.heap.size]? = some (.cells #[.slice A0 n0 c0, .slice A1 n1 c1, .slice A2 ps.length c2] TF (0, 0)) := by rw [← hW0]; exact zbi w _
 have hHeld : W0.drew.cell? ⟨w.heap.size, 0, none⟩ = some (.slice A0 n0 c0) ∧ W0.drew.cell? ⟨w.heap.size, 1, none⟩ = some (.slice A1 n1 c1) ∧ W0.drew.cell? ⟨w.heap.size, 2, none⟩ = some (.slice A2 ps.length c2) := ⟨zac f0 0, zac f0 1, zac f0 2⟩
 have keep : ∀ X Y : World, Below X.heap.size X Y → (fun X => X.cell? ⟨w.heap.size, 0, none⟩ = some (.slice A0 n0 c0) ∧ X.cell? ⟨w.heap.size, 1, none⟩ = some (.slice A1 n1 c1) ∧ X.cell? ⟨w.heap.size, 2, none⟩ = some (.slice A2 ps.length c2)) X → (fun X => X.cell? ⟨w.heap.size, 0, none⟩ = some (.slice A0 n0 c0) ∧ X.cell? ⟨w.heap.size, 1, none⟩ = some (.slice A1 n1 c1) ∧ X.cell? ⟨w.heap.size, 2, none⟩ = some (.slice A2 ps.length c2)) Y := fun X Y h hh => ⟨zaq h hh.1, zaq h hh.2.1, zaq h hh.2.2⟩
 have hs := fun W => size_calls A0 A1 A2 n0 n1 ps.length c0 c1 c2 W (by rw [hNe]; exact hN)
 rw [hNe] at hs
 have hemp := fun W (hC : Kd.C kP W A2 ps.length ps) => empty_calls W A0 A1 A2 n0 n1 c0 c1 c2 N hNe ps hC hN (fun p hp => (hps p hp).1) k0 em hem
 go_enter Tryz.func57, Tryz.ntmps57
 go_wp2
 rename_i K1 hK2
 have rest : ∀ (W1 : World) (BX X ge : Nat), w.heap.size < BX → w.heap.size < X → w.heap.size < ge → BX ≠ X → ge ≠ X → ge ≠ BX → Boxed W1 BX 93 (.pointer (some ⟨X, 0, none⟩)) → W1.heap[X]? = some (.cells #[.slice A0 n0 c0, .slice A1 n1 c1, .slice A2 ps.length c2, .slice (some ⟨ge, 0, none⟩) N N, .slice none 0 0] 92 (0, 0)) →
   em.length = N → W1.heap[ge]? = some (.cells (em.map Value.bool).toArray TB (0, 0)) → W1.heap[w.heap.size]? = some (.cells #[.slice A0 n0 c0, .slice A1 n1 c1, .slice A2 ps.length c2] TF (0, 0)) → Below w.heap.size w W1 →
   K1 (Act.mk #[.agg #[.slice A0 n0 c0, .slice A1 n1 c1, .slice A2 ps.length c2], .pointer (some ⟨w.heap.size, 0, none⟩), .pointer none, .pointer (some ⟨BX, 0, none⟩), undef, .agg #[.slice A0 n0 c0, .slice A1 n1 c1, .slice A2 ps.length c2], .agg #[.slice A0 n0 c0, .slice A1 n1 c1, .slice A2 ps.length c2], .slice (some ⟨ge, 0, none⟩) N N, .agg #[.slice A0 n0 c0, .slice A1 n1 c1, .slice A2 ps.length c2, .slice (some ⟨ge, 0, none⟩) N N, .slice none 0 0], .pointer (some ⟨X, 0, none⟩), undef, undef, undef, undef, undef, undef, undef, undef, undef, undef, undef, undef, undef, undef, undef, undef, undef, undef, undef, undef, undef, undef, undef, undef, undef, undef, undef, undef, undef, undef, undef, undef, undef] []) W1 := by
  intro W1 BX X ge hBX hX hge hXn hgX hgB hb hx heml hg hf hB
  refine hK2 _ _ ?_
  clear hK2
  refine (wpIn_wide (n := 4)).1 ?_
  have cf0 : W1.cell? ⟨w.heap.size, 0, none⟩ = some (.slice A0 n0 c0) := zac hf 0
  have cf1 : W1.cell? ⟨w.heap.size, 1, none⟩ = some (.slice A1 n1 c1) := zac hf 1
  have cf2 : W1.cell? ⟨w.heap.size, 2, none⟩ = some (.slice A2 ps.length c2) := zac hf 2
  have hfN : Fence.wide.fn 59 := trivial
  gi_wp2_with (gi_at_call 59; refine (callsIn_wide.2 (hs _)).mono ?_; rintro e W2 ⟨rfl, hB2⟩)
  have hb2 : Boxed W2 BX 93 (.pointer (some ⟨X, 0, none⟩)) := zar hb hB2
  have hx2 := zar hx hB2
  have hg2 := zar hg hB2
  have hf2 := zar hf hB2
  have hBz := hB.trans (hB2.mono hB.size)
  clear hb hx hg hf hB cf0 cf1 cf2 hs hB2
  gi_loopw [12] (fun i wr => ∃ (j : Nat) (v : Value) (bs : List Nat), i = .int .i64 (j : Int) ∧ j ≤ N ∧ Lp w.heap.size N n0 j bs v (.slice A0 n0 c0) (.slice A1 n1 c1) (.slice A2 ps.length c2) em BX X ge wr ∧ Below w.heap.size w wr) (fun i _ => N - (Go.RowKit.intOf i).toNat)
  case atStart => exact ⟨0, .slice none 0 0, [], rfl, Nat.zero_le _, ⟨rfl, List.nodup_nil, fun _ h => (nomatch h), fun q b h => by simp at h, ⟨rfl, .inl ⟨rfl, rfl⟩⟩, hb2, hx2, hg2, hf2⟩, hBz⟩
  case round =>
   obtain ⟨j, v, bs, rfl, hj, hL, hbz⟩ := hrel
   by_cases hlt : j < N
   ·gi_wp2
    rename_i Kr hKr
    have hHeld : wr.drew.cell? ⟨BX, 0, none⟩ = some (.pointer (some ⟨X, 0, none⟩)) ∧ wr.drew.cell? ⟨X, 4, none⟩ = some v := ⟨hL.hb.cell, zac hL.hx 4⟩
    have keep2 : ∀ A B : World, Below A.heap.size A B → (fun Y => Y.cell? ⟨BX, 0, none⟩ = some (.pointer (some ⟨X, 0, none⟩)) ∧ Y.cell? ⟨X, 4, none⟩ = some v) A → (fun Y => Y.cell? ⟨BX, 0, none⟩ = some (.pointer (some ⟨X, 0, none⟩)) ∧ Y.cell? ⟨X, 4, none⟩ = some v) B := fun A B h hh => ⟨zaq h hh.1, zaq h hh.2⟩
    have hX1 := zav hL.hx
    have hBX1 : BX < wr.heap.size := zav hL.hb
    refine wpIn_wide.2 (wp_qz (zb0 (S := fun Y => Y.cell? ⟨BX, 0, none⟩ = some (.pointer (some ⟨X, 0, none⟩)) ∧ Y.cell? ⟨X, 4, none⟩ = some v) (ds := [10]) #[Nf,Nf,Nf,Nf,Nf,Nf,Nf,Nf,Nf,Nf,Nf] (by kernel_rfl) rfl rfl hHeld (fun _ => ?_)))
    refine take_ (i := 0) (N := some 15) (v := ?_) (a' := ?_) (Ymk 11 1) rfl rfl (by kernel_rfl) (fun _ _ _ h => h) (Or.inl ⟨by rfl, ?_⟩) hHeld ?_ ?_
    rotate_left
    ·rintro w' ⟨s0, s1⟩
     go_simp
     with_reducible rfl
    rotate_left; · simp only [Act.put, Y1, Y2, Y3]; rfl
    refine take_ (i := 1) (N := some 16) (v := ?_) (a' := ?_) (Ymk 11 3) rfl rfl (by kernel_rfl) (fun _ _ _ h => h) (Or.inl ⟨by rfl, ?_⟩) hHeld ?_ ?_
    rotate_left
    ·rintro w' ⟨s0, s1⟩
     go_simp
     with_reducible rfl
    rotate_left; · simp only [Act.put, Y1, Y2, Y3]; rfl
    refine pure_ (i := 2) (N := some 17) (v := ?_) (a' := ?_) (Ymk 11 7) rfl rfl (by kernel_rfl) (fun _ _ _ h => h) (Or.inl ⟨by rfl, ?_⟩) ?_ ?_
    rotate_left; · intro w'; go_simp; with_reducible rfl
    rotate_left; · simp only [Act.put, Y1, Y2, Y3]; rfl
    refine pure_ (i := 3) (N := some 18) (v := ?_) (a' := ?_) (Ymk 11 15) rfl rfl (by kernel_rfl) (fun _ _ _ h => h) (Or.inl ⟨by rfl, ?_⟩) ?_ ?_
    rotate_left; · intro w'; go_simp; with_reducible rfl
    rotate_left; · simp only [Act.put, Y1, Y2, Y3]; rfl
    refine take_ (i := 4) (N := some 19) (v := ?_) (a' := ?_) (Ymk 11 31) rfl rfl (by kernel_rfl) (fun _ _ _ h => h) (Or.inl ⟨by rfl, ?_⟩) hHeld ?_ ?_
    rotate_left
    ·rintro w' ⟨s0, s1⟩
     go_simp
     with_reducible rfl
    rotate_left; · simp only [Act.put, Y1, Y2, Y3]; rfl
    refine one_ (i := 5) (N := some 20) (Ymk 11 63) rfl rfl (by kernel_rfl) (by decide) (fun K hK => ?_)
    refine zb7 (w1 := wr.drew.alloc (.map #[] 0)) (v := .map (some wr.heap.size)) (by rfl) rfl ?_ ?_
    ·go_simp
     rw [run_makeMap]
     rfl
    have hh1 := keep2 wr.drew (wr.drew.alloc (.map #[] 0)) ((Below.refl _ _).alloc (Nat.le_refl _) _) hHeld
    refine hK.out _ _ hh1 (fun _ => ?_)
    clear hK K
    refine norm_ (a' := ?_) ?_ ?_
    rotate_left
    ·show Act.put _ (some 20) _ = _
     simp only [Act.put, Y1, Y2, Y3]
     rfl
    refine one_ (i := 6) (N := some 21) (Ymk 11 127) rfl rfl (by kernel_rfl) (by decide) (fun K hK => ?_)
    refine zb7 (w1 := (wr.drew.alloc (.map #[] 0)).alloc (.cells #[.map (some wr.heap.size)] 103)) (v := .slice (some ⟨wr.heap.size + 1, 0, none⟩) 1 1) (by rfl) rfl ?_ ?_
    ·go_simp
    have hh2 := keep2 (wr.drew.alloc (.map #[] 0)) ((wr.drew.alloc (.map #[] 0)).alloc (.cells #[.map (some wr.heap.size)] 103)) ((Below.refl _ _).alloc (Nat.le_refl _) _) hh1
    refine hK.out _ _ hh2 (fun _ => ?_)
    clear hK K
    refine norm_ (a' := ?_) ?_ ?_
    rotate_left
    ·show Act.put _ (some 21) _ = _
     simp only [Act.put, Y1, Y2, Y3]
     rfl
    refine one_ (i := 7) (N := some 22) (Ymk 11 255) rfl rfl (by kernel_rfl) (by decide) (fun K hK => ?_)
    obtain ⟨W5, hW5⟩ : ∃ W5, (wr.drew.alloc (.map #[] 0)).alloc (.cells #[.map (some wr.heap.size)] 103) = W5 := ⟨_, rfl⟩
    have hB5 : Below wr.heap.size wr W5 := by rw [← hW5]; exact ((zbb (Below.refl _ wr)).alloc (Nat.le_refl _) _).alloc (by simp) _
    have hm5 : SetAt wr.heap.size [] W5 := by rw [← hW5]; exact (SetAt.new wr.drew).keep (Below.heap_alloc _ _ _ (by simp))
    have hr5 : W5.heap[wr.heap.size + 1]? = some (.cells #[.map (some wr.heap.size)] 103 (0, 0)) := by rw [← hW5]; have := zbi (wr.drew.alloc (.map #[] 0)) (.cells #[.map (some wr.heap.size)] 103); simpa using this
    have sz5 : W5.heap.size = wr.heap.size + 2 := by rw [← hW5]; simp
    rw [hW5] at hh2
    rw [hW5]
    have hL5 := hL.below hB5
    obtain ⟨i0, hi, hz0, hz1, hz2⟩ := info_parts infoS
    have hXr : some X ≠ v.ownBlock := own_ne hL5.own hL5.hx (fun cur e => by cases e)
    have hBr : some BX ≠ v.ownBlock := own_ne hL5.own hL5.hb (fun cur e => by cases e)
    have hgr : some ge ≠ v.ownBlock := own_ne hL5.own hL5.hg (fun cur e => by cases e)
    have hfr : some w.heap.size ≠ v.ownBlock := own_ne hL5.own hL5.hf (fun cur e => by cases e)
    have hsr : ∀ b S, SetAt b S W5 → some b ≠ v.ownBlock := fun b S h => by obtain ⟨o, ho, hc, _⟩ := h.block; exact own_ne hL5.own ho (fun cur e => by subst e; cases hc)
    refine append_ (by rfl) rfl (.tmp 19) (.tmp 21) 90 rfl (w.heap.size + 1) 103 i0 (.map none) 1 8 Tryz.underlying90 hi hz0 hz1 hz2 rfl (by omega) v j _ rfl hL5.own ⟨wr.heap.size + 1, 0, none⟩ 1 1 [.map (some wr.heap.size)] rfl rfl ?_ ?_ (by have : maxLen = 9223372036854775807 := rfl; omega) (by omega) (by omega) (fun v' W6 hown hgrow => ?_)
    ·intro q u hq
     rw [List.getElem?_singleton] at hq
     split at hq
     ·rename_i h0; subst h0; cases hq; exact zac hr5 0
     ·cases hq
    ·intro u hu
     rw [List.mem_singleton] at hu
     subst hu
     rfl
    obtain ⟨A6, c6, hv6⟩ : ∃ A c, v' = .slice A (j + 1) c := by
     rcases hown.2 with ⟨_, h0⟩ | ⟨g, cap, cur, h0, _⟩
     ·omega
     ·exact ⟨_, _, h0⟩
    subst hv6
    have hx6 := zcg hL5.hx hgrow hXr
    have hb6 : Boxed W6 BX 93 (.pointer (some ⟨X, 0, none⟩)) := zcg hL5.hb hgrow hBr
    refine hK.out _ _ ⟨hb6.cell, zac hx6 4⟩ (fun _ => ?_)
    clear hK K
    refine norm_ (a' := ?_) ?_ ?_
    rotate_left
    ·show Act.put _ (some 22) _ = _
     simp only [Act.put, Y1, Y2, Y3]
     rfl
    refine pure_ (i := 8) (N := some 23) (v := ?_) (a' := ?_) (Ymk 11 511) rfl rfl (by kernel_rfl) (fun _ _ _ h => h) (Or.inl ⟨by rfl, ?_⟩) ?_ ?_
    rotate_left; · intro w'; go_simp; with_reducible rfl
    rotate_left; · simp only [Act.put, Y1, Y2, Y3]; rfl
    refine pure_ (i := 9) (N := some 24) (v := ?_) (a' := ?_) (Ymk 11 1023) rfl rfl (by kernel_rfl) (fun _ _ _ h => h) (Or.inl ⟨by rfl, ?_⟩) ?_ ?_
    rotate_left; · intro w'; go_simp; with_reducible rfl
    rotate_left; · simp only [Act.put, Y1, Y2, Y3]; rfl
    have x6c := zac hx6 4
    have x6f := zak hx6 4
    have x6s := blk_set hx6 4 (.slice A6 (j + 1) c6)
    refine last_ (i := 10) (N := none) (Ymk 11 2047) rfl rfl (by kernel_rfl) (by decide) (fun K hK => ?_)
    refine skip_ (w1 := W6.setCell ⟨X, 4, none⟩ (.slice A6 (j + 1) c6)) (by rfl) rfl ?_ ?_
    ·go_simp
    refine hK.out _ _ ?_
    clear hK K
    refine done_ (by kernel_rfl) ?_
    refine hKr _ _ ?_
    clear hKr
    have hXne : ∀ g cs, W6.heap[g]? = some (.cells cs 103 (0, 0)) → g ≠ X := fun g cs hg => blk_ne hg hx6 (by decide)
    have hobs : ∀ g, v.ownBlock = some g → w.heap.size + 1 ≤ g := by
     intro g hg
     rcases hL5.own.2 with ⟨rfl, _⟩ | ⟨g', cap, cur, rfl, hb, _⟩
     ·simp [Value.ownBlock] at hg
     ·obtain rfl : g' = g := by simpa [Value.ownBlock] using hg
      exact hb
    obtain ⟨W7, hW7⟩ : ∃ W7, W6.setCell ⟨X, 4, none⟩ (.slice A6 (j + 1) c6) = W7 := ⟨_, rfl⟩
    have k7 : ∀ g, g ≠ X → W7.heap[g]? = W6.heap[g]? := fun g hg => by rw [← hW7]; exact Below.heap_setCell _ _ _ _ hg
    have hown7 : W7.ownsRow (w.heap.size + 1) 103 1 (.slice A6 (j + 1) c6) (j + 1) ((bs ++ [wr.heap.size]).map fun b => Value.map (some b)) := by
     rw [List.map_append]
     exact own_keep hown (fun g cs _ hg => (k7 g (hXne g cs hg)).trans hg)
    have hx7 : W7.heap[X]? = some (.cells #[.slice A0 n0 c0, .slice A1 n1 c1, .slice A2 ps.length c2, .slice (some ⟨ge, 0, none⟩) N N, .slice A6 (j + 1) c6] 92 (0, 0)) := by rw [← hW7]; exact zbn hx6 4 _ rfl
    have hb7 : Boxed W7 BX 93 (.pointer (some ⟨X, 0, none⟩)) := (k7 BX hXn).trans hb6
    have hg7 := (k7 ge hgX).trans (zcg hL5.hg hgrow hgr)
    have hf7 := (k7 w.heap.size (by omega)).trans (zcg hL5.hf hgrow hfr)
    have ks : ∀ b S, SetAt b S W5 → SetAt b S W7 := fun b S h => by
     refine h.keep ((k7 b ?_).trans (hgrow.block b h.lt (hsr b S h)))
     rintro rfl
     obtain ⟨o, ho, hc, _⟩ := h.block
     rw [hL5.hx] at ho
     cases ho
     cases hc
    have hm7 := ks _ _ hm5
    have hwz7 : Below w.heap.size w W7 := by
     have h1 := hbz.trans (hB5.mono hbz.size)
     have h2 := h1.grown hgrow (h1.size) (fun g hg => by have := hobs g hg; omega)
     rw [← hW7]
     exact h2.setCell (p := ⟨X, 4, none⟩) (by show w.heap.size ≤ X; omega) _
    have sz7 : W5.heap.size ≤ W7.heap.size := by rw [← hW7]; have := hgrow.size; simpa using this
    have hmn : wr.heap.size ∉ bs := fun h => by obtain ⟨q, hq, e⟩ := List.mem_iff_getElem.1 h; have := (hL.sets q _ (by rw [List.getElem?_eq_getElem hq])).lt; omega
    have hst : ∀ q b, bs[q]? = some b → SetAt b (if q < n0 then [(q : Int)] else []) W7 := fun q b hq => ks _ _ (hL5.sets q b hq)
    have hlen := hL.len
    have hnod := hL.nod
    have hfar := hL.far
    have hwz := hbz.size
    rw [hW7]
    clear hW7 k7 ks hL hL5 hown hgrow hx6 hb6 x6c x6f x6s hXr hBr hgr hfr hsr hm5 hr5 hB5 hobs hXne hbz hx2 hb2 hg2 hf2 hBz hHeld keep2 hh1 hh2
    have cB7 := hb7.cell
    have cX7 : W7.cell? ⟨X, 4, none⟩ = some (.slice A6 (j + 1) c6) := zac hx7 4
    have cf7 : W7.cell? ⟨w.heap.size, 0, none⟩ = some (.slice A0 n0 c0) := zac hf7 0
    have hnod' : (bs ++ [wr.heap.size]).Nodup := by
     rw [List.nodup_append]
     refine ⟨hnod, by simp, fun a ha b hb => ?_⟩
     rw [List.mem_singleton] at hb
     subst hb
     exact fun e => hmn (e ▸ ha)
    have hfar' : ∀ b ∈ bs ++ [wr.heap.size], w.heap.size < b := fun b hb => by
     rcases List.mem_append.1 hb with hb | hb
     ·exact hfar b hb
     ·rw [List.mem_singleton] at hb; omega
    by_cases hT : j < n0
    ·obtain ⟨g6, hA6, h6⟩ : ∃ g6, A6 = some ⟨g6, 0, none⟩ ∧ W7.cell? ⟨g6, j, none⟩ = some (.map (some wr.heap.size)) := by
      rcases hown7.2 with ⟨_, h0⟩ | ⟨g, cap, cur, h0, _, hh, _, _, _, htk⟩
      ·omega
      ·cases h0
       refine ⟨g, rfl, ?_⟩
       rw [zac hh j]
       have : (cur.toList.take ((j + 1) * 1))[j]? = some (.map (some wr.heap.size)) := by
        rw [htk, List.map_append, List.getElem?_append_right (by simp; omega)]
        simp [hlen]
       rwa [List.getElem?_take_of_lt (by omega), Array.getElem?_toList] at this
     subst hA6
     obtain ⟨q1, q2, D', hown', hsz', hhas'⟩ := hm7
     gi_wp2_with (first
      | (gi_at_mapUpdate; (refine wpListIn_mapUpdate_own _ rfl _ _ _ 103 rfl TI TB law Tryz.underlying103 _ wr.heap.size _ _ rfl hown' (by simp [maxLen]) _ _ _ rfl rfl (Maps.keyOf_int_mk Tryz.underlying3 (wf_n (by omega))) _ [] (plainElem_bool Tryz.underlying4 true) ?_); intro W8 hown8 hgrow8)
      | gi_in)
     have hq8 : SetAt wr.heap.size [(j : Int)] W8 := SetAt.put q1 q2 hsz' hhas' hown' (j : Int) (wf_n (by omega)) hown8
     have k8 : ∀ g, g < W7.heap.size → g ≠ wr.heap.size → W8.heap[g]? = W7.heap[g]? := fun g hg hne => hgrow8.block g hg (fun e => by cases e; exact hne rfl)
     have kc : ∀ (g : Nat) (cs : Array Value) (t : TypeId), W7.heap[g]? = some (.cells cs t (0, 0)) → W8.heap[g]? = some (.cells cs t (0, 0)) := fun g cs t hg => zcg hg hgrow8 (fun e => by
      cases e
      obtain ⟨o, ho, hc, _⟩ := SetAt.block (S := []) ⟨q1, q2, D', hown', hsz', hhas'⟩
      rw [hg] at ho
      cases ho
      cases hc)
     go_roundw
     case rel =>
      refine ⟨j + 1, _, bs ++ [wr.heap.size], by go_num, by omega, ⟨by simp [hlen], hnod', hfar', fun q b hq => ?_, own_keep hown7 (fun g cs _ hg => kc g cs _ hg), kc _ _ _ hb7, kc _ _ _ hx7, kc _ _ _ hg7, kc _ _ _ hf7⟩, hwz7.grown hgrow8 hwz7.size (fun k e => by cases e; omega)⟩
      by_cases hq' : q < bs.length
      ·rw [List.getElem?_append_left hq'] at hq
       have h1 := hst q b hq
       exact h1.keep (k8 b h1.lt (fun e => hmn (e ▸ List.mem_of_getElem? hq)))
      ·rw [List.getElem?_append_right (by omega)] at hq
       obtain rfl : q = j := by have := (List.getElem?_eq_some_iff.1 hq).1; simp at this; omega
       rw [hlen, Nat.sub_self] at hq
       cases hq
       rw [if_pos hT]
       exact hq8
     case measure => simp [Go.RowKit.intOf]; omega
    ·gi_wp2
     go_roundw
     case rel =>
      refine ⟨j + 1, _, bs ++ [wr.heap.size], by go_num, by omega, ⟨by simp [hlen], hnod', hfar', fun q b hq => ?_, hown7, hb7, hx7, hg7, hf7⟩, hwz7⟩
      by_cases hq' : q < bs.length
      ·rw [List.getElem?_append_left hq'] at hq
       exact hst q b hq
      ·rw [List.getElem?_append_right (by omega)] at hq
       obtain rfl : q = j := by have := (List.getElem?_eq_some_iff.1 hq).1; simp at this; omega
       rw [hlen, Nat.sub_self] at hq
       cases hq
       rw [if_neg hT]
       exact hm7
     case measure => simp [Go.RowKit.intOf]; omega
   ·obtain rfl : j = N := by omega
    obtain ⟨gr, cap, cur, hv, hgr, hgrh, htk⟩ : ∃ gr cap cur, v = .slice (some ⟨gr, 0, none⟩) j cap ∧ w.heap.size + 1 ≤ gr ∧ wr.heap[gr]? = some (.cells cur 103 (0, 0)) ∧ cur.toList.take (j * 1) = bs.map fun b => Value.map (some b) := by
     rcases hL.own.2 with ⟨_, h0⟩ | ⟨g, cap, cur, h0, h1, h2, _, _, _, h6⟩
     ·omega
     ·exact ⟨g, cap, cur, h0, h1, h2, h6⟩
    subst hv
    obtain ⟨G, hG⟩ : ∃ G : Geo, G = ⟨X, ge, gr, j, n0, n1, ps.length, c0, c1, c2, cap, A0, A1, A2, bs⟩ := ⟨_, rfl⟩
    have hF0 : Fs G em (initV j n0) wr := by
     rw [hG]
     refine ⟨hL.hx, hNe, hN, heml, hL.hg, ⟨cur, hgrh, fun i b hb => ?_⟩, hL.len, initV_len _ _, fun q b S hb hS => ?_⟩
     ·have hi : i < bs.length := (List.getElem?_eq_some_iff.1 hb).1
      have hi' := hL.len
      have : (cur.toList.take (j * 1))[i]? = some (.map (some b)) := by rw [htk, List.getElem?_map, hb]; rfl
      rwa [List.getElem?_take_of_lt (by omega), Array.getElem?_toList] at this
     ·rw [initV_get hS]
      exact hL.sets q b hb
    have hnod : G.bs.Nodup := by rw [hG]; exact hL.nod
    have hGX : G.X = X := by rw [hG]
    have hGN : G.N = j := by rw [hG]
    have hbw : ∀ b ∈ G.bs, w.heap.size ≤ b ∧ b < wr.heap.size := fun b hb => by
     rw [hG] at hb
     obtain ⟨q, hq, e⟩ := List.mem_iff_getElem.1 hb
     exact ⟨by have := hL.far b hb; omega, (hL.sets q b (by rw [List.getElem?_eq_getElem hq, e])).lt⟩
    have l1 : G.X < wr.heap.size := by rw [hG]; exact zav hL.hx
    have l2 : G.ge < wr.heap.size := by rw [hG]; exact zav hL.hg
    have l3 : G.gr < wr.heap.size := by rw [hG]; exact zav hgrh
    have l4 : BX < wr.heap.size := zav hL.hb
    have hgrw := grow_calls 71 #[.pointer (some ⟨BX, 0, none⟩)] (enters_of Tryz.func71 (by kernel_rfl) rfl) w wr A0 A1 A2 n0 n1 c0 c1 c2 ps (· ∈ G.bs) hbw hbz hC
     (fun Ss W => Fs G em Ss W ∧ Boxed W BX 93 (.pointer (some ⟨G.X, 0, none⟩)) ∧ Bd Ss)
     (fun s W W' ht hR => ⟨Fs.low hR.1 l1 l2 l3 (fun b hb => (hbw b hb).2) ht, ht.same _ _ hR.2.1 (by omega) (.inr rfl), hR.2.2⟩) (stepF j em)
     (fun x s W hsz hb hR => by
      have hx := hps _ x.2.2.2
      refine (change_calls G em s BX w W x.p x.1.2.1 x.1.2.2 hR.1 hR.2.2 hR.2.1 (by rw [hGN]; exact hx.1) x.2.1 hx.2 x.2.2.1 hb (fun b hb => (hbw b hb).1)).mono ?_
      rintro e W' ⟨b, e1, rfl, e3, e4⟩
      have hnb : b ∈ G.bs := List.mem_of_getElem? e1
      rw [hGN] at e3 ⊢
      refine ⟨rfl, ⟨Fs.step hR.1 hnod e1 e3 e4, ?_, stepF_bd hR.2.2⟩, e4.mono (Nat.le_refl _) (fun k h => h ▸ hnb)⟩
      refine e4.same _ _ hR.2.1 (fun e' => ?_) (.inr rfl)
      obtain ⟨b', S', q1, q2, q3, _⟩ := hR.1.bm x.p.1.toNat (by have := (List.getElem?_eq_some_iff.1 e1).1; rw [hR.1.bsl] at this; exact this)
      rw [e1] at q1
      cases q1
      obtain ⟨o, ho, hc, _⟩ := q3.block
      have hbx : W.heap[BX]? = _ := hR.2.1
      rw [e', ho] at hbx
      cases hbx
      cases hc) k1 (initV j n0) Ss ⟨hF0, by rw [hGX]; exact hL.hb, initV_bd hN⟩ hSs
    have cf0 : wr.cell? ⟨w.heap.size, 0, none⟩ = some (.slice A0 n0 c0) := zac hL.hf 0
    have cf1 : wr.cell? ⟨w.heap.size, 1, none⟩ = some (.slice A1 n1 c1) := zac hL.hf 1
    have cf2 : wr.cell? ⟨w.heap.size, 2, none⟩ = some (.slice A2 ps.length c2) := zac hL.hf 2
    have hfN : Fence.wide.fn 70 := trivial
    clear hF0 hgrh htk hL hb2 hx2 hg2 hf2 hemp hSs hem
    gi_wp2_with (gi_at_call 70; refine (callsIn_wide.2 hgrw).mono ?_; rintro e W9 ⟨rfl, ⟨hF9, hX9, hBd9⟩, ht9⟩; have cX9 := hX9.cell)
    refine bodyPost_ret (results_tmp rfl _ _ _) rfl ?_
    exact ⟨G, by rw [hGX]; rfl, hGN, hF9, hBd9, zb3 hbz ht9 (Nat.le_refl _) hbz.size (fun k hk => (hbw k hk).1)⟩
 refine wp_qz (zb0 (S := fun X => X.cell? ⟨w.heap.size, 0, none⟩ = some (.slice A0 n0 c0) ∧ X.cell? ⟨w.heap.size, 1, none⟩ = some (.slice A1 n1 c1) ∧ X.cell? ⟨w.heap.size, 2, none⟩ = some (.slice A2 ps.length c2)) (ds := [6]) #[Nf,Nf,Nf,Nf,Nf,Nf,Nf] (by kernel_rfl) rfl rfl hHeld (fun _ => ?_))
 refine take_ (i := 0) (N := some 5) (v := ?_) (a' := ?_) (Ymk 7 1) rfl rfl (by kernel_rfl) (fun _ _ _ h => h) (Or.inl ⟨by rfl, ?_⟩) hHeld ?_ ?_
 rotate_left
 ·rintro w' ⟨s0, s1, s2⟩
  go_simp
  with_reducible rfl
 rotate_left; · simp only [Act.put, Y1, Y2, Y3]; rfl
 refine take_ (i := 1) (N := some 6) (v := ?_) (a' := ?_) (Ymk 7 3) rfl rfl (by kernel_rfl) (fun _ _ _ h => h) (Or.inl ⟨by rfl, ?_⟩) hHeld ?_ ?_
 rotate_left
 ·rintro w' ⟨s0, s1, s2⟩
  go_simp
  with_reducible rfl
 rotate_left; · simp only [Act.put, Y1, Y2, Y3]; rfl
 refine two_ (i := 2) (j := 5) (Ni := some 7) (Nj := some 3) #[Yt,Yt,Yt,Nf,Nf,Nf,Nf] #[Yt,Yt,Nf,Nf,Nf,Yt,Nf] rfl rfl rfl rfl (by kernel_rfl) (by decide) (by decide) (fun K hK => ?_) (fun K hK => ?_)
 ·refine goes_ Tryz.func45 (by kernel_rfl) rfl #[.agg #[.slice A0 n0 c0, .slice A1 n1 c1, .slice A2 ps.length c2]] (by rfl) rfl rfl (by first | rfl | (simp [Act.eval]; done) | (simp [go_sem]; done)) ?_
  refine (hemp _ (Kd.zax hC (zbb hB0))).mono ?_
  rintro e X1 ⟨ge, rfl, heml, hge, hgb, hB1⟩
  refine ⟨_, rfl, ?_⟩
  have hh1 := keep _ _ hB1 hHeld
  refine hK.out _ _ hh1 (fun _ => ?_)
  clear hK K
  refine norm_ (a' := ?_) ?_ ?_
  rotate_left
  ·show Act.put _ (some 7) _ = _
   simp only [Act.put, Y1, Y2, Y3]
   rfl
  refine pure_ (i := 3) (N := some 8) (v := ?_) (a' := ?_) (Ymk 7 15) rfl rfl (by kernel_rfl) (fun _ _ _ h => h) (Or.inl ⟨by rfl, ?_⟩) ?_ ?_
  rotate_left; · intro w'; go_simp; with_reducible rfl
  rotate_left; · simp only [Act.put, Y1, Y2, Y3]; rfl
  refine two_ (i := 4) (j := 5) (Ni := some 9) (Nj := some 3) #[Yt,Yt,Yt,Yt,Yt,Nf,Nf] #[Yt,Yt,Yt,Yt,Nf,Yt,Nf] rfl rfl rfl rfl (by kernel_rfl) (by decide) (by decide) (fun K hK => ?_) (fun K hK => ?_)
  ·refine zb7 (w1 := ?_) (v := ?_) (by rfl) rfl ?_ ?_
   rotate_left 2
   ·go_simp
    constructor
    ·rfl
    ·rfl
   have hh2 := keep X1 (X1.alloc (.cells #[.slice A0 n0 c0, .slice A1 n1 c1, .slice A2 ps.length c2, .slice (some ⟨ge, 0, none⟩) N N, .slice none 0 0] 92)) ((Below.refl _ _).alloc (Nat.le_refl _) _) hh1
   refine hK.out _ _ hh2 (fun _ => ?_)
   clear hK K
   refine norm_ (a' := ?_) ?_ ?_
   rotate_left
   ·show Act.put _ (some 9) _ = _
    simp only [Act.put, Y1, Y2, Y3]
    rfl
   refine one_ (i := 5) (N := some 3) (Ymk 7 63) rfl rfl (by kernel_rfl) (by decide) (fun K hK => ?_)
   refine zb7 (w1 := ?_) (v := ?_) (by rfl) rfl ?_ ?_
   rotate_left 2
   ·go_simp
    constructor
    ·rfl
    ·rfl
   have hh3 := keep (X1.alloc (.cells #[.slice A0 n0 c0, .slice A1 n1 c1, .slice A2 ps.length c2, .slice (some ⟨ge, 0, none⟩) N N, .slice none 0 0] 92)) ((X1.alloc (.cells #[.slice A0 n0 c0, .slice A1 n1 c1, .slice A2 ps.length c2, .slice (some ⟨ge, 0, none⟩) N N, .slice none 0 0] 92)).alloc (.cells #[.pointer none] 93)) ((Below.refl _ _).alloc (Nat.le_refl _) _) hh2
   refine hK.out _ _ hh3 (fun _ => ?_)
   clear hK K
   refine norm_ (a' := ?_) ?_ ?_
   rotate_left
   ·show Act.put _ (some 3) _ = _
    simp only [Act.put, Y1, Y2, Y3]
    rfl
   obtain ⟨Y, hY⟩ : ∃ Y, (X1.alloc (.cells #[.slice A0 n0 c0, .slice A1 n1 c1, .slice A2 ps.length c2, .slice (some ⟨ge, 0, none⟩) N N, .slice none 0 0] 92)).alloc (.cells #[.pointer none] 93) = Y := ⟨_, rfl⟩
   have hwD : w.heap.size < W0.drew.heap.size := by show w.heap.size < W0.heap.size; omega
   have hgl := zav hgb
   have hbY : Boxed ((X1.alloc (.cells #[.slice A0 n0 c0, .slice A1 n1 c1, .slice A2 ps.length c2, .slice (some ⟨ge, 0, none⟩) N N, .slice none 0 0] 92)).alloc (.cells #[.pointer none] 93)) (X1.heap.size + 1) 93 (.pointer none) := by have := Boxed.new (X1.alloc (.cells #[.slice A0 n0 c0, .slice A1 n1 c1, .slice A2 ps.length c2, .slice (some ⟨ge, 0, none⟩) N N, .slice none 0 0] 92)) 93 (.pointer none); simpa using this
   have hxY : ((X1.alloc (.cells #[.slice A0 n0 c0, .slice A1 n1 c1, .slice A2 ps.length c2, .slice (some ⟨ge, 0, none⟩) N N, .slice none 0 0] 92)).alloc (.cells #[.pointer none] 93)).heap[X1.heap.size]? = some (.cells #[.slice A0 n0 c0, .slice A1 n1 c1, .slice A2 ps.length c2, .slice (some ⟨ge, 0, none⟩) N N, .slice none 0 0] 92 (0, 0)) := zai (zbi _ _) _
   have hgY : ((X1.alloc (.cells #[.slice A0 n0 c0, .slice A1 n1 c1, .slice A2 ps.length c2, .slice (some ⟨ge, 0, none⟩) N N, .slice none 0 0] 92)).alloc (.cells #[.pointer none] 93)).heap[ge]? = _ := zai (zai hgb _) _
   have hfY : ((X1.alloc (.cells #[.slice A0 n0 c0, .slice A1 n1 c1, .slice A2 ps.length c2, .slice (some ⟨ge, 0, none⟩) N N, .slice none 0 0] 92)).alloc (.cells #[.pointer none] 93)).heap[w.heap.size]? = _ := zai (zai (zar (zaj f0) hB1) _) _
   have hwY : Below w.heap.size w ((X1.alloc (.cells #[.slice A0 n0 c0, .slice A1 n1 c1, .slice A2 ps.length c2, .slice (some ⟨ge, 0, none⟩) N N, .slice none 0 0] 92)).alloc (.cells #[.pointer none] 93)) := (((zbb hB0).trans (hB1.mono (zbb hB0).size)).alloc (by have := hB1.size; omega) _).alloc (by have := hB1.size; simp; omega) _
   have hz1 := hB1.size
   rw [hY] at hbY hxY hgY hfY hwY
   rw [hY]
   have c1' := hbY.cell
   have c2' := hbY.frozen
   refine last_ (i := 6) (N := none) (Ymk 7 127) rfl rfl (by kernel_rfl) (by decide) (fun K hK => ?_)
   refine skip_ (w1 := Y.setCell ⟨X1.heap.size + 1, 0, none⟩ (.pointer (some ⟨X1.heap.size, 0, none⟩))) (by rfl) rfl ?_ ?_
   ·go_simp
   refine hK.out _ _ ?_
   clear hK K
   refine done_ (by kernel_rfl) ?_
   exact rest _ (X1.heap.size + 1) (X1.heap.size) ge (by first | omega | (simp; done) | (simp; omega)) (by first | omega | (simp; done) | (simp; omega)) (by first | omega | (simp; done) | (simp; omega)) (by first | omega | (simp; done) | (simp; omega)) (by first | omega | (simp; done) | (simp; omega)) (by first | omega | (simp; done) | (simp; omega)) (hbY.set _) (zcp hxY (by first | omega | (simp; done) | (simp; omega)) _) heml (zcp hgY (by first | omega | (simp; done) | (simp; omega)) _) (zcp hfY (by first | omega | (simp; done) | (simp; omega)) _) (hwY.setCell (p := ⟨X1.heap.size + 1, 0, none⟩) (by first | omega | (simp; done) | (simp; omega)) _)
  ·refine zb7 (w1 := ?_) (v := ?_) (by rfl) rfl ?_ ?_
   rotate_left 2
   ·go_simp
    constructor
    ·rfl
    ·rfl
   have hh2 := keep X1 (X1.alloc (.cells #[.pointer none] 93)) ((Below.refl _ _).alloc (Nat.le_refl _) _) hh1
   refine hK.out _ _ hh2 (fun _ => ?_)
   clear hK K
   refine norm_ (a' := ?_) ?_ ?_
   rotate_left
   ·show Act.put _ (some 3) _ = _
    simp only [Act.put, Y1, Y2, Y3]
    rfl
   refine one_ (i := 4) (N := some 9) (Ymk 7 63) rfl rfl (by kernel_rfl) (by decide) (fun K hK => ?_)
   refine zb7 (w1 := ?_) (v := ?_) (by rfl) rfl ?_ ?_
   rotate_left 2
   ·go_simp
    constructor
    ·rfl
    ·rfl
   have hh3 := keep (X1.alloc (.cells #[.pointer none] 93)) ((X1.alloc (.cells #[.pointer none] 93)).alloc (.cells #[.slice A0 n0 c0, .slice A1 n1 c1, .slice A2 ps.length c2, .slice (some ⟨ge, 0, none⟩) N N, .slice none 0 0] 92)) ((Below.refl _ _).alloc (Nat.le_refl _) _) hh2
   refine hK.out _ _ hh3 (fun _ => ?_)
   clear hK K
   refine norm_ (a' := ?_) ?_ ?_
   rotate_left
   ·show Act.put _ (some 9) _ = _
    simp only [Act.put, Y1, Y2, Y3]
    rfl
   obtain ⟨Y, hY⟩ : ∃ Y, (X1.alloc (.cells #[.pointer none] 93)).alloc (.cells #[.slice A0 n0 c0, .slice A1 n1 c1, .slice A2 ps.length c2, .slice (some ⟨ge, 0, none⟩) N N, .slice none 0 0] 92) = Y := ⟨_, rfl⟩
   have hwD : w.heap.size < W0.drew.heap.size := by show w.heap.size < W0.heap.size; omega
   have hgl := zav hgb
   have hbY : Boxed ((X1.alloc (.cells #[.pointer none] 93)).alloc (.cells #[.slice A0 n0 c0, .slice A1 n1 c1, .slice A2 ps.length c2, .slice (some ⟨ge, 0, none⟩) N N, .slice none 0 0] 92)) X1.heap.size 93 (.pointer none) := (Boxed.new _ _ _).alloc _
   have hxY : ((X1.alloc (.cells #[.pointer none] 93)).alloc (.cells #[.slice A0 n0 c0, .slice A1 n1 c1, .slice A2 ps.length c2, .slice (some ⟨ge, 0, none⟩) N N, .slice none 0 0] 92)).heap[X1.heap.size + 1]? = some (.cells #[.slice A0 n0 c0, .slice A1 n1 c1, .slice A2 ps.length c2, .slice (some ⟨ge, 0, none⟩) N N, .slice none 0 0] 92 (0, 0)) := by have := zbi (X1.alloc (.cells #[.pointer none] 93)) (.cells #[.slice A0 n0 c0, .slice A1 n1 c1, .slice A2 ps.length c2, .slice (some ⟨ge, 0, none⟩) N N, .slice none 0 0] 92); simpa using this
   have hgY : ((X1.alloc (.cells #[.pointer none] 93)).alloc (.cells #[.slice A0 n0 c0, .slice A1 n1 c1, .slice A2 ps.length c2, .slice (some ⟨ge, 0, none⟩) N N, .slice none 0 0] 92)).heap[ge]? = _ := zai (zai hgb _) _
   have hfY : ((X1.alloc (.cells #[.pointer none] 93)).alloc (.cells #[.slice A0 n0 c0, .slice A1 n1 c1, .slice A2 ps.length c2, .slice (some ⟨ge, 0, none⟩) N N, .slice none 0 0] 92)).heap[w.heap.size]? = _ := zai (zai (zar (zaj f0) hB1) _) _
   have hwY : Below w.heap.size w ((X1.alloc (.cells #[.pointer none] 93)).alloc (.cells #[.slice A0 n0 c0, .slice A1 n1 c1, .slice A2 ps.length c2, .slice (some ⟨ge, 0, none⟩) N N, .slice none 0 0] 92)) := (((zbb hB0).trans (hB1.mono (zbb hB0).size)).alloc (by have := hB1.size; omega) _).alloc (by have := hB1.size; simp; omega) _
   have hz1 := hB1.size
   rw [hY] at hbY hxY hgY hfY hwY
   rw [hY]
   have c1' := hbY.cell
   have c2' := hbY.frozen
   refine last_ (i := 6) (N := none) (Ymk 7 127) rfl rfl (by kernel_rfl) (by decide) (fun K hK => ?_)
   refine skip_ (w1 := Y.setCell ⟨X1.heap.size, 0, none⟩ (.pointer (some ⟨X1.heap.size + 1, 0, none⟩))) (by rfl) rfl ?_ ?_
   ·go_simp
   refine hK.out _ _ ?_
   clear hK K
   refine done_ (by kernel_rfl) ?_
   exact rest _ (X1.heap.size) (X1.heap.size + 1) ge (by first | omega | (simp; done) | (simp; omega)) (by first | omega | (simp; done) | (simp; omega)) (by first | omega | (simp; done) | (simp; omega)) (by first | omega | (simp; done) | (simp; omega)) (by first | omega | (simp; done) | (simp; omega)) (by first | omega | (simp; done) | (simp; omega)) (hbY.set _) (zcp hxY (by first | omega | (simp; done) | (simp; omega)) _) heml (zcp hgY (by first | omega | (simp; done) | (simp; omega)) _) (zcp hfY (by first | omega | (simp; done) | (simp; omega)) _) (hwY.setCell (p := ⟨X1.heap.size, 0, none⟩) (by first | omega | (simp; done) | (simp; omega)) _)
 ·refine zb7 (w1 := ?_) (v := ?_) (by rfl) rfl ?_ ?_
  rotate_left 2
  ·go_simp
   constructor
   ·rfl
   ·rfl
  have hh0 := keep W0.drew (W0.drew.alloc (.cells #[.pointer none] 93)) ((Below.refl _ _).alloc (Nat.le_refl _) _) hHeld
  refine hK.out _ _ hh0 (fun _ => ?_)
  clear hK K
  refine norm_ (a' := ?_) ?_ ?_
  rotate_left
  ·show Act.put _ (some 3) _ = _
   simp only [Act.put, Y1, Y2, Y3]
   rfl
  refine one_ (i := 2) (N := some 7) (Ymk 7 39) rfl rfl (by kernel_rfl) (by decide) (fun K hK => ?_)
  refine goes_ Tryz.func45 (by kernel_rfl) rfl #[.agg #[.slice A0 n0 c0, .slice A1 n1 c1, .slice A2 ps.length c2]] (by rfl) rfl rfl (by first | rfl | (simp [Act.eval]; done) | (simp [go_sem]; done)) ?_
  refine (hemp _ (Kd.zax hC ((zbb hB0).alloc (zbb hB0).size _))).mono ?_
  rintro e X1 ⟨ge, rfl, heml, hge, hgb, hB1⟩
  refine ⟨_, rfl, ?_⟩
  have hh1 := keep _ _ hB1 hh0
  refine hK.out _ _ hh1 (fun _ => ?_)
  clear hK K
  refine norm_ (a' := ?_) ?_ ?_
  rotate_left
  ·show Act.put _ (some 7) _ = _
   simp only [Act.put, Y1, Y2, Y3]
   rfl
  refine pure_ (i := 3) (N := some 8) (v := ?_) (a' := ?_) (Ymk 7 47) rfl rfl (by kernel_rfl) (fun _ _ _ h => h) (Or.inl ⟨by rfl, ?_⟩) ?_ ?_
  rotate_left; · intro w'; go_simp; with_reducible rfl
  rotate_left; · simp only [Act.put, Y1, Y2, Y3]; rfl
  refine one_ (i := 4) (N := some 9) (Ymk 7 63) rfl rfl (by kernel_rfl) (by decide) (fun K hK => ?_)
  refine zb7 (w1 := ?_) (v := ?_) (by rfl) rfl ?_ ?_
  rotate_left 2
  ·go_simp
   constructor
   ·rfl
   ·rfl
  have hh3 := keep X1 (X1.alloc (.cells #[.slice A0 n0 c0, .slice A1 n1 c1, .slice A2 ps.length c2, .slice (some ⟨ge, 0, none⟩) N N, .slice none 0 0] 92)) ((Below.refl _ _).alloc (Nat.le_refl _) _) hh1
  refine hK.out _ _ hh3 (fun _ => ?_)
  clear hK K
  refine norm_ (a' := ?_) ?_ ?_
  rotate_left
  ·show Act.put _ (some 9) _ = _
   simp only [Act.put, Y1, Y2, Y3]
   rfl
  obtain ⟨Y, hY⟩ : ∃ Y, X1.alloc (.cells #[.slice A0 n0 c0, .slice A1 n1 c1, .slice A2 ps.length c2, .slice (some ⟨ge, 0, none⟩) N N, .slice none 0 0] 92) = Y := ⟨_, rfl⟩
  have hwD : w.heap.size < W0.drew.heap.size := by show w.heap.size < W0.heap.size; omega
  have hgl := zav hgb
  have hz0 : (W0.drew.alloc (.cells #[.pointer none] 93)).heap.size = W0.drew.heap.size + 1 := by simp
  have hbY : Boxed (X1.alloc (.cells #[.slice A0 n0 c0, .slice A1 n1 c1, .slice A2 ps.length c2, .slice (some ⟨ge, 0, none⟩) N N, .slice none 0 0] 92)) (w.heap.size + 1) 93 (.pointer none) := by have e : W0.drew.heap.size = w.heap.size + 1 := sz0; rw [← e]; exact zai (zar (Boxed.new _ _ _) hB1) _
  have hxY : (X1.alloc (.cells #[.slice A0 n0 c0, .slice A1 n1 c1, .slice A2 ps.length c2, .slice (some ⟨ge, 0, none⟩) N N, .slice none 0 0] 92)).heap[X1.heap.size]? = some (.cells #[.slice A0 n0 c0, .slice A1 n1 c1, .slice A2 ps.length c2, .slice (some ⟨ge, 0, none⟩) N N, .slice none 0 0] 92 (0, 0)) := zbi _ _
  have hgY : (X1.alloc (.cells #[.slice A0 n0 c0, .slice A1 n1 c1, .slice A2 ps.length c2, .slice (some ⟨ge, 0, none⟩) N N, .slice none 0 0] 92)).heap[ge]? = _ := zai hgb _
  have hfY : (X1.alloc (.cells #[.slice A0 n0 c0, .slice A1 n1 c1, .slice A2 ps.length c2, .slice (some ⟨ge, 0, none⟩) N N, .slice none 0 0] 92)).heap[w.heap.size]? = _ := zai (zar (zai (zaj f0) _) hB1) _
  have hwY : Below w.heap.size w (X1.alloc (.cells #[.slice A0 n0 c0, .slice A1 n1 c1, .slice A2 ps.length c2, .slice (some ⟨ge, 0, none⟩) N N, .slice none 0 0] 92)) := (((zbb hB0).alloc (zbb hB0).size _).trans (hB1.mono ((zbb hB0).alloc (zbb hB0).size _).size)).alloc (by have := hB1.size; omega) _
  have hz1 := hB1.size
  have hz2 : W0.drew.heap.size = w.heap.size + 1 := sz0
  rw [hY] at hbY hxY hgY hfY hwY
  rw [hY]
  have c1' := hbY.cell
  have c2' := hbY.frozen
  refine last_ (i := 6) (N := none) (Ymk 7 127) rfl rfl (by kernel_rfl) (by decide) (fun K hK => ?_)
  refine skip_ (w1 := Y.setCell ⟨w.heap.size + 1, 0, none⟩ (.pointer (some ⟨X1.heap.size, 0, none⟩))) (by rfl) rfl ?_ ?_
  ·go_simp
  refine hK.out _ _ ?_
  clear hK K
  refine done_ (by kernel_rfl) ?_
  exact rest _ (w.heap.size + 1) (X1.heap.size) ge (by first | omega | (simp; done) | (simp; omega)) (by first | omega | (simp; done) | (simp; omega)) (by first | omega | (simp; done) | (simp; omega)) (by first | omega | (simp; done) | (simp; omega)) (by first | omega | (simp; done) | (simp; omega)) (by first | omega | (simp; done) | (simp; omega)) (hbY.set _) (zcp hxY (by first | omega | (simp; done) | (simp; omega)) _) heml (zcp hgY (by first | omega | (simp; done) | (simp; omega)) _) (zcp hfY (by first | omega | (simp; done) | (simp; omega)) _) (hwY.setCell (p := ⟨w.heap.size + 1, 0, none⟩) (by first | omega | (simp; done) | (simp; omega)) _)
end Go.Proofs.YtgdmjpehofdnpaaGreat.Begun
end
section
namespace Go.Proofs
open Go.Shelf
def Tryz.YtgdmjpehofdnpaaGreatsortI_ren : Go.Shelf.Ren := ⟨fun | 189 => 84 | 125 => 82 | 257 => 102 | 128 => 100 | 129 => 101 | 294 => 109 | 295 => 110 | 296 => 111 | 297 => 112 | 298 => 113 | 299 => 114 | 216 => 115 | 300 => 116 | 301 => 117 | 328 => 119 | 329 => 105 | 330 => 106 | 331 => 120 | 332 => 121 | 215 => 83 | 343 => 122 | n => n, fun | 28 => 35 | 3 => 3 | 46 => 116 | 0 => 0 | 51 => 131 | 53 => 38 | 4 => 4 | 183 => 125 | 182 => 124 | 131 => 51 | 5 => 5 | 9 => 9 | 218 => 134 | 222 => 138 | 228 => 146 | 229 => 147 | n => n, fun | n => n⟩
theorem Tryz.YtgdmjpehofdnpaaGreatsortI : Go.Proofs.Lays.n189 Tryz.prog Tryz.YtgdmjpehofdnpaaGreatsortI_ren := {
 mixed := by kernel_rfl
 f125 := Tryz.func82.trans (congrArg some (by kernel_rfl))
 f128 := Tryz.func100.trans (congrArg some (by kernel_rfl))
 f129 := Tryz.func101.trans (congrArg some (by kernel_rfl))
 f189 := Tryz.func84.trans (congrArg some (by kernel_rfl))
 f215 := Tryz.func83.trans (congrArg some (by kernel_rfl))
 f216 := Tryz.func115.trans (congrArg some (by kernel_rfl))
 f257 := Tryz.func102.trans (congrArg some (by kernel_rfl))
 f294 := Tryz.func109.trans (congrArg some (by kernel_rfl))
 f295 := Tryz.func110.trans (congrArg some (by kernel_rfl))
 f296 := Tryz.func111.trans (congrArg some (by kernel_rfl))
 f297 := Tryz.func112.trans (congrArg some (by kernel_rfl))
 f298 := Tryz.func113.trans (congrArg some (by kernel_rfl))
 f299 := Tryz.func114.trans (congrArg some (by kernel_rfl))
 f300 := Tryz.func116.trans (congrArg some (by kernel_rfl))
 f301 := Tryz.func117.trans (congrArg some (by kernel_rfl))
 f328 := Tryz.func119.trans (congrArg some (by kernel_rfl))
 f329 := Tryz.func105.trans (congrArg some (by kernel_rfl))
 f330 := Tryz.func106.trans (congrArg some (by kernel_rfl))
 f331 := Tryz.func120.trans (congrArg some (by kernel_rfl))
 f332 := Tryz.func121.trans (congrArg some (by kernel_rfl))
 f343 := Tryz.func122.trans (congrArg some (by kernel_rfl))
 t0 := Tryz.underlying0
 a0 := Tryz.isAgg0
 z0 := Tryz.sizeOf0
 v0 := Tryz.zeroValue0
 t3 := Tryz.underlying3
 a3 := Tryz.isAgg3
 z3 := Tryz.sizeOf3
 v3 := Tryz.zeroValue3
 t4 := Tryz.underlying4
 a4 := Tryz.isAgg4
 z4 := Tryz.sizeOf4
 v4 := Tryz.zeroValue4
 t5 := Tryz.underlying5
 a5 := Tryz.isAgg5
 z5 := Tryz.sizeOf5
 v5 := Tryz.zeroValue5
 t9 := Tryz.underlying9
 a9 := Tryz.isAgg9
 z9 := Tryz.sizeOf9
 v9 := Tryz.zeroValue9
 t28 := Tryz.underlying35
 a28 := Tryz.isAgg35
 z28 := Tryz.sizeOf35
 v28 := Tryz.zeroValue35
 t46 := Tryz.underlying116
 a46 := Tryz.isAgg116
 z46 := Tryz.sizeOf116
 v46 := Tryz.zeroValue116
 t51 := Tryz.underlying131
 a51 := Tryz.isAgg131
 z51 := Tryz.sizeOf131
 v51 := Tryz.zeroValue131
 t53 := Tryz.underlying38
 a53 := Tryz.isAgg38
 z53 := Tryz.sizeOf38
 v53 := Tryz.zeroValue38
 t131 := Tryz.underlying51
 a131 := Tryz.isAgg51
 z131 := Tryz.sizeOf51
 v131 := Tryz.zeroValue51
 t182 := Tryz.underlying124
 a182 := Tryz.isAgg124
 z182 := Tryz.sizeOf124
 v182 := Tryz.zeroValue124
 t183 := Tryz.underlying125
 a183 := Tryz.isAgg125
 z183 := Tryz.sizeOf125
 v183 := Tryz.zeroValue125
 t218 := Tryz.underlying134
 a218 := Tryz.isAgg134
 z218 := Tryz.sizeOf134
 v218 := Tryz.zeroValue134
 t222 := Tryz.underlying138
 a222 := Tryz.isAgg138
 z222 := Tryz.sizeOf138
 v222 := Tryz.zeroValue138
 t228 := Tryz.underlying146
 a228 := Tryz.isAgg146
 z228 := Tryz.sizeOf146
 v228 := Tryz.zeroValue146
 t229 := Tryz.underlying147
 a229 := Tryz.isAgg147
 z229 := Tryz.sizeOf147
 v229 := Tryz.zeroValue147 }
end Go.Proofs
end
section
namespace Go.Proofs.YtgdmjpehofdnpaaGreat.Srt
open Go Go.RowKit Go.Shelf Go.Maps Go.Sort Go.Proofs.YtgdmjpehofdnpaaGreatW.PrintWords Go.Proofs.YtgdmjpehofdnpaaGreatW.PrintLast Go.Proofs.YtgdmjpehofdnpaaGreat.Round Go.Proofs.YtgdmjpehofdnpaaGreat.RangeG Go.Proofs.YtgdmjpehofdnpaaGreat.RangeH Go.Proofs.YtgdmjpehofdnpaaGreat.Fl Go.Proofs.YtgdmjpehofdnpaaGreat.Grow Go.Proofs.YtgdmjpehofdnpaaGreat.Seqs Go.Proofs.YtgdmjpehofdnpaaGreat.MSet Go.Proofs.YtgdmjpehofdnpaaGreat.Ahd
attribute [local go_sem] Oper.semAt_some
set_option linter.unusedVariables false
set_option linter.unusedSimpArgs false
def nums (l : List Int) : List Value := l.map (Value.int .i64)
def sorted (l : List Int) : List Int := l.mergeSort fun x y => decide (x ≤ y)
theorem sort_own (base : Nat) (v : Value) (l : List Int) (w : World) (h : w.ownsRow base TI 1 v l.length (nums l)) (hl : l.length < 4611686018427387904) :
  Calls Tryz.prog 84 #[v] w fun e w' => e = .returned (.tuple #[]) ∧ w'.ownsRow base TI 1 v l.length (nums (sorted l)) ∧ w.grownBy w' v.ownBlock := by
 have hsl : (sorted l).length = l.length := List.length_mergeSort l
 have hnil : l = [] → ∀ p c, v = .slice p 0 c → Calls Tryz.prog 84 #[v] w fun e w' => e = .returned (.tuple #[]) ∧ w'.ownsRow base TI 1 v l.length (nums (sorted l)) ∧ w.grownBy w' v.ownBlock := by
  intro hl0 p c hv
  subst hl0
  have hc := Any.slices_Sort_int_none Tryz.YtgdmjpehofdnpaaGreatsortI p c w
  rw [hv] at h ⊢
  refine hc.mono ?_
  rintro e w' ⟨rfl, rfl⟩
  exact ⟨rfl, by simpa [sorted, nums] using h, rfl, rfl, rfl, Nat.le_refl _, fun _ _ _ => rfl⟩
 rcases h.2 with ⟨hv, hn⟩ | ⟨g, cap, cur, hv, hg, hh, hcap, hmax, hsz, htk⟩
 ·exact hnil (List.eq_nil_of_length_eq_zero hn) _ _ hv
 ·by_cases hl0 : l = []
  ·refine hnil hl0 (some ⟨g, 0, none⟩) cap ?_
   rw [hv, hl0]
   rfl
  ·have hH := holds_of_blockI (ss := l) hh (by simpa [nums] using htk)
   have hc := Any.slices_Sort_int Tryz.YtgdmjpehofdnpaaGreatsortI g 0 cap l w hH (zav hh) hl
   rw [hv]
   refine hc.mono ?_
   rintro e w' ⟨rfl, n, os, rfl⟩
   exact ⟨rfl, ownsRow_sortedI (ss := l) (ts := sorted l) hsl hg hh hcap hmax hsz, grownBy_sortedI _⟩
end Go.Proofs.YtgdmjpehofdnpaaGreat.Srt
end
section
namespace Go.Proofs.YtgdmjpehofdnpaaGreat.Sorts
open Go Go.RowKit Go.Shelf Go.Maps Go.Sort Go.Proofs.YtgdmjpehofdnpaaGreatW.PrintWords Go.Proofs.YtgdmjpehofdnpaaGreatW.PrintLast Go.Proofs.YtgdmjpehofdnpaaGreat.Round Go.Proofs.YtgdmjpehofdnpaaGreat.RangeG Go.Proofs.YtgdmjpehofdnpaaGreat.RangeH Go.Proofs.YtgdmjpehofdnpaaGreat.Fl Go.Proofs.YtgdmjpehofdnpaaGreat.Grow Go.Proofs.YtgdmjpehofdnpaaGreat.Deri Go.Proofs.YtgdmjpehofdnpaaGreat.Seqs Go.Proofs.YtgdmjpehofdnpaaGreat.MSet Go.Proofs.YtgdmjpehofdnpaaGreat.Ahd Go.Proofs.YtgdmjpehofdnpaaGreat.Begin Go.Proofs.YtgdmjpehofdnpaaGreat.Begun Go.Proofs.YtgdmjpehofdnpaaGreat.Srt
attribute [local go_sem] Oper.semAt_some
set_option linter.unusedVariables false
set_option linter.unusedSimpArgs false
theorem ints_nums (xs : List I64) : ints xs = Srt.nums (vals xs) := by
 simp only [ints, Srt.nums, vals, List.map_map]
 rfl
set_option maxRecDepth 100000 in
set_option maxHeartbeats 4000000 in
theorem sortedf_calls (gf : Nat) (lb : Array Value) (heg : ∀ args w, (callFunc gf args).run Tryz.prog w = .ok (.enter gf args) w) (w : World)
  (S Sp : List I64 → Prop) (N : Nat) (hN : N ≤ 1000000000000) (hseq : SeqH 2 Tryz.prog gf lb encX (KeepH w.heap.size) S Sp N w) :
  Calls Tryz.prog 68 #[.func (.func gf) #[] lb] w fun e w' => ∃ v xs, e = .returned v ∧ S xs ∧ xs.length ≤ N ∧ w'.ownsRow w.heap.size TI 1 v (Srt.sorted (vals xs)).length (Srt.nums (Srt.sorted (vals xs))) ∧ Below w.heap.size w w' := by
 have hc := collect_calls gf lb heg w S Sp N hN hseq
 go_enter Tryz.func68, Tryz.ntmps68
 go_wp2_with (first
  | (go_at_call 74; refine hc.mono ?_; rintro e w1 ⟨v, xs, rfl, h1, h2, h3, h4⟩; have hl : (vals xs).length = xs.length := by { simp [vals] }; have hs := sort_own w.heap.size v (vals xs) w1 (by rw [hl, ← ints_nums]; exact h3) (by omega))
  | (go_at_call 84; refine hs.mono ?_; rintro e w2 ⟨rfl, h5, h6⟩))
 go_ret
 have hsl : (Srt.sorted (vals xs)).length = (vals xs).length := List.length_mergeSort _
 refine ⟨v, xs, rfl, h1, h2, by rw [hsl]; exact h5, h4.grown h6 h4.size (fun k hk => own_base h3 k hk)⟩
theorem sorted_eq {xs : List I64} {S : List Int} (h1 : (vals xs).Nodup) (h2 : ∀ x, x ∈ vals xs ↔ x ∈ S) (hS : Rises S) : Srt.sorted (vals xs) = S := by
 have hp : (Srt.sorted (vals xs)).Perm (vals xs) := List.mergeSort_perm _ _
 have hs : (Srt.sorted (vals xs)).Pairwise fun x y => decide (x ≤ y) = true := List.pairwise_mergeSort (by intro a b c h1 h2; simp at *; omega) (by intro a b; simp; omega) _
 have hn : (Srt.sorted (vals xs)).Nodup := hp.nodup_iff.2 h1
 refine rises_one ?_ hS (fun x => by rw [hp.mem_iff, h2])
 refine (hs.and hn).imp ?_
 rintro a b ⟨h, h'⟩
 simp at h
 omega
theorem own_R {w : World} {base : Nat} {v : Value} {l : List Int} (h : w.ownsRow base TI 1 v l.length (Srt.nums l)) : Kd.R (Kd.int .i64) TI w base (fun _ => True) v l := by
 refine Kd.R_of_own (enc := Value.int .i64) (h1 := fun _ => rfl) ?_ (fun _ _ => trivial)
 exact h
theorem infoL : (Tryz.prog.info? 35).map (fun i => (i.zero, i.size, i.bytes)) = some (some (.slice none 0 0), 1, 24) := by kernel_rfl
set_option maxRecDepth 100000 in
set_option maxHeartbeats 4000000 in
theorem sorts_calls (gr cr N : Nat) (cs : Array Value) (bs : List Nat) (Ss : List (List Int)) (w : World) (hN : N ≤ 1000000) (hr : w.heap[gr]? = some (.cells cs 103 (0, 0))) (hc : ∀ (i : Nat) b, bs[i]? = some b → cs[i]? = some (.map (some b))) (hbl : bs.length = N) (hsl : Ss.length = N)
  (hS : ∀ (i : Nat) b S, bs[i]? = some b → Ss[i]? = some S → SetAt b S w) (hlen : ∀ S ∈ Ss, S.length ≤ 1000000) :
  Calls Tryz.prog 56 #[.slice (some ⟨gr, 0, none⟩) N cr] w fun e w' => ∃ v, e = .returned v ∧ Kd.R (Kd.slice TI (Kd.int .i64)) 35 w' w.heap.size (fun _ => True) v Ss ∧ Below w.heap.size w w' := by
 go_enter Tryz.func56, Tryz.ntmps56
 go_wp2
 go_loopw [8, 3] (fun i o wr => ∃ j : Nat, i = .int .i64 j ∧ j ≤ N ∧ Kd.R (Kd.slice TI (Kd.int .i64)) 35 wr w.heap.size (fun _ => True) o (Ss.take j) ∧ Below w.heap.size w wr) (fun i _ _ => N - (Go.RowKit.intOf i).toNat)
 case atStart => exact ⟨0, rfl, Nat.zero_le _, Kd.R_nil _ _ _ _ _, Below.refl _ _⟩
 case round =>
  obtain ⟨j, rfl, hj, hR, hb⟩ := hrel
  by_cases hlt : j < N
  ·obtain ⟨b, hbj⟩ : ∃ b, bs[j]? = some b := ⟨bs[j]'(by omega), List.getElem?_eq_getElem _⟩
   obtain ⟨S, hSj⟩ : ∃ S, Ss[j]? = some S := ⟨Ss[j]'(by omega), List.getElem?_eq_getElem _⟩
   have hSA := (hS j b S hbj hSj).keep (hb.block b (hS j b S hbj hSj).lt)
   have hgr := zav hr
   have cj : wr.cell? ⟨gr, j, none⟩ = some (.map (some b)) := (zac ((hb.block gr hgr).trans hr) j).trans (hc j b hbj)
   have hk := keys_calls (some b) wr
   have hsz := hb.size
   have hSl := hlen S (List.mem_of_getElem? hSj)
   have hkeys : ∃ W1, wr.alloc (.cells #[.map (some b)] 103) = W1 := ⟨_, rfl⟩
   obtain ⟨W1, hW1⟩ := hkeys
   have hb1 : Below wr.heap.size wr W1 := by rw [← hW1]; exact (Below.refl _ _).alloc (Nat.le_refl _) _
   have hB1 : W1.heap[wr.heap.size]? = some (.cells #[.map (some b)] 103 (0, 0)) := by rw [← hW1]; exact zbi _ _
   have hs := sortedf_calls 85 #[.pointer (some ⟨wr.heap.size, 0, none⟩)] (enters_of Tryz.func85 (by kernel_rfl) rfl) W1 _ _ S.length (by omega)
    (SeqH.of (Kq := KeepH W1.heap.size) (keys_stops 2 wr.heap.size b (by omega) S W1.heap.size [] W1 (by have := hSA.lt; have := hb1.size; omega) (hSA.keep (hb1.block b hSA.lt)) hB1) (fun l A B h => h.1) (fun xs h => h) (fun _ h => h))
   go_wp2_with (first
    | (go_at_call 69; refine hk.mono ?_; rintro e w1 ⟨rfl, rfl⟩; rw [hW1])
    | (go_at_call 68; refine hs.mono ?_; rintro e W2 ⟨v2, xs, rfl, ⟨h1, h2⟩, h3, h4, h5⟩; rw [sorted_eq h1 h2 hSA.1] at h4; have R2 := own_R h4; obtain ⟨A2, c2, rfl⟩ := Kd.zbt R2)
    | (at_builtin; go_loud (refine Kd.R_append (Kd.slice TI (Kd.int .i64)) (w0 := w) w.heap.size rfl (.tmp 12) (.tmp 16) 68 35 (.slice none 0 0) 24 rfl Tryz.underlying68 infoL rfl (by decide) (by omega) u3 (Ss.take j) S [.slice A2 S.length c2] (fun _ => True) (fun k => True ∧ some k ≠ u3.ownBlock) rfl rfl ?aP (fun _ h => h) (fun _ _ => trivial) ?aO ?aB ?aS ?aL ?_); rotate_right; intro v1 W3 R3 hB3 hg3 _))
   case aP => exact ⟨_, rfl, Kd.zb1 (Kd.R_new' (u := u3) R2 (fun k hk => by have := Kd.R_lt hR k hk; have := hb1.size; omega)) (by have := hb1.size; omega)⟩
   case aO => exact Kd.zbq hR (hb1.trans (h5.mono hb1.size))
   case aB => exact hb.trans ((hb1.trans (h5.mono hb1.size)).mono hb.size)
   case aS => have := hb1.size; have := h5.size; omega
   case aL => have := List.length_take_le j Ss; omega
   go_roundw
   case rel => exact ⟨j + 1, by go_num, by omega, by rw [List.take_add_one, hSj]; exact R3, hB3⟩
   case measure => simp [Go.RowKit.intOf]; omega
  ·obtain rfl : j = N := by omega
   go_wp2;go_ret
   exact ⟨_, rfl, by rw [List.take_of_length_le (by omega)] at hR; exact hR, hb⟩
set_option maxRecDepth 100000 in
set_option maxHeartbeats 4000000 in
theorem first_calls (w : World) (A0 A1 A2 : Option Addr) (n0 n1 c0 c1 c2 N : Nat) (hNe : n0 + n1 = N) (hN1 : 1 ≤ N) (ps : List P) (hC : Kd.C kP w A2 ps.length ps) (hN : N ≤ 1000000) (hps : ∀ p ∈ ps, PrOk N p ∧ p.2.1.length ≤ 1000) (k0 : Nat) (em : List Bool) (hem : growV stepD ps k0 (List.replicate N false) = some em) (k1 : Nat) (Ss : List (List Int)) (hSs : growV (stepF N em) ps k1 (initV N n0) = some Ss) :
  Calls Tryz.prog 44 #[.agg #[.slice A0 n0 c0, .slice A1 n1 c1, .slice A2 ps.length c2]] w fun e w' => ∃ v, e = .returned v ∧ Kd.R (Kd.slice TI (Kd.int .i64)) 35 w' w.heap.size (fun _ => True) v Ss ∧ Below w.heap.size w w' := by
 obtain ⟨W0, hW0⟩ : ∃ W0, w.alloc (.cells #[.slice A0 n0 c0, .slice A1 n1 c1, .slice A2 ps.length c2] TF) = W0 := ⟨_, rfl⟩
 have hB0 : Below w.heap.size w W0 := by rw [← hW0]; exact (Below.refl _ _).alloc (Nat.le_refl _) _
 have f0 : W0.heap[w.heap.size]? = some (.cells #[.slice A0 n0 c0, .slice A1 n1 c1, .slice A2 ps.length c2] TF (0, 0)) := by rw [← hW0]; exact zbi w _
 have cf0 : W0.cell? ⟨w.heap.size, 0, none⟩ = some (.slice A0 n0 c0) := zac f0 0
 have cf1 : W0.cell? ⟨w.heap.size, 1, none⟩ = some (.slice A1 n1 c1) := zac f0 1
 have cf2 : W0.cell? ⟨w.heap.size, 2, none⟩ = some (.slice A2 ps.length c2) := zac f0 2
 have hbg := begin_calls W0 A0 A1 A2 n0 n1 c0 c1 c2 N hNe hN1 ps (Kd.zax hC hB0) hN hps k0 k0 em hem k1 Ss hSs
 clear hSs hem f0 hps hC
 go_enter Tryz.func44, Tryz.ntmps44
 go_wp2_with (first
  | (go_at_call 57; refine hbg.mono ?_; rintro e W1 ⟨G, rfl, hGN, hF, hBd, hB1⟩; have cX : W1.cell? ⟨G.X, 4, none⟩ = some (.slice (some ⟨G.gr, 0, none⟩) G.N G.cr) := zac hF.blk 4; obtain ⟨rcs, r1, r2⟩ := hF.row; have hs := sorts_calls G.gr G.cr G.N rcs G.bs Ss W1 hF.few r1 r2 hF.bsl hF.ssl hF.sets (bd_len hBd (fs_rises hF)); rw [hGN] at hs cX; clear hF r1 r2 hBd hbg)
  | (go_at_call 56; refine hs.mono ?_; rintro e W2 ⟨v2, rfl, R2, hB2⟩))
 go_ret
 have hB01 := hB0.trans (hB1.mono hB0.size)
 exact ⟨_, rfl, Kd.zb1 R2 hB01.size, hB01.trans (hB2.mono hB01.size)⟩
end Go.Proofs.YtgdmjpehofdnpaaGreat.Sorts
end
section
namespace Go.Proofs.YtgdmjpehofdnpaaGreat.PNext
open Go.RowKit Go.Proofs.YtgdmjpehofdnpaaGreatW.PrintWords Go.Proofs.YtgdmjpehofdnpaaGreatW.PrintLast Go.Proofs.YtgdmjpehofdnpaaGreatW.PrintMore
attribute [local go_sem] zcb zcc zcj zci zb6 zb4 zcf zce
set_option linter.unusedVariables false
set_option linter.unusedSimpArgs false
def errW : Option Int → Value
 | none => .nilIface
 | some c => .iface 0 (.int .i64 c)
theorem za2 : errW none = .nilIface := rfl
theorem za3 (c : Int) : errW (some c) = .iface 0 (.int .i64 c) := rfl
theorem info44 : (Tryz.prog.info? 44).map (fun i => (i.zero, i.size, i.bytes)) = some (some (.agg #[(.int .i64 0), (.string ⟨#[]⟩), (.string ⟨#[]⟩)]), 3, 40) := by kernel_rfl
structure S44 where
 f0 : Int
 f1 : ByteArray
 f2 : ByteArray
def z44 : S44 := ⟨(0 : Int), (⟨#[]⟩ : ByteArray), (⟨#[]⟩ : ByteArray)⟩
def k44 : Kd S44 := Kd.iso (Kd.pair (Kd.int .i64) (Kd.pair Kd.string Kd.string)) (fun x : S44 => (x.f0, x.f1, x.f2))
theorem k44_heap : Kd.Heap k44 := Kd.heap_iso _ (Kd.heap_pair (Kd.heap_int .i64) (Kd.heap_pair Kd.heap_string Kd.heap_string))
theorem k44_open {w : World} {x : S44} {cs : List Value} (h : k44.K w x cs) : cs = [.int .i64 x.f0, .string x.f1, .string x.f2] := by
 obtain ⟨_, _, rfl, rfl, ⟨_, _, rfl, rfl, rfl⟩⟩ := h
 exact rfl
theorem k44_mkM (w : World) (base : Nat) (ok : Nat → Prop) (x : S44)  : k44.M w base ok x [.int .i64 x.f0, .string x.f1, .string x.f2] := ⟨[.int .i64 x.f0], [.string x.f1, .string x.f2], rfl, rfl, ⟨[.string x.f1], [.string x.f2], rfl, rfl, rfl⟩⟩
def zba (xs : List S44) (i : Int) : S44 := xs.getD i.toNat z44
theorem at_T44 {w : World} {A : Option Addr} {n : Nat} {xs : List S44} (h : Kd.C k44 w A n xs) (i : Int) (h0 : 0 ≤ i) (h1 : i < n) : ∃ ad , A = some ad ∧ w.cell? (ad.add (i.toNat * 3)) = some (.int .i64 (zba xs i).f0) ∧ w.cell? ⟨(ad.add (i.toNat * 3)).block, (ad.add (i.toNat * 3)).off + 1, none⟩ = some (.string (zba xs i).f1) ∧ w.cell? ⟨(ad.add (i.toNat * 3)).block, (ad.add (i.toNat * 3)).off + 2, none⟩ = some (.string (zba xs i).f2) := by
 obtain ⟨ad, c, e, _, hK, hc0⟩ := Kd.C_get h z44 i h0 h1
 have hc : ∀ j u, c[j]? = some u → w.cell? (ad.add (i.toNat * 3 + j)) = some u := hc0
 obtain rfl := k44_open hK
 exact ⟨ad, e, hc 0 _ rfl, by rw [← zbs _ _ 1 (by omega)]; exact hc 1 _ rfl, by rw [← zbs _ _ 2 (by omega)]; exact hc 2 _ rfl⟩
structure S42 where
 f0 : Int
 f1 : (List S44)
 f2 : Int
def z42 : S42 := ⟨(0 : Int), ([] : List S44), (0 : Int)⟩
def k42 : Kd S42 := Kd.iso (Kd.pair (Kd.int .i64) (Kd.pair (Kd.slice 44 k44) (Kd.int .i64))) (fun x : S42 => (x.f0, x.f1, x.f2))
theorem k42_heap : Kd.Heap k42 := Kd.heap_iso _ (Kd.heap_pair (Kd.heap_int .i64) (Kd.heap_pair (Kd.heap_slice 44 k44_heap) (Kd.heap_int .i64)))
theorem k42_open {w : World} {x : S42} {cs : List Value} (h : k42.K w x cs) : ∃ A1 c1, cs = [.int .i64 x.f0, .slice A1 x.f1.length c1, .int .i64 x.f2] ∧ x.f1.length ≤ c1 ∧ k44.C w A1 x.f1.length x.f1 := by
 obtain ⟨_, _, rfl, rfl, ⟨_, _, rfl, ⟨A1, c1, rfl, l1, g1⟩, rfl⟩⟩ := h
 exact ⟨A1, c1, rfl, l1, g1⟩
theorem k42_mk (w : World) (x : S42) {A1 : Option Addr} {c1 : Nat} (l1 : x.f1.length ≤ c1) (g1 : k44.C w A1 x.f1.length x.f1) : k42.K w x [.int .i64 x.f0, .slice A1 x.f1.length c1, .int .i64 x.f2] := ⟨[.int .i64 x.f0], [.slice A1 x.f1.length c1, .int .i64 x.f2], rfl, rfl, ⟨[.slice A1 x.f1.length c1], [.int .i64 x.f2], rfl, ⟨A1, c1, rfl, l1, g1⟩, rfl⟩⟩
theorem k42_openF {W : World} {ok : Nat → Prop} {x : S42} {cs : List Value} (h : Kd.FK k42 W ok x cs) : ∃ A1 c1, cs = [.int .i64 x.f0, .slice A1 x.f1.length c1, .int .i64 x.f2] ∧ x.f1.length ≤ c1 ∧ Kd.F k44 W ok A1 x.f1.length x.f1 := by
 obtain ⟨A1, c1, rfl, l1, _⟩ := k42_open (Kd.FK_now h)
 exact ⟨A1, c1, rfl, l1, (fun W' hW => by obtain ⟨A1_, c1_, he, l1_, g1_⟩ := k42_open (h W' hW); injection (Option.some.inj (show some (Value.slice A1 x.f1.length c1) = some (Value.slice A1_ x.f1.length c1_) from congrArg (fun l => l[1]?) he)) with ha_ _ _; rw [ha_]; exact g1_)⟩
def zae (xs : List S42) (i : Int) : S42 := xs.getD i.toNat z42
theorem at_T42 {w : World} {A : Option Addr} {n : Nat} {xs : List S42} (h : Kd.C k42 w A n xs) (i : Int) (h0 : 0 ≤ i) (h1 : i < n) : ∃ ad A1 c1, A = some ad ∧ w.cell? (ad.add (i.toNat * 3)) = some (.int .i64 (zae xs i).f0) ∧ w.cell? ⟨(ad.add (i.toNat * 3)).block, (ad.add (i.toNat * 3)).off + 1, none⟩ = some (.slice A1 (zae xs i).f1.length c1) ∧ w.cell? ⟨(ad.add (i.toNat * 3)).block, (ad.add (i.toNat * 3)).off + 2, none⟩ = some (.int .i64 (zae xs i).f2) ∧ (zae xs i).f1.length ≤ c1 ∧ k44.C w A1 (zae xs i).f1.length (zae xs i).f1 := by
 obtain ⟨ad, c, e, _, hK, hc0⟩ := Kd.C_get h z42 i h0 h1
 have hc : ∀ j u, c[j]? = some u → w.cell? (ad.add (i.toNat * 3 + j)) = some u := hc0
 obtain ⟨A1, c1, rfl, l1, g1⟩ := k42_open hK
 exact ⟨ad, A1, c1, e, hc 0 _ rfl, by rw [← zbs _ _ 1 (by omega)]; exact hc 1 _ rfl, by rw [← zbs _ _ 2 (by omega)]; exact hc 2 _ rfl, l1, g1⟩
structure S25 where
 f0 : (List ByteArray)
 f1 : (List ByteArray)
 f2 : (List S42)
def z25 : S25 := ⟨([] : List ByteArray), ([] : List ByteArray), ([] : List S42)⟩
structure S50 where
 f0 : Int
 f1 : Int
 f2 : Int
def z50 : S50 := ⟨(0 : Int), (0 : Int), (0 : Int)⟩
def k50 : Kd S50 := Kd.iso (Kd.pair (Kd.int .i64) (Kd.pair (Kd.int .i64) (Kd.int .i64))) (fun x : S50 => (x.f0, x.f1, x.f2))
theorem k50_open {w : World} {x : S50} {cs : List Value} (h : k50.K w x cs) : cs = [.int .i64 x.f0, .int .i64 x.f1, .int .i64 x.f2] := by
 obtain ⟨_, _, rfl, rfl, ⟨_, _, rfl, rfl, rfl⟩⟩ := h
 exact rfl
def zbj (xs : List S50) (i : Int) : S50 := xs.getD i.toNat z50
theorem at_T50 {w : World} {A : Option Addr} {n : Nat} {xs : List S50} (h : Kd.C k50 w A n xs) (i : Int) (h0 : 0 ≤ i) (h1 : i < n) : ∃ ad , A = some ad ∧ w.cell? (ad.add (i.toNat * 3)) = some (.int .i64 (zbj xs i).f0) ∧ w.cell? ⟨(ad.add (i.toNat * 3)).block, (ad.add (i.toNat * 3)).off + 1, none⟩ = some (.int .i64 (zbj xs i).f1) ∧ w.cell? ⟨(ad.add (i.toNat * 3)).block, (ad.add (i.toNat * 3)).off + 2, none⟩ = some (.int .i64 (zbj xs i).f2) := by
 obtain ⟨ad, c, e, _, hK, hc0⟩ := Kd.C_get h z50 i h0 h1
 have hc : ∀ j u, c[j]? = some u → w.cell? (ad.add (i.toNat * 3 + j)) = some u := hc0
 obtain rfl := k50_open hK
 exact ⟨ad, e, hc 0 _ rfl, by rw [← zbs _ _ 1 (by omega)]; exact hc 1 _ rfl, by rw [← zbs _ _ 2 (by omega)]; exact hc 2 _ rfl⟩
end Go.Proofs.YtgdmjpehofdnpaaGreat.PNext
end
section
namespace Go.Proofs.YtgdmjpehofdnpaaGreat.PNext
open Go.RowKit Go.Proofs.YtgdmjpehofdnpaaGreatW.PrintWords Go.Proofs.YtgdmjpehofdnpaaGreatW.PrintLast Go.Proofs.YtgdmjpehofdnpaaGreatW.PrintMore
attribute [local go_sem] zcb zcc zcj zci zb6 zb4 zcf zce
set_option linter.unusedVariables false
set_option linter.unusedSimpArgs false
def zca.f (l0_0 : List ByteArray) (l0_1 : List ByteArray) (l0_2 : List (S42)) (a1 : Int) : Option ((List (S44))) := if a1 < 0 then (some (([(⟨(l0_0.length : Int), (⟨#[]⟩ : ByteArray), (⟨#[]⟩ : ByteArray)⟩ : S44)] : List (S44)))) else (if 0 ≤ a1 then (if a1 < (l0_2.length : Int) then (some ((zae l0_2 a1).f1)) else (none)) else (none))
set_option maxHeartbeats 8000000 in
set_option maxRecDepth 100000 in
theorem zca.calls (A0_0 : Option Addr) (c0_0 : Nat) (l0_0 : List ByteArray) (A0_1 : Option Addr) (c0_1 : Nat) (l0_1 : List ByteArray) (P0_2_ : Nat → Prop) (A0_2 : Option Addr) (c0_2 : Nat) (l0_2 : List (S42)) (a1 : Int) (r : List (S44)) (w : World) (hr0_0 : Kd.C Kd.string w A0_0 l0_0.length l0_0) (hc0_0 : l0_0.length ≤ c0_0) (hr0_1 : Kd.C Kd.string w A0_1 l0_1.length l0_1) (hc0_1 : l0_1.length ≤ c0_1) (hs0_2 : Kd.V k42 42 w w.heap.size (fun k_ => P0_2_ k_) (.slice A0_2 l0_2.length c0_2) l0_2) (h : zca.f l0_0 l0_1 l0_2 a1 = some r) :
  Calls Tryz.prog 35 #[.agg #[.slice A0_0 l0_0.length c0_0, .slice A0_1 l0_1.length c0_1, .slice A0_2 l0_2.length c0_2], .int .i64 a1] w fun e w' => ∃ v0_ : Value, e = .returned (v0_) ∧ Kd.V k44 44 w' w.heap.size (fun k_ => (P0_2_ k_ ∨ w.heap.size ≤ k_)) v0_ r ∧ Below w.heap.size w w' := by
 have hu25 := Tryz.underlying25
 have hu44 := Tryz.underlying44
 have HR0_0 := zaa.mk hr0_0;have HC0_0 := zaa.mk hc0_0;clear hr0_0 hc0_0;have HR0_1 := zaa.mk hr0_1;have HC0_1 := zaa.mk hc0_1;clear hr0_1 hc0_1
 have HO0_2 := zaa.mk (show Kd.V k42 42 w w.heap.size (fun k_ => (P0_2_ k_ ∨ w.heap.size ≤ k_)) (.slice A0_2 l0_2.length c0_2) l0_2 from Kd.V_mono hs0_2 (fun k_ hk => .inl hk))
 have HB := zaa.mk (Below.refl w.heap.size w)
 have H : (if a1 < 0 then (some (([(⟨(l0_0.length : Int), (⟨#[]⟩ : ByteArray), (⟨#[]⟩ : ByteArray)⟩ : S44)] : List (S44)))) else (if 0 ≤ a1 then (if a1 < (l0_2.length : Int) then (some ((zae l0_2 a1).f1)) else (none)) else (none))) = some r := h
 clear h
 by_cases c3 : a1 < 0
 ·rw [if_pos c3] at H
  have c3b0 : decide (a1 < 0) = true := decide_eq_true c3
  clear c3
  obtain ⟨y102, hy102⟩ : ∃ y_ : List (S44), y_ = (([(⟨(l0_0.length : Int), (⟨#[]⟩ : ByteArray), (⟨#[]⟩ : ByteArray)⟩ : S44)] : List (S44))) := ⟨_, rfl⟩
  replace H : (some y102) = some r := by first | (rw [hy102]; with_reducible exact H) | (have H2_ := (Option.bind_some _ _).symm.trans H; rw [hy102]; with_reducible exact H2_) | (have H2_ := (Option.bind_some _ _).symm.trans H; with_reducible exact H2_) | with_reducible exact H | (rw [hy102]; exact H) | exact H
  have Ny102 := zaa.mk hy102;clear hy102;obtain rfl := Option.some.inj H
  go_enter Tryz.func35, Tryz.ntmps35
  go_wp2_with (first | ((with_reducible refine zbh (N := 2) rfl ?_); refine zbe ?hg (N := 2) ?hd (cs := #[.slice A0_0 l0_0.length c0_0, .slice A0_1 l0_1.length c0_1, .slice A0_2 l0_2.length c0_2]) (t := 25) ?hr ?_; (case hd => rfl); (case hg => rfl); (case hr => first | (go_simp; done) | (go_simp; rfl)); intro gb101 hg w4 hbox hb; have n0_ := zaa.mk (Kd.V_below (Kd.V_elderB (by (with_reducible repeat (first | apply Kd.V_alloc | apply Kd.V_drewN | apply Kd.V_drew)); exact HO0_2.out) gb101 (Nat.le_of_eq hg.symm)) hb); have n1_ := zaa.mk (zaw (by repeat (first | (with_reducible first | exact HB.out | apply zah | apply zab | apply zaf) | exact HB.out)) hb); have n2_ := zaa.mk (hbox); have n3_ := zaa.mk ((by rw [hg]; exact (zas (by repeat (first | (with_reducible first | exact HB.out | apply zah | apply zab | apply zaf) | exact HB.out))) : w.heap.size ≤ gb101)); have n4_ := zaa.mk ((by rw [hg]; exact (zas (by repeat (first | (with_reducible first | exact HB.out | apply zah | apply zab | apply zaf) | exact HB.out))) : w.heap.size ≤ gb101)); clear HO0_2; clear HB; have HO0_2 := n0_; have HB := n1_; have BK101 := n2_; have GW101 := n3_; have GE101 := n4_; clear n0_ n1_ n2_ n3_ n4_; clear hb hbox hg; have hcz5_0 : w4.cell? ⟨gb101, 0, none⟩ = some (.slice A0_0 l0_0.length c0_0) := (zac BK101.out 0).trans rfl; have hcz5_1 : w4.cell? ⟨gb101, 1, none⟩ = some (.slice A0_1 l0_1.length c0_1) := (zac BK101.out 1).trans rfl; have hcz5_2 : w4.cell? ⟨gb101, 2, none⟩ = some (.slice A0_2 l0_2.length c0_2) := (zac BK101.out 2).trans rfl; have hfz5_0 := zak BK101.out 0; have hfz5_1 := zak BK101.out 1; have hfz5_2 := zak BK101.out 2) | ((with_reducible refine zbh (N := 11) rfl ?_); refine Kd.R_lit k44 _ 44 ?hg (N := 11) ?hd (xs := ([(⟨(l0_0.length : Int), (⟨#[]⟩ : ByteArray), (⟨#[]⟩ : ByteArray)⟩ : S44)] : List (S44))) (inner := [.int .i64 (l0_0.length : Int), .string (⟨#[]⟩ : ByteArray), .string (⟨#[]⟩ : ByteArray)]) (ok := fun _ => True) (okp := fun _ => True) ?hr ?hp (fun _ hk => hk) trivial (Below.refl _ _) (Nat.le_refl _) (by simp) ?_; (case hd => rfl); (case hg => rfl); (case hr => first | (go_simp; done) | (go_simp; rfl)); (case hp => exact (Reps.c3 (show Kd.M k44 _ _ _ (⟨(l0_0.length : Int), (⟨#[]⟩ : ByteArray), (⟨#[]⟩ : ByteArray)⟩ : S44) [.int .i64 (l0_0.length : Int), .string (⟨#[]⟩ : ByteArray), .string (⟨#[]⟩ : ByteArray)] from (k44_mkM _ _ _ (⟨(l0_0.length : Int), (⟨#[]⟩ : ByteArray), (⟨#[]⟩ : ByteArray)⟩ : S44) )) (Reps.none _ _))); intro v103 w6 ho7 hb hg_ hnew_; clear hg_ hnew_; (first | rw [← Ny102.out] at ho7 | (simp only [Int.reduceToNat] at ho7; rw [← Ny102.out] at ho7)); have n0_ := zaa.mk (Kd.V_elder' (by (with_reducible repeat (first | apply Kd.V_alloc | apply Kd.V_drewN | apply Kd.V_drew)); exact HO0_2.out) (Kd.R_base ho7) hb); have n1_ := zaa.mk (Kd.zb1 (Kd.R_newM (M := fun k_ => (w.heap.size ≤ k_)) ho7 (zas (by repeat (first | (with_reducible first | exact HB.out | apply zah | apply zab | apply zaf | refine zal ?_ GE101.out) | exact HB.out))) (fun k_ h_ => h_)) (zas (by repeat (first | (with_reducible first | exact HB.out | apply zah | apply zab | apply zaf | refine zal ?_ GE101.out) | exact HB.out)))); have n2_ := zaa.mk (zar (g := gb101) (o := .cells #[.slice A0_0 l0_0.length c0_0, .slice A0_1 l0_1.length c0_1, .slice A0_2 l0_2.length c0_2] 25 (0, 0)) (by (with_reducible repeat (first | refine zam ?_ _ | refine zaj ?_ | refine zai ?_ _)); exact BK101.out) hb); have n3_ := zaa.mk (zaw (by repeat (first | (with_reducible first | exact HB.out | apply zah | apply zab | apply zaf | refine zal ?_ GE101.out) | exact HB.out)) hb); clear HO0_2; clear BK101; clear HB; have HO0_2 := n0_; have HO104 := n1_; have BK101 := n2_; have HB := n3_; clear n0_ n1_ n2_ n3_; clear hb ho7))
  go_ret
  exact ⟨_, by first | rfl | (simp [za2, za3] <;> rfl) | (simp [*, za2, za3] <;> rfl), Kd.V_mono (Kd.R_V (by (with_reducible repeat (first | apply Kd.zbc | apply Kd.zbd | apply Kd.zbg)); exact Kd.zbx HO104.out (fun _ hk => hk.1))) (fun k_ hk => by first | exact ⟨(.inr (hk.1)), hk.2⟩ | exact (.inr (hk))), by repeat (first | (with_reducible first | exact HB.out | apply zah | apply zab | apply zaf | refine zal ?_ GE101.out) | exact HB.out)⟩
 ·rw [if_neg c3] at H
  have c3b0 : decide (a1 < 0) = false := decide_eq_false c3
  clear c3
  by_cases c8 : 0 ≤ a1
  ·rw [if_pos c8] at H
   have c8b0 : decide (0 ≤ a1) = true := decide_eq_true c8
   clear c8
   by_cases c9 : a1 < (l0_2.length : Int)
   ·rw [if_pos c9] at H
    have c9b0 : decide (a1 < (l0_2.length : Int)) = true := decide_eq_true c9
    clear c9;obtain rfl := Option.some.inj H
    go_enter Tryz.func35, Tryz.ntmps35
    go_wp2_with (first | ((with_reducible refine zbh (N := 2) rfl ?_); refine zbe ?hg (N := 2) ?hd (cs := #[.slice A0_0 l0_0.length c0_0, .slice A0_1 l0_1.length c0_1, .slice A0_2 l0_2.length c0_2]) (t := 25) ?hr ?_; (case hd => rfl); (case hg => rfl); (case hr => first | (go_simp; done) | (go_simp; rfl)); intro gb101 hg w10 hbox hb; have n0_ := zaa.mk (Kd.V_below (Kd.V_elderB (by (with_reducible repeat (first | apply Kd.V_alloc | apply Kd.V_drewN | apply Kd.V_drew)); exact HO0_2.out) gb101 (Nat.le_of_eq hg.symm)) hb); have n1_ := zaa.mk (zaw (by repeat (first | (with_reducible first | exact HB.out | apply zah | apply zab | apply zaf) | exact HB.out)) hb); have n2_ := zaa.mk (hbox); have n3_ := zaa.mk ((by rw [hg]; exact (zas (by repeat (first | (with_reducible first | exact HB.out | apply zah | apply zab | apply zaf) | exact HB.out))) : w.heap.size ≤ gb101)); have n4_ := zaa.mk ((by rw [hg]; exact (zas (by repeat (first | (with_reducible first | exact HB.out | apply zah | apply zab | apply zaf) | exact HB.out))) : w.heap.size ≤ gb101)); clear HO0_2; clear HB; have HO0_2 := n0_; have HB := n1_; have BK101 := n2_; have GW101 := n3_; have GE101 := n4_; clear n0_ n1_ n2_ n3_ n4_; clear hb hbox hg; have hcz11_0 : w10.cell? ⟨gb101, 0, none⟩ = some (.slice A0_0 l0_0.length c0_0) := (zac BK101.out 0).trans rfl; have hcz11_1 : w10.cell? ⟨gb101, 1, none⟩ = some (.slice A0_1 l0_1.length c0_1) := (zac BK101.out 1).trans rfl; have hcz11_2 : w10.cell? ⟨gb101, 2, none⟩ = some (.slice A0_2 l0_2.length c0_2) := (zac BK101.out 2).trans rfl; have hfz11_0 := zak BK101.out 0; have hfz11_1 := zak BK101.out 1; have hfz11_2 := zak BK101.out 2; have p105 : 0 ≤ (a1 : Int) := of_decide_eq_true (by first | (with_reducible assumption) | assumption); have q105 : a1 < (l0_2.length : Int) := of_decide_eq_true (by first | (with_reducible assumption) | assumption); obtain ⟨ad105, A105_1, c105_1, e105, hx105_0, hx105_1, hx105_2, hl105_1, hi105_1⟩ := at_T42 (Kd.V_reads' HO0_2.out).2.2 a1 p105 q105; cases e105; obtain ⟨ce105, hce105, hMe105, hcc105⟩ := Kd.V_get HO0_2.out z42 a1 p105 (by first | exact q105 | exact of_decide_eq_true (by first | (with_reducible assumption) | assumption) | (have e_ := (Kd.V_reads' HO0_2.out).1; omega)); obtain ⟨ua105_1, uc105_1, rfl, ul105_1, ge105_1⟩ := k42_openF hMe105; have hv105_1 := hcc105 1 _ rfl; rw [zbs _ _ 1 (by omega)] at hv105_1; replace hv105_1 := Option.some.inj (hv105_1.symm.trans hx105_1); injection hv105_1 with hva_ hvn_ hvc_; rw [hva_] at ge105_1; rw [hvc_] at ul105_1; have HL105_1 := zaa.mk (show Kd.V k44 44 _ w.heap.size _ _ ((zae l0_2 a1).f1) from Kd.V_mk ul105_1 ge105_1); clear hva_ hvn_ hvc_ ge105_1 ul105_1; clear hcc105 hce105; have HR105_1 := zaa.mk hi105_1; have HC105_1 := zaa.mk hl105_1; clear hi105_1 hl105_1; replace p105 := eq_true p105; replace q105 := eq_true q105))
    go_ret
    exact ⟨_, by first | rfl | (simp [za2, za3] <;> rfl) | (simp [*, za2, za3] <;> rfl), by (with_reducible repeat (first | apply Kd.V_alloc | apply Kd.V_drewN | apply Kd.V_drew)); exact Kd.V_mono HL105_1.out (fun _ hk => hk.1), by repeat (first | (with_reducible first | exact HB.out | apply zah | apply zab | apply zaf | refine zal ?_ GE101.out) | exact HB.out)⟩
   ·rw [if_neg c9] at H
    exact absurd H (by simp)
  ·rw [if_neg c8] at H
   exact absurd H (by simp)
end Go.Proofs.YtgdmjpehofdnpaaGreat.PNext
end
section
namespace Go.Proofs.YtgdmjpehofdnpaaGreat.PNext
open Go.RowKit Go.Proofs.YtgdmjpehofdnpaaGreatW.PrintWords Go.Proofs.YtgdmjpehofdnpaaGreatW.PrintLast Go.Proofs.YtgdmjpehofdnpaaGreatW.PrintMore
attribute [local go_sem] zcb zcc zcj zci zb6 zb4 zcf zce
set_option linter.unusedVariables false
set_option linter.unusedSimpArgs false
def zb2.f (l0_0 : List ByteArray) (l0_1 : List ByteArray) (l0_2 : List (S42)) (a1_0 : Int) (a1_1 : Int) (a1_2 : Int) : Option (Bool) := if a1_0 ≥ (-1) then (if a1_0 < (l0_2.length : Int) then (if a1_1 ≥ 0 then ((zca.f l0_0 l0_1 l0_2 a1_0).bind fun t108 => (if a1_1 ≤ (t108.length : Int) then (if a1_2 ≥ 0 then (some (decide (a1_2 ≤ (l0_0.length : Int)))) else (some false)) else (some false))) else (some false)) else (some false)) else (some false)
def zb2.T1 : Bool × List (List Nat × List Nat) := (true, [([], []), ([0], [0]), ([1], [1]), ([2], [2]), ([3], [3]), ([4, 3], [3, 4]), ([3], [3]), ([6, 3], [3, 6]), ([7, 3], [3, 7]), ([5, 8, 3], [3, 5, 8]), ([3, 9], [3, 9]), ([10, 3], [10]), ([11], [11]), ([12, 11], [11, 12]), ([13, 11], [11, 13]), ([11, 14], [11, 14]), ([15, 11], [15]), ([16], [16]), ([17, 16], [16, 17]), ([16], [16]), ([16], [16]), ([20, 16], [16, 20]), ([19, 21, 16, 16], [16, 19, 21]), ([22, 16], [16, 22]), ([18, 23, 16], [16, 18, 23]), ([16, 24], [16, 24]), ([25, 22], [25]), ([26], [26]), ([27, 26], [26, 27]), ([28, 26], [26, 28]), ([26, 29], [26, 29]), ([30, 26], [30]), ([31], [31]), ([32, 31], [31, 32]), ([31], [31]), ([34, 31], [31, 34]), ([35, 31], [31, 35]), ([33, 36, 31], [31, 33, 36]), ([31, 37], [31, 37]), ([38, 31, 0, 1, 2, 3, 4, 5, 6, 7, 8, 9, 10, 11, 12, 13, 14, 15, 16, 17, 18, 19, 20, 21, 22, 23, 24, 25, 26, 27, 28, 29, 30, 31, 32, 33, 34, 35, 36, 37, 38], [38])])
def zb2.B1 : List Nat := [0, 1, 3, 7, 15, 31, 15, 79, 207, 511, 1023, 2047, 4095, 8191, 16383, 32767, 65535, 131071, 262143, 131071, 131071, 1179647, 3801087, 7995391, 16777215, 33554431, 67108863, 134217727, 268435455, 536870911, 1073741823, 2147483647, 4294967295, 8589934591, 4294967295, 21474836479, 55834574847, 137438953471, 274877906943, 549755813887]
theorem zb2.tab1 : rtab .any (opsOf Tryz.f17 1) = zb2.T1 := by kernel_rfl
theorem zb2.bits1 : waitsOk zb2.T1.2 zb2.B1 = true := by kernel_rfl
set_option maxHeartbeats 8000000 in
set_option maxRecDepth 100000 in
theorem zb2.calls (A0_0 : Option Addr) (c0_0 : Nat) (l0_0 : List ByteArray) (A0_1 : Option Addr) (c0_1 : Nat) (l0_1 : List ByteArray) (A0_2 : Option Addr) (c0_2 : Nat) (l0_2 : List (S42)) (a1_0 : Int) (a1_1 : Int) (a1_2 : Int) (r : Bool) (w : World) (hr0_0 : Kd.C Kd.string w A0_0 l0_0.length l0_0) (hc0_0 : l0_0.length ≤ c0_0) (hr0_1 : Kd.C Kd.string w A0_1 l0_1.length l0_1) (hc0_1 : l0_1.length ≤ c0_1) (hr0_2 : Kd.C k42 w A0_2 l0_2.length l0_2) (hc0_2 : l0_2.length ≤ c0_2) (h : zb2.f l0_0 l0_1 l0_2 a1_0 a1_1 a1_2 = some r) :
  Calls Tryz.prog 17 #[.agg #[.slice A0_0 l0_0.length c0_0, .slice A0_1 l0_1.length c0_1, .slice A0_2 l0_2.length c0_2], .agg #[.int .i64 a1_0, .int .i64 a1_1, .int .i64 a1_2]] w fun e w' => e = .returned (.bool r) ∧ Below w.heap.size w w' := by
 have hu25 := Tryz.underlying25
 have hu50 := Tryz.underlying50
 have HR0_0 := zaa.mk hr0_0;have HC0_0 := zaa.mk hc0_0;clear hr0_0 hc0_0;have HR0_1 := zaa.mk hr0_1;have HC0_1 := zaa.mk hc0_1;clear hr0_1 hc0_1;have HR0_2 := zaa.mk hr0_2;have HC0_2 := zaa.mk hc0_2;clear hr0_2 hc0_2
 have HB := zaa.mk (Below.refl w.heap.size w)
 have H : (if a1_0 ≥ (-1) then (if a1_0 < (l0_2.length : Int) then (if a1_1 ≥ 0 then ((zca.f l0_0 l0_1 l0_2 a1_0).bind fun t108 => (if a1_1 ≤ (t108.length : Int) then (if a1_2 ≥ 0 then (some (decide (a1_2 ≤ (l0_0.length : Int)))) else (some false)) else (some false))) else (some false)) else (some false)) else (some false)) = some r := h
 clear h
 go_enter Tryz.func17, Tryz.ntmps17
 try go_wp2_with (first | ((with_reducible refine zbh (N := 2) rfl ?_); (try (refine zbk (by rfl) ?_; dsimp only)); refine zbe ?hg (N := 2) ?hd (cs := #[.slice A0_0 l0_0.length c0_0, .slice A0_1 l0_1.length c0_1, .slice A0_2 l0_2.length c0_2]) (t := 25) ?hr ?_; (case hd => rfl); (case hg => rfl); (case hr => first | (go_simp; done) | (go_simp; rfl)); intro gb106 hg w9 hbox hb; have n0_ := zaa.mk (zaw (by repeat (first | (with_reducible first | exact HB.out | apply zah | apply zab | apply zaf) | exact HB.out)) hb); have n1_ := zaa.mk (hbox); have n2_ := zaa.mk ((by rw [hg]; exact (zas (by repeat (first | (with_reducible first | exact HB.out | apply zah | apply zab | apply zaf) | exact HB.out))) : w.heap.size ≤ gb106)); have n3_ := zaa.mk ((by rw [hg]; exact (zas (by repeat (first | (with_reducible first | exact HB.out | apply zah | apply zab | apply zaf) | exact HB.out))) : w.heap.size ≤ gb106)); clear HB; have HB := n0_; have BK106 := n1_; have GW106 := n2_; have GE106 := n3_; clear n0_ n1_ n2_ n3_; clear hb hbox hg) | ((with_reducible refine zbh (N := 3) rfl ?_); (try (refine zbk (by rfl) ?_; dsimp only)); refine zbe ?hg (N := 3) ?hd (cs := #[.int .i64 a1_0, .int .i64 a1_1, .int .i64 a1_2]) (t := 50) ?hr ?_; (case hd => rfl); (case hg => rfl); (case hr => first | (go_simp; done) | (go_simp; rfl)); intro gb107 hg w10 hbox hb; have n0_ := zaa.mk (zar (g := gb106) (o := .cells #[.slice A0_0 l0_0.length c0_0, .slice A0_1 l0_1.length c0_1, .slice A0_2 l0_2.length c0_2] 25 (0, 0)) (by (with_reducible repeat (first | refine zam ?_ _ | refine zaj ?_ | refine zai ?_ _)); exact BK106.out) hb); have n1_ := zaa.mk (zaw (by repeat (first | (with_reducible first | exact HB.out | apply zah | apply zab | apply zaf | refine zal ?_ GE106.out) | exact HB.out)) hb); have n2_ := zaa.mk (hbox); have n3_ := zaa.mk ((by rw [hg]; exact (zas (by repeat (first | (with_reducible first | exact HB.out | apply zah | apply zab | apply zaf | refine zal ?_ GE106.out) | exact HB.out))) : w.heap.size ≤ gb107)); have n4_ := zaa.mk ((by rw [hg]; exact (zas (by repeat (first | (with_reducible first | exact HB.out | apply zah | apply zab | apply zaf | refine zal ?_ GE106.out) | exact HB.out))) : w.heap.size ≤ gb107)); have n5_ := zaa.mk ((by rw [hg]; exact Nat.ne_of_lt (zav (g := gb106) (o := .cells #[.slice A0_0 l0_0.length c0_0, .slice A0_1 l0_1.length c0_1, .slice A0_2 l0_2.length c0_2] 25 (0, 0)) (by (with_reducible repeat (first | refine zam ?_ _ | refine zaj ?_ | refine zai ?_ _)); exact BK106.out)) : gb106 ≠ gb107)); have n6_ := zaa.mk ((by rw [hg]; exact Nat.ne_of_gt (zav (g := gb106) (o := .cells #[.slice A0_0 l0_0.length c0_0, .slice A0_1 l0_1.length c0_1, .slice A0_2 l0_2.length c0_2] 25 (0, 0)) (by (with_reducible repeat (first | refine zam ?_ _ | refine zaj ?_ | refine zai ?_ _)); exact BK106.out)) : gb107 ≠ gb106)); clear BK106; clear HB; have BK106 := n0_; have HB := n1_; have BK107 := n2_; have GW107 := n3_; have GE107 := n4_; have NB106_107 := n5_; have NB107_106 := n6_; clear n0_ n1_ n2_ n3_ n4_ n5_ n6_; clear hb hbox hg))
 have n0_ := zaa.mk (zaj BK106.out)
 have n1_ := zaa.mk (zaj BK107.out)
 have n2_ := zaa.mk (zaf HB.out)
 clear BK106;clear BK107;clear HB;have BK106 := n0_;have BK107 := n1_;have HB := n2_;clear n0_ n1_ n2_
 refine zb0 (n := 40) (S := fun w' => w'.cell? ⟨gb107, 0, none⟩ = some (.int .i64 a1_0) ∧ w'.cell? ⟨gb107, 1, none⟩ = some (.int .i64 a1_1) ∧ w'.cell? ⟨gb107, 2, none⟩ = some (.int .i64 a1_2) ∧ w'.cell? ⟨gb106, 0, none⟩ = some (.slice A0_0 l0_0.length c0_0) ∧ w'.cell? ⟨gb106, 1, none⟩ = some (.slice A0_1 l0_1.length c0_1) ∧ w'.cell? ⟨gb106, 2, none⟩ = some (.slice A0_2 l0_2.length c0_2)) (ds := []) #[Nf,Nf,Nf,Nf,Nf,Nf,Nf,Nf,Nf,Nf,Nf,Nf,Nf,Nf,Nf,Nf,Nf,Nf,Nf,Nf,Nf,Nf,Nf,Nf,Nf,Nf,Nf,Nf,Nf,Nf,Nf,Nf,Nf,Nf,Nf,Nf,Nf,Nf,Nf,Nf] (by kernel_rfl) rfl rfl ⟨(zac BK107.out 0).trans rfl, (zac BK107.out 1).trans rfl, (zac BK107.out 2).trans rfl, (zac BK106.out 0).trans rfl, (zac BK106.out 1).trans rfl, (zac BK106.out 2).trans rfl⟩ (fun hHeld => ?_); refine with_tabW zb2.tab1 zb2.bits1 (fun HT_ HW_ => ?_)
 generalize w10.drew = w11 at BK106 BK107 HB hHeld ⊢
 refine pure_ (i := 0) (N := some 5) (v := ?_) (a' := ?_) (Ymk 40 1) rfl rfl (zat HT_.out (by kernel_rfl)) (fun _ _ _ h => h) (Or.inl ⟨by rfl, ?_⟩) ?_ ?_
 rotate_left; · intro w'; go_simp; with_reducible rfl
 rotate_left; · simp only [Act.put, Y1, Y2, Y3, i64_w, i32_w]; rfl
 refine take_ (i := 1) (N := some 6) (v := ?_) (a' := ?_) (Ymk 40 3) rfl rfl (zbv HT_.out HW_.out (by kernel_rfl)) (fun _ _ _ h => h) (Or.inl ⟨by rfl, ?_⟩) hHeld ?_ ?_
 rotate_left
 ·rintro w' ⟨s0, s1, s2, s3, s4, s5⟩
  go_simp
  with_reducible rfl
 rotate_left; · simp only [Act.put, Y1, Y2, Y3, i64_w, i32_w]; rfl
 by_cases c3 : a1_0 ≥ (-1)
 ·rw [if_pos c3] at H
  have c3b0 : decide ((-1) ≤ a1_0) = true := decide_eq_true c3
  clear c3
  refine pure_ (i := 2) (N := some 7) (v := ?_) (a' := ?_) (Ymk 40 7) rfl rfl (zat HT_.out (by kernel_rfl)) (fun _ _ _ h => h) (Or.inl ⟨by rfl, ?_⟩) ?_ ?_
  rotate_left; · intro w'; go_simp; with_reducible rfl
  rotate_left; · simp only [Act.put, Y1, Y2, Y3, i64_w, i32_w]; rfl
  refine pure_ (i := 3) (N := some 8) (v := ?_) (a' := ?_) (Ymk 40 15) rfl rfl (zat HT_.out (by kernel_rfl)) (fun _ _ _ h => h) (Or.inl ⟨by rfl, ?_⟩) ?_ ?_
  rotate_left; · intro w'; go_simp; with_reducible rfl
  rotate_left; · simp only [Act.put, Y1, Y2, Y3, i64_w, i32_w]; rfl
  refine pure_ (i := 4) (N := some 9) (v := ?_) (a' := ?_) (Ymk 40 31) rfl rfl (zat HT_.out (by kernel_rfl)) (fun _ _ _ h => h) (Or.inl ⟨by rfl, ?_⟩) ?_ ?_
  rotate_left; · intro w'; go_simp; with_reducible rfl
  rotate_left; · simp only [Act.put, Y1, Y2, Y3, i64_w, i32_w]; rfl
  refine pure_ (i := 6) (N := some 11) (v := ?_) (a' := ?_) (Ymk 40 95) rfl rfl (zat HT_.out (by kernel_rfl)) (fun _ _ _ h => h) (Or.inl ⟨by rfl, ?_⟩) ?_ ?_
  rotate_left; · intro w'; go_simp; with_reducible rfl
  rotate_left; · simp only [Act.put, Y1, Y2, Y3, i64_w, i32_w]; rfl
  refine take_ (i := 5) (N := some 10) (v := ?_) (a' := ?_) (Ymk 40 127) rfl rfl (zbv HT_.out HW_.out (by kernel_rfl)) (fun _ _ _ h => h) (Or.inl ⟨by rfl, ?_⟩) hHeld ?_ ?_
  rotate_left
  ·rintro w' ⟨s0, s1, s2, s3, s4, s5⟩
   go_simp
   with_reducible rfl
  rotate_left; · simp only [Act.put, Y1, Y2, Y3, i64_w, i32_w]; rfl
  refine take_ (i := 7) (N := some 12) (v := ?_) (a' := ?_) (Ymk 40 255) rfl rfl (zbv HT_.out HW_.out (by kernel_rfl)) (fun _ _ _ h => h) (Or.inl ⟨by rfl, ?_⟩) hHeld ?_ ?_
  rotate_left
  ·rintro w' ⟨s0, s1, s2, s3, s4, s5⟩
   go_simp
   with_reducible rfl
  rotate_left; · simp only [Act.put, Y1, Y2, Y3, i64_w, i32_w]; rfl
  refine pure_ (i := 8) (N := some 13) (v := ?_) (a' := ?_) (Ymk 40 511) rfl rfl (zat HT_.out (by kernel_rfl)) (fun _ _ _ h => h) (Or.inl ⟨by rfl, ?_⟩) ?_ ?_
  rotate_left; · intro w'; go_simp; with_reducible rfl
  rotate_left; · simp only [Act.put, Y1, Y2, Y3, i64_w, i32_w]; rfl
  by_cases c4 : a1_0 < (l0_2.length : Int)
  ·rw [if_pos c4] at H
   have c4b0 : decide (a1_0 < (l0_2.length : Int)) = true := decide_eq_true c4
   clear c4
   refine pure_ (i := 9) (N := some 14) (v := ?_) (a' := ?_) (Ymk 40 1023) rfl rfl (zat HT_.out (by kernel_rfl)) (fun _ _ _ h => h) (Or.inl ⟨by rfl, ?_⟩) ?_ ?_
   rotate_left; · intro w'; go_simp; with_reducible rfl
   rotate_left; · simp only [Act.put, Y1, Y2, Y3, i64_w, i32_w]; rfl
   refine pure_ (i := 10) (N := some 15) (v := ?_) (a' := ?_) (Ymk 40 2047) rfl rfl (zat HT_.out (by kernel_rfl)) (fun _ _ _ h => h) (Or.inl ⟨by rfl, ?_⟩) ?_ ?_
   rotate_left; · intro w'; go_simp; with_reducible rfl
   rotate_left; · simp only [Act.put, Y1, Y2, Y3, i64_w, i32_w]; rfl
   refine pure_ (i := 11) (N := some 16) (v := ?_) (a' := ?_) (Ymk 40 4095) rfl rfl (zat HT_.out (by kernel_rfl)) (fun _ _ _ h => h) (Or.inl ⟨by rfl, ?_⟩) ?_ ?_
   rotate_left; · intro w'; go_simp; with_reducible rfl
   rotate_left; · simp only [Act.put, Y1, Y2, Y3, i64_w, i32_w]; rfl
   refine pure_ (i := 12) (N := some 17) (v := ?_) (a' := ?_) (Ymk 40 8191) rfl rfl (zat HT_.out (by kernel_rfl)) (fun _ _ _ h => h) (Or.inl ⟨by rfl, ?_⟩) ?_ ?_
   rotate_left; · intro w'; go_simp; with_reducible rfl
   rotate_left; · simp only [Act.put, Y1, Y2, Y3, i64_w, i32_w]; rfl
   refine take_ (i := 13) (N := some 18) (v := ?_) (a' := ?_) (Ymk 40 16383) rfl rfl (zbv HT_.out HW_.out (by kernel_rfl)) (fun _ _ _ h => h) (Or.inl ⟨by rfl, ?_⟩) hHeld ?_ ?_
   rotate_left
   ·rintro w' ⟨s0, s1, s2, s3, s4, s5⟩
    go_simp
    with_reducible rfl
   rotate_left; · simp only [Act.put, Y1, Y2, Y3, i64_w, i32_w]; rfl
   by_cases c5 : a1_1 ≥ 0
   ·rw [if_pos c5] at H
    have c5b0 : decide (0 ≤ a1_1) = true := decide_eq_true c5
    clear c5;replace H := Option.bind_eq_some_iff.mp H
    obtain ⟨t108, A60, H⟩ := H
    replace H : (if a1_1 ≤ (t108.length : Int) then (if a1_2 ≥ 0 then (some (decide (a1_2 ≤ (l0_0.length : Int)))) else (some false)) else (some false)) = some r := H
    have A6 := zaa.mk A60;clear A60
    refine pure_ (i := 14) (N := some 19) (v := ?_) (a' := ?_) (Ymk 40 32767) rfl rfl (zat HT_.out (by kernel_rfl)) (fun _ _ _ h => h) (Or.inl ⟨by rfl, ?_⟩) ?_ ?_
    rotate_left; · intro w'; go_simp; with_reducible rfl
    rotate_left; · simp only [Act.put, Y1, Y2, Y3, i64_w, i32_w]; rfl
    refine pure_ (i := 15) (N := some 20) (v := ?_) (a' := ?_) (Ymk 40 65535) rfl rfl (zat HT_.out (by kernel_rfl)) (fun _ _ _ h => h) (Or.inl ⟨by rfl, ?_⟩) ?_ ?_
    rotate_left; · intro w'; go_simp; with_reducible rfl
    rotate_left; · simp only [Act.put, Y1, Y2, Y3, i64_w, i32_w]; rfl
    refine pure_ (i := 16) (N := some 21) (v := ?_) (a' := ?_) (Ymk 40 131071) rfl rfl (zat HT_.out (by kernel_rfl)) (fun _ _ _ h => h) (Or.inl ⟨by rfl, ?_⟩) ?_ ?_
    rotate_left; · intro w'; go_simp; with_reducible rfl
    rotate_left; · simp only [Act.put, Y1, Y2, Y3, i64_w, i32_w]; rfl
    refine pure_ (i := 17) (N := some 22) (v := ?_) (a' := ?_) (Ymk 40 262143) rfl rfl (zat HT_.out (by kernel_rfl)) (fun _ _ _ h => h) (Or.inl ⟨by rfl, ?_⟩) ?_ ?_
    rotate_left; · intro w'; go_simp; with_reducible rfl
    rotate_left; · simp only [Act.put, Y1, Y2, Y3, i64_w, i32_w]; rfl
    refine pure_ (i := 20) (N := some 25) (v := ?_) (a' := ?_) (Ymk 40 1310719) rfl rfl (zat HT_.out (by kernel_rfl)) (fun _ _ _ h => h) (Or.inl ⟨by rfl, ?_⟩) ?_ ?_
    rotate_left; · intro w'; go_simp; with_reducible rfl
    rotate_left; · simp only [Act.put, Y1, Y2, Y3, i64_w, i32_w]; rfl
    refine take_ (i := 18) (N := some 23) (v := ?_) (a' := ?_) (Ymk 40 1572863) rfl rfl (zbv HT_.out HW_.out (by kernel_rfl)) (fun _ _ _ h => h) (Or.inl ⟨by rfl, ?_⟩) hHeld ?_ ?_
    rotate_left
    ·rintro w' ⟨s0, s1, s2, s3, s4, s5⟩
     go_simp
     with_reducible rfl
    rotate_left; · simp only [Act.put, Y1, Y2, Y3, i64_w, i32_w]; rfl
    refine take_ (i := 19) (N := some 24) (v := ?_) (a' := ?_) (Ymk 40 2097151) rfl rfl (zbv HT_.out HW_.out (by kernel_rfl)) (fun _ _ _ h => h) (Or.inl ⟨by rfl, ?_⟩) hHeld ?_ ?_
    rotate_left
    ·rintro w' ⟨s0, s1, s2, s3, s4, s5⟩
     go_simp
     with_reducible rfl
    rotate_left; · simp only [Act.put, Y1, Y2, Y3, i64_w, i32_w]; rfl
    refine take_ (i := 21) (N := some 26) (v := ?_) (a' := ?_) (Ymk 40 4194303) rfl rfl (zbv HT_.out HW_.out (by kernel_rfl)) (fun _ _ _ h => h) (Or.inl ⟨by rfl, ?_⟩) hHeld ?_ ?_
    rotate_left
    ·rintro w' ⟨s0, s1, s2, s3, s4, s5⟩
     go_simp
     with_reducible rfl
    rotate_left; · simp only [Act.put, Y1, Y2, Y3, i64_w, i32_w]; rfl
    refine one_ (i := 22) (N := some 27) (Ymk 40 8388607) rfl rfl (one_of HT_.out (by kernel_rfl)) (by decide) (fun K hK => ?_)
    refine goes_ Tryz.func35 (by kernel_rfl) rfl #[.agg #[.slice A0_0 l0_0.length c0_0, .slice A0_1 l0_1.length c0_1, .slice A0_2 l0_2.length c0_2], .int .i64 a1_0] (by rfl) rfl rfl (by (try simp only [List.map_toArray, List.map_cons, List.map_nil]); first | done | rfl | (simp only [List.length_drop, List.length_take]; rfl)) ?_
    with_reducible refine (zca.calls _ _ l0_0 _ _ l0_1 (fun k_ => k_ < w.heap.size) _ _ l0_2 a1_0 t108 _ ?side1 ?side2 ?side3 ?side4 ?side5 A6.out).mono ?_
    (case side1 => repeat (first | exact (Kd.zax HR0_0.out HB.out) | (with_reducible refine Kd.za6 ?_ _) | (with_reducible refine Kd.za7 ?_ _) | (with_reducible refine Kd.za9 ?_)))
    (case side2 => exact HC0_0.out)
    (case side3 => repeat (first | exact (Kd.zax HR0_1.out HB.out) | (with_reducible refine Kd.za6 ?_ _) | (with_reducible refine Kd.za7 ?_ _) | (with_reducible refine Kd.za9 ?_)))
    (case side4 => exact HC0_1.out)
    (case side5 => exact Kd.V_mk HC0_2.out (Kd.F_below (Kd.C_F k42_heap HR0_2.out) (by repeat (first | (with_reducible first | exact HB.out | apply zah | apply zab | apply zaf | refine zal ?_ GE106.out | refine zal ?_ GE107.out) | exact HB.out))))
    rintro e w12 ⟨v109, rfl, ho0, hb⟩
    refine ⟨_, rfl, ?_⟩
    have n0_ := zaa.mk (Kd.V_lower (Kd.V_mono (ok' := fun k_ => k_ ≠ gb106 ∧ k_ ≠ gb107) ho0 (fun k_ hk_ => ⟨Or.elim hk_ (fun hs_ => fun e_ => Nat.not_le.2 hs_ (by rw [e_]; exact GW106.out)) (fun hn_ => (Kd.freshB (g := gb106) (o := .cells #[.slice A0_0 l0_0.length c0_0, .slice A0_1 l0_1.length c0_1, .slice A0_2 l0_2.length c0_2] 25 (0, 0)) (by (with_reducible repeat (first | refine zam ?_ _ | refine zaj ?_ | refine zai ?_ _)); exact BK106.out) k_ hn_)), Or.elim hk_ (fun hs_ => fun e_ => Nat.not_le.2 hs_ (by rw [e_]; exact GW107.out)) (fun hn_ => (Kd.freshB (g := gb107) (o := .cells #[.int .i64 a1_0, .int .i64 a1_1, .int .i64 a1_2] 50 (0, 0)) (by (with_reducible repeat (first | refine zam ?_ _ | refine zaj ?_ | refine zai ?_ _)); exact BK107.out) k_ hn_))⟩)) (zas (by repeat (first | (with_reducible first | exact HB.out | apply zah | apply zab | apply zaf | refine zal ?_ GE106.out | refine zal ?_ GE107.out) | exact HB.out))))
    have n1_ := zaa.mk (zar (g := gb106) (o := .cells #[.slice A0_0 l0_0.length c0_0, .slice A0_1 l0_1.length c0_1, .slice A0_2 l0_2.length c0_2] 25 (0, 0)) (by (with_reducible repeat (first | refine zam ?_ _ | refine zaj ?_ | refine zai ?_ _)); exact BK106.out) hb)
    have n2_ := zaa.mk (zar (g := gb107) (o := .cells #[.int .i64 a1_0, .int .i64 a1_1, .int .i64 a1_2] 50 (0, 0)) (by (with_reducible repeat (first | refine zam ?_ _ | refine zaj ?_ | refine zai ?_ _)); exact BK107.out) hb)
    have n3_ := zaa.mk (zaw (by repeat (first | (with_reducible first | exact HB.out | apply zah | apply zab | apply zaf | refine zal ?_ GE106.out | refine zal ?_ GE107.out) | exact HB.out)) hb)
    clear BK106;clear BK107;clear HB;have HO110 := n0_;have BK106 := n1_;have BK107 := n2_;have HB := n3_;clear n0_ n1_ n2_ n3_
    (try clear hb)
    (try clear hb2)
    (try clear hk)
    (try clear hi)
    (try clear ho0)
    obtain ⟨Ao13, co13, eo13⟩ := Kd.V_slice HO110.out
    (first | subst eo13 | (injection eo13 with f1_ f2_ f3_; have f4_ := f1_.symm; have f5_ := f3_.symm; clear f1_ f2_ f3_; subst f4_; subst f5_))
    refine hK.out _ _ ⟨(zac BK107.out 0).trans rfl, (zac BK107.out 1).trans rfl, (zac BK107.out 2).trans rfl, (zac BK106.out 0).trans rfl, (zac BK106.out 1).trans rfl, (zac BK106.out 2).trans rfl⟩ (fun hHeld => ?_)
    clear hK K
    refine norm_ (a' := ?_) ?_ ?_
    rotate_left
    ·show Act.put _ (some 27) _ = _
     simp only [Act.put, Y1, Y2, Y3, i64_w, i32_w]
     rfl
    refine pure_ (i := 23) (N := some 28) (v := ?_) (a' := ?_) (Ymk 40 16777215) rfl rfl (zat HT_.out (by kernel_rfl)) (fun _ _ _ h => h) (Or.inl ⟨by rfl, ?_⟩) ?_ ?_
    rotate_left; · intro w'; go_simp; with_reducible rfl
    rotate_left; · simp only [Act.put, Y1, Y2, Y3, i64_w, i32_w]; rfl
    by_cases c7 : a1_1 ≤ (t108.length : Int)
    ·rw [if_pos c7] at H
     have c7b0 : decide (a1_1 ≤ (t108.length : Int)) = true := decide_eq_true c7
     clear c7
     refine pure_ (i := 24) (N := some 29) (v := ?_) (a' := ?_) (Ymk 40 33554431) rfl rfl (zat HT_.out (by kernel_rfl)) (fun _ _ _ h => h) (Or.inl ⟨by rfl, ?_⟩) ?_ ?_
     rotate_left; · intro w'; go_simp; with_reducible rfl
     rotate_left; · simp only [Act.put, Y1, Y2, Y3, i64_w, i32_w]; rfl
     refine pure_ (i := 25) (N := some 30) (v := ?_) (a' := ?_) (Ymk 40 67108863) rfl rfl (zat HT_.out (by kernel_rfl)) (fun _ _ _ h => h) (Or.inl ⟨by rfl, ?_⟩) ?_ ?_
     rotate_left; · intro w'; go_simp; with_reducible rfl
     rotate_left; · simp only [Act.put, Y1, Y2, Y3, i64_w, i32_w]; rfl
     refine pure_ (i := 26) (N := some 31) (v := ?_) (a' := ?_) (Ymk 40 134217727) rfl rfl (zat HT_.out (by kernel_rfl)) (fun _ _ _ h => h) (Or.inl ⟨by rfl, ?_⟩) ?_ ?_
     rotate_left; · intro w'; go_simp; with_reducible rfl
     rotate_left; · simp only [Act.put, Y1, Y2, Y3, i64_w, i32_w]; rfl
     refine pure_ (i := 27) (N := some 32) (v := ?_) (a' := ?_) (Ymk 40 268435455) rfl rfl (zat HT_.out (by kernel_rfl)) (fun _ _ _ h => h) (Or.inl ⟨by rfl, ?_⟩) ?_ ?_
     rotate_left; · intro w'; go_simp; with_reducible rfl
     rotate_left; · simp only [Act.put, Y1, Y2, Y3, i64_w, i32_w]; rfl
     refine take_ (i := 28) (N := some 33) (v := ?_) (a' := ?_) (Ymk 40 536870911) rfl rfl (zbv HT_.out HW_.out (by kernel_rfl)) (fun _ _ _ h => h) (Or.inl ⟨by rfl, ?_⟩) hHeld ?_ ?_
     rotate_left
     ·rintro w' ⟨s0, s1, s2, s3, s4, s5⟩
      go_simp
      with_reducible rfl
     rotate_left; · simp only [Act.put, Y1, Y2, Y3, i64_w, i32_w]; rfl
     by_cases c8 : a1_2 ≥ 0
     ·rw [if_pos c8] at H
      have c8b0 : decide (0 ≤ a1_2) = true := decide_eq_true c8
      clear c8;obtain rfl := Option.some.inj H
      refine pure_ (i := 29) (N := some 34) (v := ?_) (a' := ?_) (Ymk 40 1073741823) rfl rfl (zat HT_.out (by kernel_rfl)) (fun _ _ _ h => h) (Or.inl ⟨by rfl, ?_⟩) ?_ ?_
      rotate_left; · intro w'; go_simp; with_reducible rfl
      rotate_left; · simp only [Act.put, Y1, Y2, Y3, i64_w, i32_w]; rfl
      refine pure_ (i := 30) (N := some 35) (v := ?_) (a' := ?_) (Ymk 40 2147483647) rfl rfl (zat HT_.out (by kernel_rfl)) (fun _ _ _ h => h) (Or.inl ⟨by rfl, ?_⟩) ?_ ?_
      rotate_left; · intro w'; go_simp; with_reducible rfl
      rotate_left; · simp only [Act.put, Y1, Y2, Y3, i64_w, i32_w]; rfl
      refine pure_ (i := 31) (N := some 36) (v := ?_) (a' := ?_) (Ymk 40 4294967295) rfl rfl (zat HT_.out (by kernel_rfl)) (fun _ _ _ h => h) (Or.inl ⟨by rfl, ?_⟩) ?_ ?_
      rotate_left; · intro w'; go_simp; with_reducible rfl
      rotate_left; · simp only [Act.put, Y1, Y2, Y3, i64_w, i32_w]; rfl
      refine pure_ (i := 32) (N := some 37) (v := ?_) (a' := ?_) (Ymk 40 8589934591) rfl rfl (zat HT_.out (by kernel_rfl)) (fun _ _ _ h => h) (Or.inl ⟨by rfl, ?_⟩) ?_ ?_
      rotate_left; · intro w'; go_simp; with_reducible rfl
      rotate_left; · simp only [Act.put, Y1, Y2, Y3, i64_w, i32_w]; rfl
      refine pure_ (i := 34) (N := some 39) (v := ?_) (a' := ?_) (Ymk 40 25769803775) rfl rfl (zat HT_.out (by kernel_rfl)) (fun _ _ _ h => h) (Or.inl ⟨by rfl, ?_⟩) ?_ ?_
      rotate_left; · intro w'; go_simp; with_reducible rfl
      rotate_left; · simp only [Act.put, Y1, Y2, Y3, i64_w, i32_w]; rfl
      refine take_ (i := 33) (N := some 38) (v := ?_) (a' := ?_) (Ymk 40 34359738367) rfl rfl (zbv HT_.out HW_.out (by kernel_rfl)) (fun _ _ _ h => h) (Or.inl ⟨by rfl, ?_⟩) hHeld ?_ ?_
      rotate_left
      ·rintro w' ⟨s0, s1, s2, s3, s4, s5⟩
       go_simp
       with_reducible rfl
      rotate_left; · simp only [Act.put, Y1, Y2, Y3, i64_w, i32_w]; rfl
      refine take_ (i := 35) (N := some 40) (v := ?_) (a' := ?_) (Ymk 40 68719476735) rfl rfl (zbv HT_.out HW_.out (by kernel_rfl)) (fun _ _ _ h => h) (Or.inl ⟨by rfl, ?_⟩) hHeld ?_ ?_
      rotate_left
      ·rintro w' ⟨s0, s1, s2, s3, s4, s5⟩
       go_simp
       with_reducible rfl
      rotate_left; · simp only [Act.put, Y1, Y2, Y3, i64_w, i32_w]; rfl
      refine pure_ (i := 36) (N := some 41) (v := ?_) (a' := ?_) (Ymk 40 137438953471) rfl rfl (zat HT_.out (by kernel_rfl)) (fun _ _ _ h => h) (Or.inl ⟨by rfl, ?_⟩) ?_ ?_
      rotate_left; · intro w'; go_simp; with_reducible rfl
      rotate_left; · simp only [Act.put, Y1, Y2, Y3, i64_w, i32_w]; rfl
      refine pure_ (i := 37) (N := some 42) (v := ?_) (a' := ?_) (Ymk 40 274877906943) rfl rfl (zat HT_.out (by kernel_rfl)) (fun _ _ _ h => h) (Or.inl ⟨by rfl, ?_⟩) ?_ ?_
      rotate_left; · intro w'; go_simp; with_reducible rfl
      rotate_left; · simp only [Act.put, Y1, Y2, Y3, i64_w, i32_w]; rfl
      refine pure_ (i := 38) (N := some 43) (v := ?_) (a' := ?_) (Ymk 40 549755813887) rfl rfl (zat HT_.out (by kernel_rfl)) (fun _ _ _ h => h) (Or.inl ⟨by rfl, ?_⟩) ?_ ?_
      rotate_left; · intro w'; go_simp; with_reducible rfl
      rotate_left; · simp only [Act.put, Y1, Y2, Y3, i64_w, i32_w]; rfl
      refine pure_ (i := 39) (N := some 4) (v := ?_) (a' := ?_) (Ymk 40 1099511627775) rfl rfl (zat HT_.out (by kernel_rfl)) (fun _ _ _ h => h) (Or.inl ⟨by rfl, ?_⟩) ?_ ?_
      rotate_left; · intro w'; go_simp; with_reducible rfl
      rotate_left; · simp only [Act.put, Y1, Y2, Y3, i64_w, i32_w]; rfl
      refine done_ (done_of HT_.out (by kernel_rfl)) ?_
      try go_wp2
      go_ret
      exact ⟨by first | rfl | (simp [za2, za3] <;> rfl) | (simp [*, za2, za3] <;> rfl), by repeat (first | (with_reducible first | exact HB.out | apply zah | apply zab | apply zaf | refine zal ?_ GE106.out | refine zal ?_ GE107.out) | exact HB.out)⟩
     ·rw [if_neg c8] at H
      have c8b0 : decide (0 ≤ a1_2) = false := decide_eq_false c8
      clear c8;obtain rfl := Option.some.inj H
      refine pure_ (i := 29) (N := some 34) (v := ?_) (a' := ?_) (Ymk 40 1073741823) rfl rfl (zat HT_.out (by kernel_rfl)) (fun _ _ _ h => h) (Or.inl ⟨by rfl, ?_⟩) ?_ ?_
      rotate_left; · intro w'; go_simp; with_reducible rfl
      rotate_left; · simp only [Act.put, Y1, Y2, Y3, i64_w, i32_w]; rfl
      refine pure_ (i := 30) (N := some 35) (v := ?_) (a' := ?_) (Ymk 40 2147483647) rfl rfl (zat HT_.out (by kernel_rfl)) (fun _ _ _ h => h) (Or.inl ⟨by rfl, ?_⟩) ?_ ?_
      rotate_left; · intro w'; go_simp; with_reducible rfl
      rotate_left; · simp only [Act.put, Y1, Y2, Y3, i64_w, i32_w]; rfl
      refine pure_ (i := 31) (N := some 36) (v := ?_) (a' := ?_) (Ymk 40 4294967295) rfl rfl (zat HT_.out (by kernel_rfl)) (fun _ _ _ h => h) (Or.inl ⟨by rfl, ?_⟩) ?_ ?_
      rotate_left; · intro w'; go_simp; with_reducible rfl
      rotate_left; · simp only [Act.put, Y1, Y2, Y3, i64_w, i32_w]; rfl
      refine pure_ (i := 32) (N := some 37) (v := undef) (a' := ?_) (Ymk 40 8589934591) rfl rfl (zat HT_.out (by kernel_rfl)) (fun _ _ _ h => h) (Or.inr ⟨by rfl, rfl⟩) ?_ ?_
      rotate_left; · simp only [Act.put, Y1, Y2, Y3, i64_w, i32_w]; rfl
      refine pure_ (i := 33) (N := some 38) (v := undef) (a' := ?_) (Ymk 40 17179869183) rfl rfl (zat HT_.out (by kernel_rfl)) (fun _ _ _ h => h) (Or.inr ⟨by rfl, rfl⟩) ?_ ?_
      rotate_left; · simp only [Act.put, Y1, Y2, Y3, i64_w, i32_w]; rfl
      refine pure_ (i := 34) (N := some 39) (v := undef) (a' := ?_) (Ymk 40 34359738367) rfl rfl (zat HT_.out (by kernel_rfl)) (fun _ _ _ h => h) (Or.inr ⟨by rfl, rfl⟩) ?_ ?_
      rotate_left; · simp only [Act.put, Y1, Y2, Y3, i64_w, i32_w]; rfl
      refine pure_ (i := 35) (N := some 40) (v := undef) (a' := ?_) (Ymk 40 68719476735) rfl rfl (zat HT_.out (by kernel_rfl)) (fun _ _ _ h => h) (Or.inr ⟨by rfl, rfl⟩) ?_ ?_
      rotate_left; · simp only [Act.put, Y1, Y2, Y3, i64_w, i32_w]; rfl
      refine pure_ (i := 36) (N := some 41) (v := undef) (a' := ?_) (Ymk 40 137438953471) rfl rfl (zat HT_.out (by kernel_rfl)) (fun _ _ _ h => h) (Or.inr ⟨by rfl, rfl⟩) ?_ ?_
      rotate_left; · simp only [Act.put, Y1, Y2, Y3, i64_w, i32_w]; rfl
      refine pure_ (i := 37) (N := some 42) (v := undef) (a' := ?_) (Ymk 40 274877906943) rfl rfl (zat HT_.out (by kernel_rfl)) (fun _ _ _ h => h) (Or.inr ⟨by rfl, rfl⟩) ?_ ?_
      rotate_left; · simp only [Act.put, Y1, Y2, Y3, i64_w, i32_w]; rfl
      refine pure_ (i := 38) (N := some 43) (v := ?_) (a' := ?_) (Ymk 40 549755813887) rfl rfl (zat HT_.out (by kernel_rfl)) (fun _ _ _ h => h) (Or.inl ⟨by rfl, ?_⟩) ?_ ?_
      rotate_left; · intro w'; go_simp; with_reducible rfl
      rotate_left; · simp only [Act.put, Y1, Y2, Y3, i64_w, i32_w]; rfl
      refine pure_ (i := 39) (N := some 4) (v := ?_) (a' := ?_) (Ymk 40 1099511627775) rfl rfl (zat HT_.out (by kernel_rfl)) (fun _ _ _ h => h) (Or.inl ⟨by rfl, ?_⟩) ?_ ?_
      rotate_left; · intro w'; go_simp; with_reducible rfl
      rotate_left; · simp only [Act.put, Y1, Y2, Y3, i64_w, i32_w]; rfl
      refine done_ (done_of HT_.out (by kernel_rfl)) ?_
      try go_wp2
      go_ret
      exact ⟨by first | rfl | (simp [za2, za3] <;> rfl) | (simp [*, za2, za3] <;> rfl), by repeat (first | (with_reducible first | exact HB.out | apply zah | apply zab | apply zaf | refine zal ?_ GE106.out | refine zal ?_ GE107.out) | exact HB.out)⟩
    ·rw [if_neg c7] at H
     have c7b0 : decide (a1_1 ≤ (t108.length : Int)) = false := decide_eq_false c7
     clear c7;obtain rfl := Option.some.inj H
     refine pure_ (i := 24) (N := some 29) (v := ?_) (a' := ?_) (Ymk 40 33554431) rfl rfl (zat HT_.out (by kernel_rfl)) (fun _ _ _ h => h) (Or.inl ⟨by rfl, ?_⟩) ?_ ?_
     rotate_left; · intro w'; go_simp; with_reducible rfl
     rotate_left; · simp only [Act.put, Y1, Y2, Y3, i64_w, i32_w]; rfl
     refine pure_ (i := 25) (N := some 30) (v := ?_) (a' := ?_) (Ymk 40 67108863) rfl rfl (zat HT_.out (by kernel_rfl)) (fun _ _ _ h => h) (Or.inl ⟨by rfl, ?_⟩) ?_ ?_
     rotate_left; · intro w'; go_simp; with_reducible rfl
     rotate_left; · simp only [Act.put, Y1, Y2, Y3, i64_w, i32_w]; rfl
     refine pure_ (i := 26) (N := some 31) (v := ?_) (a' := ?_) (Ymk 40 134217727) rfl rfl (zat HT_.out (by kernel_rfl)) (fun _ _ _ h => h) (Or.inl ⟨by rfl, ?_⟩) ?_ ?_
     rotate_left; · intro w'; go_simp; with_reducible rfl
     rotate_left; · simp only [Act.put, Y1, Y2, Y3, i64_w, i32_w]; rfl
     refine pure_ (i := 27) (N := some 32) (v := undef) (a' := ?_) (Ymk 40 268435455) rfl rfl (zat HT_.out (by kernel_rfl)) (fun _ _ _ h => h) (Or.inr ⟨by rfl, rfl⟩) ?_ ?_
     rotate_left; · simp only [Act.put, Y1, Y2, Y3, i64_w, i32_w]; rfl
     refine pure_ (i := 28) (N := some 33) (v := undef) (a' := ?_) (Ymk 40 536870911) rfl rfl (zat HT_.out (by kernel_rfl)) (fun _ _ _ h => h) (Or.inr ⟨by rfl, rfl⟩) ?_ ?_
     rotate_left; · simp only [Act.put, Y1, Y2, Y3, i64_w, i32_w]; rfl
     refine pure_ (i := 29) (N := some 34) (v := undef) (a' := ?_) (Ymk 40 1073741823) rfl rfl (zat HT_.out (by kernel_rfl)) (fun _ _ _ h => h) (Or.inr ⟨by rfl, rfl⟩) ?_ ?_
     rotate_left; · simp only [Act.put, Y1, Y2, Y3, i64_w, i32_w]; rfl
     refine pure_ (i := 30) (N := some 35) (v := ?_) (a' := ?_) (Ymk 40 2147483647) rfl rfl (zat HT_.out (by kernel_rfl)) (fun _ _ _ h => h) (Or.inl ⟨by rfl, ?_⟩) ?_ ?_
     rotate_left; · intro w'; go_simp; with_reducible rfl
     rotate_left; · simp only [Act.put, Y1, Y2, Y3, i64_w, i32_w]; rfl
     refine pure_ (i := 31) (N := some 36) (v := ?_) (a' := ?_) (Ymk 40 4294967295) rfl rfl (zat HT_.out (by kernel_rfl)) (fun _ _ _ h => h) (Or.inl ⟨by rfl, ?_⟩) ?_ ?_
     rotate_left; · intro w'; go_simp; with_reducible rfl
     rotate_left; · simp only [Act.put, Y1, Y2, Y3, i64_w, i32_w]; rfl
     refine pure_ (i := 32) (N := some 37) (v := undef) (a' := ?_) (Ymk 40 8589934591) rfl rfl (zat HT_.out (by kernel_rfl)) (fun _ _ _ h => h) (Or.inr ⟨by rfl, rfl⟩) ?_ ?_
     rotate_left; · simp only [Act.put, Y1, Y2, Y3, i64_w, i32_w]; rfl
     refine pure_ (i := 33) (N := some 38) (v := undef) (a' := ?_) (Ymk 40 17179869183) rfl rfl (zat HT_.out (by kernel_rfl)) (fun _ _ _ h => h) (Or.inr ⟨by rfl, rfl⟩) ?_ ?_
     rotate_left; · simp only [Act.put, Y1, Y2, Y3, i64_w, i32_w]; rfl
     refine pure_ (i := 34) (N := some 39) (v := undef) (a' := ?_) (Ymk 40 34359738367) rfl rfl (zat HT_.out (by kernel_rfl)) (fun _ _ _ h => h) (Or.inr ⟨by rfl, rfl⟩) ?_ ?_
     rotate_left; · simp only [Act.put, Y1, Y2, Y3, i64_w, i32_w]; rfl
     refine pure_ (i := 35) (N := some 40) (v := undef) (a' := ?_) (Ymk 40 68719476735) rfl rfl (zat HT_.out (by kernel_rfl)) (fun _ _ _ h => h) (Or.inr ⟨by rfl, rfl⟩) ?_ ?_
     rotate_left; · simp only [Act.put, Y1, Y2, Y3, i64_w, i32_w]; rfl
     refine pure_ (i := 36) (N := some 41) (v := undef) (a' := ?_) (Ymk 40 137438953471) rfl rfl (zat HT_.out (by kernel_rfl)) (fun _ _ _ h => h) (Or.inr ⟨by rfl, rfl⟩) ?_ ?_
     rotate_left; · simp only [Act.put, Y1, Y2, Y3, i64_w, i32_w]; rfl
     refine pure_ (i := 37) (N := some 42) (v := undef) (a' := ?_) (Ymk 40 274877906943) rfl rfl (zat HT_.out (by kernel_rfl)) (fun _ _ _ h => h) (Or.inr ⟨by rfl, rfl⟩) ?_ ?_
     rotate_left; · simp only [Act.put, Y1, Y2, Y3, i64_w, i32_w]; rfl
     refine pure_ (i := 38) (N := some 43) (v := ?_) (a' := ?_) (Ymk 40 549755813887) rfl rfl (zat HT_.out (by kernel_rfl)) (fun _ _ _ h => h) (Or.inl ⟨by rfl, ?_⟩) ?_ ?_
     rotate_left; · intro w'; go_simp; with_reducible rfl
     rotate_left; · simp only [Act.put, Y1, Y2, Y3, i64_w, i32_w]; rfl
     refine pure_ (i := 39) (N := some 4) (v := ?_) (a' := ?_) (Ymk 40 1099511627775) rfl rfl (zat HT_.out (by kernel_rfl)) (fun _ _ _ h => h) (Or.inl ⟨by rfl, ?_⟩) ?_ ?_
     rotate_left; · intro w'; go_simp; with_reducible rfl
     rotate_left; · simp only [Act.put, Y1, Y2, Y3, i64_w, i32_w]; rfl
     refine done_ (done_of HT_.out (by kernel_rfl)) ?_
     try go_wp2
     go_ret
     exact ⟨by first | rfl | (simp [za2, za3] <;> rfl) | (simp [*, za2, za3] <;> rfl), by repeat (first | (with_reducible first | exact HB.out | apply zah | apply zab | apply zaf | refine zal ?_ GE106.out | refine zal ?_ GE107.out) | exact HB.out)⟩
   ·rw [if_neg c5] at H
    have c5b0 : decide (0 ≤ a1_1) = false := decide_eq_false c5
    clear c5;obtain rfl := Option.some.inj H
    refine pure_ (i := 14) (N := some 19) (v := ?_) (a' := ?_) (Ymk 40 32767) rfl rfl (zat HT_.out (by kernel_rfl)) (fun _ _ _ h => h) (Or.inl ⟨by rfl, ?_⟩) ?_ ?_
    rotate_left; · intro w'; go_simp; with_reducible rfl
    rotate_left; · simp only [Act.put, Y1, Y2, Y3, i64_w, i32_w]; rfl
    refine pure_ (i := 15) (N := some 20) (v := ?_) (a' := ?_) (Ymk 40 65535) rfl rfl (zat HT_.out (by kernel_rfl)) (fun _ _ _ h => h) (Or.inl ⟨by rfl, ?_⟩) ?_ ?_
    rotate_left; · intro w'; go_simp; with_reducible rfl
    rotate_left; · simp only [Act.put, Y1, Y2, Y3, i64_w, i32_w]; rfl
    refine pure_ (i := 16) (N := some 21) (v := ?_) (a' := ?_) (Ymk 40 131071) rfl rfl (zat HT_.out (by kernel_rfl)) (fun _ _ _ h => h) (Or.inl ⟨by rfl, ?_⟩) ?_ ?_
    rotate_left; · intro w'; go_simp; with_reducible rfl
    rotate_left; · simp only [Act.put, Y1, Y2, Y3, i64_w, i32_w]; rfl
    refine pure_ (i := 17) (N := some 22) (v := undef) (a' := ?_) (Ymk 40 262143) rfl rfl (zat HT_.out (by kernel_rfl)) (fun _ _ _ h => h) (Or.inr ⟨by rfl, rfl⟩) ?_ ?_
    rotate_left; · simp only [Act.put, Y1, Y2, Y3, i64_w, i32_w]; rfl
    refine pure_ (i := 18) (N := some 23) (v := undef) (a' := ?_) (Ymk 40 524287) rfl rfl (zat HT_.out (by kernel_rfl)) (fun _ _ _ h => h) (Or.inr ⟨by rfl, rfl⟩) ?_ ?_
    rotate_left; · simp only [Act.put, Y1, Y2, Y3, i64_w, i32_w]; rfl
    refine pure_ (i := 19) (N := some 24) (v := undef) (a' := ?_) (Ymk 40 1048575) rfl rfl (zat HT_.out (by kernel_rfl)) (fun _ _ _ h => h) (Or.inr ⟨by rfl, rfl⟩) ?_ ?_
    rotate_left; · simp only [Act.put, Y1, Y2, Y3, i64_w, i32_w]; rfl
    refine pure_ (i := 20) (N := some 25) (v := undef) (a' := ?_) (Ymk 40 2097151) rfl rfl (zat HT_.out (by kernel_rfl)) (fun _ _ _ h => h) (Or.inr ⟨by rfl, rfl⟩) ?_ ?_
    rotate_left; · simp only [Act.put, Y1, Y2, Y3, i64_w, i32_w]; rfl
    refine pure_ (i := 21) (N := some 26) (v := undef) (a' := ?_) (Ymk 40 4194303) rfl rfl (zat HT_.out (by kernel_rfl)) (fun _ _ _ h => h) (Or.inr ⟨by rfl, rfl⟩) ?_ ?_
    rotate_left; · simp only [Act.put, Y1, Y2, Y3, i64_w, i32_w]; rfl
    refine pure_ (i := 22) (N := some 27) (v := undef) (a' := ?_) (Ymk 40 8388607) rfl rfl (zat HT_.out (by kernel_rfl)) (fun _ _ _ h => h) (Or.inr ⟨by rfl, rfl⟩) ?_ ?_
    rotate_left; · simp only [Act.put, Y1, Y2, Y3, i64_w, i32_w]; rfl
    refine pure_ (i := 23) (N := some 28) (v := undef) (a' := ?_) (Ymk 40 16777215) rfl rfl (zat HT_.out (by kernel_rfl)) (fun _ _ _ h => h) (Or.inr ⟨by rfl, rfl⟩) ?_ ?_
    rotate_left; · simp only [Act.put, Y1, Y2, Y3, i64_w, i32_w]; rfl
    refine pure_ (i := 24) (N := some 29) (v := undef) (a' := ?_) (Ymk 40 33554431) rfl rfl (zat HT_.out (by kernel_rfl)) (fun _ _ _ h => h) (Or.inr ⟨by rfl, rfl⟩) ?_ ?_
    rotate_left; · simp only [Act.put, Y1, Y2, Y3, i64_w, i32_w]; rfl
    refine pure_ (i := 25) (N := some 30) (v := ?_) (a' := ?_) (Ymk 40 67108863) rfl rfl (zat HT_.out (by kernel_rfl)) (fun _ _ _ h => h) (Or.inl ⟨by rfl, ?_⟩) ?_ ?_
    rotate_left; · intro w'; go_simp; with_reducible rfl
    rotate_left; · simp only [Act.put, Y1, Y2, Y3, i64_w, i32_w]; rfl
    refine pure_ (i := 26) (N := some 31) (v := ?_) (a' := ?_) (Ymk 40 134217727) rfl rfl (zat HT_.out (by kernel_rfl)) (fun _ _ _ h => h) (Or.inl ⟨by rfl, ?_⟩) ?_ ?_
    rotate_left; · intro w'; go_simp; with_reducible rfl
    rotate_left; · simp only [Act.put, Y1, Y2, Y3, i64_w, i32_w]; rfl
    refine pure_ (i := 27) (N := some 32) (v := undef) (a' := ?_) (Ymk 40 268435455) rfl rfl (zat HT_.out (by kernel_rfl)) (fun _ _ _ h => h) (Or.inr ⟨by rfl, rfl⟩) ?_ ?_
    rotate_left; · simp only [Act.put, Y1, Y2, Y3, i64_w, i32_w]; rfl
    refine pure_ (i := 28) (N := some 33) (v := undef) (a' := ?_) (Ymk 40 536870911) rfl rfl (zat HT_.out (by kernel_rfl)) (fun _ _ _ h => h) (Or.inr ⟨by rfl, rfl⟩) ?_ ?_
    rotate_left; · simp only [Act.put, Y1, Y2, Y3, i64_w, i32_w]; rfl
    refine pure_ (i := 29) (N := some 34) (v := undef) (a' := ?_) (Ymk 40 1073741823) rfl rfl (zat HT_.out (by kernel_rfl)) (fun _ _ _ h => h) (Or.inr ⟨by rfl, rfl⟩) ?_ ?_
    rotate_left; · simp only [Act.put, Y1, Y2, Y3, i64_w, i32_w]; rfl
    refine pure_ (i := 30) (N := some 35) (v := ?_) (a' := ?_) (Ymk 40 2147483647) rfl rfl (zat HT_.out (by kernel_rfl)) (fun _ _ _ h => h) (Or.inl ⟨by rfl, ?_⟩) ?_ ?_
    rotate_left; · intro w'; go_simp; with_reducible rfl
    rotate_left; · simp only [Act.put, Y1, Y2, Y3, i64_w, i32_w]; rfl
    refine pure_ (i := 31) (N := some 36) (v := ?_) (a' := ?_) (Ymk 40 4294967295) rfl rfl (zat HT_.out (by kernel_rfl)) (fun _ _ _ h => h) (Or.inl ⟨by rfl, ?_⟩) ?_ ?_
    rotate_left; · intro w'; go_simp; with_reducible rfl
    rotate_left; · simp only [Act.put, Y1, Y2, Y3, i64_w, i32_w]; rfl
    refine pure_ (i := 32) (N := some 37) (v := undef) (a' := ?_) (Ymk 40 8589934591) rfl rfl (zat HT_.out (by kernel_rfl)) (fun _ _ _ h => h) (Or.inr ⟨by rfl, rfl⟩) ?_ ?_
    rotate_left; · simp only [Act.put, Y1, Y2, Y3, i64_w, i32_w]; rfl
    refine pure_ (i := 33) (N := some 38) (v := undef) (a' := ?_) (Ymk 40 17179869183) rfl rfl (zat HT_.out (by kernel_rfl)) (fun _ _ _ h => h) (Or.inr ⟨by rfl, rfl⟩) ?_ ?_
    rotate_left; · simp only [Act.put, Y1, Y2, Y3, i64_w, i32_w]; rfl
    refine pure_ (i := 34) (N := some 39) (v := undef) (a' := ?_) (Ymk 40 34359738367) rfl rfl (zat HT_.out (by kernel_rfl)) (fun _ _ _ h => h) (Or.inr ⟨by rfl, rfl⟩) ?_ ?_
    rotate_left; · simp only [Act.put, Y1, Y2, Y3, i64_w, i32_w]; rfl
    refine pure_ (i := 35) (N := some 40) (v := undef) (a' := ?_) (Ymk 40 68719476735) rfl rfl (zat HT_.out (by kernel_rfl)) (fun _ _ _ h => h) (Or.inr ⟨by rfl, rfl⟩) ?_ ?_
    rotate_left; · simp only [Act.put, Y1, Y2, Y3, i64_w, i32_w]; rfl
    refine pure_ (i := 36) (N := some 41) (v := undef) (a' := ?_) (Ymk 40 137438953471) rfl rfl (zat HT_.out (by kernel_rfl)) (fun _ _ _ h => h) (Or.inr ⟨by rfl, rfl⟩) ?_ ?_
    rotate_left; · simp only [Act.put, Y1, Y2, Y3, i64_w, i32_w]; rfl
    refine pure_ (i := 37) (N := some 42) (v := undef) (a' := ?_) (Ymk 40 274877906943) rfl rfl (zat HT_.out (by kernel_rfl)) (fun _ _ _ h => h) (Or.inr ⟨by rfl, rfl⟩) ?_ ?_
    rotate_left; · simp only [Act.put, Y1, Y2, Y3, i64_w, i32_w]; rfl
    refine pure_ (i := 38) (N := some 43) (v := ?_) (a' := ?_) (Ymk 40 549755813887) rfl rfl (zat HT_.out (by kernel_rfl)) (fun _ _ _ h => h) (Or.inl ⟨by rfl, ?_⟩) ?_ ?_
    rotate_left; · intro w'; go_simp; with_reducible rfl
    rotate_left; · simp only [Act.put, Y1, Y2, Y3, i64_w, i32_w]; rfl
    refine pure_ (i := 39) (N := some 4) (v := ?_) (a' := ?_) (Ymk 40 1099511627775) rfl rfl (zat HT_.out (by kernel_rfl)) (fun _ _ _ h => h) (Or.inl ⟨by rfl, ?_⟩) ?_ ?_
    rotate_left; · intro w'; go_simp; with_reducible rfl
    rotate_left; · simp only [Act.put, Y1, Y2, Y3, i64_w, i32_w]; rfl
    refine done_ (done_of HT_.out (by kernel_rfl)) ?_
    try go_wp2
    go_ret
    exact ⟨by first | rfl | (simp [za2, za3] <;> rfl) | (simp [*, za2, za3] <;> rfl), by repeat (first | (with_reducible first | exact HB.out | apply zah | apply zab | apply zaf | refine zal ?_ GE106.out | refine zal ?_ GE107.out) | exact HB.out)⟩
  ·rw [if_neg c4] at H
   have c4b0 : decide (a1_0 < (l0_2.length : Int)) = false := decide_eq_false c4
   clear c4;obtain rfl := Option.some.inj H
   refine pure_ (i := 9) (N := some 14) (v := ?_) (a' := ?_) (Ymk 40 1023) rfl rfl (zat HT_.out (by kernel_rfl)) (fun _ _ _ h => h) (Or.inl ⟨by rfl, ?_⟩) ?_ ?_
   rotate_left; · intro w'; go_simp; with_reducible rfl
   rotate_left; · simp only [Act.put, Y1, Y2, Y3, i64_w, i32_w]; rfl
   refine pure_ (i := 10) (N := some 15) (v := ?_) (a' := ?_) (Ymk 40 2047) rfl rfl (zat HT_.out (by kernel_rfl)) (fun _ _ _ h => h) (Or.inl ⟨by rfl, ?_⟩) ?_ ?_
   rotate_left; · intro w'; go_simp; with_reducible rfl
   rotate_left; · simp only [Act.put, Y1, Y2, Y3, i64_w, i32_w]; rfl
   refine pure_ (i := 11) (N := some 16) (v := ?_) (a' := ?_) (Ymk 40 4095) rfl rfl (zat HT_.out (by kernel_rfl)) (fun _ _ _ h => h) (Or.inl ⟨by rfl, ?_⟩) ?_ ?_
   rotate_left; · intro w'; go_simp; with_reducible rfl
   rotate_left; · simp only [Act.put, Y1, Y2, Y3, i64_w, i32_w]; rfl
   refine pure_ (i := 12) (N := some 17) (v := undef) (a' := ?_) (Ymk 40 8191) rfl rfl (zat HT_.out (by kernel_rfl)) (fun _ _ _ h => h) (Or.inr ⟨by rfl, rfl⟩) ?_ ?_
   rotate_left; · simp only [Act.put, Y1, Y2, Y3, i64_w, i32_w]; rfl
   refine pure_ (i := 13) (N := some 18) (v := undef) (a' := ?_) (Ymk 40 16383) rfl rfl (zat HT_.out (by kernel_rfl)) (fun _ _ _ h => h) (Or.inr ⟨by rfl, rfl⟩) ?_ ?_
   rotate_left; · simp only [Act.put, Y1, Y2, Y3, i64_w, i32_w]; rfl
   refine pure_ (i := 14) (N := some 19) (v := undef) (a' := ?_) (Ymk 40 32767) rfl rfl (zat HT_.out (by kernel_rfl)) (fun _ _ _ h => h) (Or.inr ⟨by rfl, rfl⟩) ?_ ?_
   rotate_left; · simp only [Act.put, Y1, Y2, Y3, i64_w, i32_w]; rfl
   refine pure_ (i := 15) (N := some 20) (v := ?_) (a' := ?_) (Ymk 40 65535) rfl rfl (zat HT_.out (by kernel_rfl)) (fun _ _ _ h => h) (Or.inl ⟨by rfl, ?_⟩) ?_ ?_
   rotate_left; · intro w'; go_simp; with_reducible rfl
   rotate_left; · simp only [Act.put, Y1, Y2, Y3, i64_w, i32_w]; rfl
   refine pure_ (i := 16) (N := some 21) (v := ?_) (a' := ?_) (Ymk 40 131071) rfl rfl (zat HT_.out (by kernel_rfl)) (fun _ _ _ h => h) (Or.inl ⟨by rfl, ?_⟩) ?_ ?_
   rotate_left; · intro w'; go_simp; with_reducible rfl
   rotate_left; · simp only [Act.put, Y1, Y2, Y3, i64_w, i32_w]; rfl
   refine pure_ (i := 17) (N := some 22) (v := undef) (a' := ?_) (Ymk 40 262143) rfl rfl (zat HT_.out (by kernel_rfl)) (fun _ _ _ h => h) (Or.inr ⟨by rfl, rfl⟩) ?_ ?_
   rotate_left; · simp only [Act.put, Y1, Y2, Y3, i64_w, i32_w]; rfl
   refine pure_ (i := 18) (N := some 23) (v := undef) (a' := ?_) (Ymk 40 524287) rfl rfl (zat HT_.out (by kernel_rfl)) (fun _ _ _ h => h) (Or.inr ⟨by rfl, rfl⟩) ?_ ?_
   rotate_left; · simp only [Act.put, Y1, Y2, Y3, i64_w, i32_w]; rfl
   refine pure_ (i := 19) (N := some 24) (v := undef) (a' := ?_) (Ymk 40 1048575) rfl rfl (zat HT_.out (by kernel_rfl)) (fun _ _ _ h => h) (Or.inr ⟨by rfl, rfl⟩) ?_ ?_
   rotate_left; · simp only [Act.put, Y1, Y2, Y3, i64_w, i32_w]; rfl
   refine pure_ (i := 20) (N := some 25) (v := undef) (a' := ?_) (Ymk 40 2097151) rfl rfl (zat HT_.out (by kernel_rfl)) (fun _ _ _ h => h) (Or.inr ⟨by rfl, rfl⟩) ?_ ?_
   rotate_left; · simp only [Act.put, Y1, Y2, Y3, i64_w, i32_w]; rfl
   refine pure_ (i := 21) (N := some 26) (v := undef) (a' := ?_) (Ymk 40 4194303) rfl rfl (zat HT_.out (by kernel_rfl)) (fun _ _ _ h => h) (Or.inr ⟨by rfl, rfl⟩) ?_ ?_
   rotate_left; · simp only [Act.put, Y1, Y2, Y3, i64_w, i32_w]; rfl
   refine pure_ (i := 22) (N := some 27) (v := undef) (a' := ?_) (Ymk 40 8388607) rfl rfl (zat HT_.out (by kernel_rfl)) (fun _ _ _ h => h) (Or.inr ⟨by rfl, rfl⟩) ?_ ?_
   rotate_left; · simp only [Act.put, Y1, Y2, Y3, i64_w, i32_w]; rfl
   refine pure_ (i := 23) (N := some 28) (v := undef) (a' := ?_) (Ymk 40 16777215) rfl rfl (zat HT_.out (by kernel_rfl)) (fun _ _ _ h => h) (Or.inr ⟨by rfl, rfl⟩) ?_ ?_
   rotate_left; · simp only [Act.put, Y1, Y2, Y3, i64_w, i32_w]; rfl
   refine pure_ (i := 24) (N := some 29) (v := undef) (a' := ?_) (Ymk 40 33554431) rfl rfl (zat HT_.out (by kernel_rfl)) (fun _ _ _ h => h) (Or.inr ⟨by rfl, rfl⟩) ?_ ?_
   rotate_left; · simp only [Act.put, Y1, Y2, Y3, i64_w, i32_w]; rfl
   refine pure_ (i := 25) (N := some 30) (v := ?_) (a' := ?_) (Ymk 40 67108863) rfl rfl (zat HT_.out (by kernel_rfl)) (fun _ _ _ h => h) (Or.inl ⟨by rfl, ?_⟩) ?_ ?_
   rotate_left; · intro w'; go_simp; with_reducible rfl
   rotate_left; · simp only [Act.put, Y1, Y2, Y3, i64_w, i32_w]; rfl
   refine pure_ (i := 26) (N := some 31) (v := ?_) (a' := ?_) (Ymk 40 134217727) rfl rfl (zat HT_.out (by kernel_rfl)) (fun _ _ _ h => h) (Or.inl ⟨by rfl, ?_⟩) ?_ ?_
   rotate_left; · intro w'; go_simp; with_reducible rfl
   rotate_left; · simp only [Act.put, Y1, Y2, Y3, i64_w, i32_w]; rfl
   refine pure_ (i := 27) (N := some 32) (v := undef) (a' := ?_) (Ymk 40 268435455) rfl rfl (zat HT_.out (by kernel_rfl)) (fun _ _ _ h => h) (Or.inr ⟨by rfl, rfl⟩) ?_ ?_
   rotate_left; · simp only [Act.put, Y1, Y2, Y3, i64_w, i32_w]; rfl
   refine pure_ (i := 28) (N := some 33) (v := undef) (a' := ?_) (Ymk 40 536870911) rfl rfl (zat HT_.out (by kernel_rfl)) (fun _ _ _ h => h) (Or.inr ⟨by rfl, rfl⟩) ?_ ?_
   rotate_left; · simp only [Act.put, Y1, Y2, Y3, i64_w, i32_w]; rfl
   refine pure_ (i := 29) (N := some 34) (v := undef) (a' := ?_) (Ymk 40 1073741823) rfl rfl (zat HT_.out (by kernel_rfl)) (fun _ _ _ h => h) (Or.inr ⟨by rfl, rfl⟩) ?_ ?_
   rotate_left; · simp only [Act.put, Y1, Y2, Y3, i64_w, i32_w]; rfl
   refine pure_ (i := 30) (N := some 35) (v := ?_) (a' := ?_) (Ymk 40 2147483647) rfl rfl (zat HT_.out (by kernel_rfl)) (fun _ _ _ h => h) (Or.inl ⟨by rfl, ?_⟩) ?_ ?_
   rotate_left; · intro w'; go_simp; with_reducible rfl
   rotate_left; · simp only [Act.put, Y1, Y2, Y3, i64_w, i32_w]; rfl
   refine pure_ (i := 31) (N := some 36) (v := ?_) (a' := ?_) (Ymk 40 4294967295) rfl rfl (zat HT_.out (by kernel_rfl)) (fun _ _ _ h => h) (Or.inl ⟨by rfl, ?_⟩) ?_ ?_
   rotate_left; · intro w'; go_simp; with_reducible rfl
   rotate_left; · simp only [Act.put, Y1, Y2, Y3, i64_w, i32_w]; rfl
   refine pure_ (i := 32) (N := some 37) (v := undef) (a' := ?_) (Ymk 40 8589934591) rfl rfl (zat HT_.out (by kernel_rfl)) (fun _ _ _ h => h) (Or.inr ⟨by rfl, rfl⟩) ?_ ?_
   rotate_left; · simp only [Act.put, Y1, Y2, Y3, i64_w, i32_w]; rfl
   refine pure_ (i := 33) (N := some 38) (v := undef) (a' := ?_) (Ymk 40 17179869183) rfl rfl (zat HT_.out (by kernel_rfl)) (fun _ _ _ h => h) (Or.inr ⟨by rfl, rfl⟩) ?_ ?_
   rotate_left; · simp only [Act.put, Y1, Y2, Y3, i64_w, i32_w]; rfl
   refine pure_ (i := 34) (N := some 39) (v := undef) (a' := ?_) (Ymk 40 34359738367) rfl rfl (zat HT_.out (by kernel_rfl)) (fun _ _ _ h => h) (Or.inr ⟨by rfl, rfl⟩) ?_ ?_
   rotate_left; · simp only [Act.put, Y1, Y2, Y3, i64_w, i32_w]; rfl
   refine pure_ (i := 35) (N := some 40) (v := undef) (a' := ?_) (Ymk 40 68719476735) rfl rfl (zat HT_.out (by kernel_rfl)) (fun _ _ _ h => h) (Or.inr ⟨by rfl, rfl⟩) ?_ ?_
   rotate_left; · simp only [Act.put, Y1, Y2, Y3, i64_w, i32_w]; rfl
   refine pure_ (i := 36) (N := some 41) (v := undef) (a' := ?_) (Ymk 40 137438953471) rfl rfl (zat HT_.out (by kernel_rfl)) (fun _ _ _ h => h) (Or.inr ⟨by rfl, rfl⟩) ?_ ?_
   rotate_left; · simp only [Act.put, Y1, Y2, Y3, i64_w, i32_w]; rfl
   refine pure_ (i := 37) (N := some 42) (v := undef) (a' := ?_) (Ymk 40 274877906943) rfl rfl (zat HT_.out (by kernel_rfl)) (fun _ _ _ h => h) (Or.inr ⟨by rfl, rfl⟩) ?_ ?_
   rotate_left; · simp only [Act.put, Y1, Y2, Y3, i64_w, i32_w]; rfl
   refine pure_ (i := 38) (N := some 43) (v := ?_) (a' := ?_) (Ymk 40 549755813887) rfl rfl (zat HT_.out (by kernel_rfl)) (fun _ _ _ h => h) (Or.inl ⟨by rfl, ?_⟩) ?_ ?_
   rotate_left; · intro w'; go_simp; with_reducible rfl
   rotate_left; · simp only [Act.put, Y1, Y2, Y3, i64_w, i32_w]; rfl
   refine pure_ (i := 39) (N := some 4) (v := ?_) (a' := ?_) (Ymk 40 1099511627775) rfl rfl (zat HT_.out (by kernel_rfl)) (fun _ _ _ h => h) (Or.inl ⟨by rfl, ?_⟩) ?_ ?_
   rotate_left; · intro w'; go_simp; with_reducible rfl
   rotate_left; · simp only [Act.put, Y1, Y2, Y3, i64_w, i32_w]; rfl
   refine done_ (done_of HT_.out (by kernel_rfl)) ?_
   try go_wp2
   go_ret
   exact ⟨by first | rfl | (simp [za2, za3] <;> rfl) | (simp [*, za2, za3] <;> rfl), by repeat (first | (with_reducible first | exact HB.out | apply zah | apply zab | apply zaf | refine zal ?_ GE106.out | refine zal ?_ GE107.out) | exact HB.out)⟩
 ·rw [if_neg c3] at H
  have c3b0 : decide ((-1) ≤ a1_0) = false := decide_eq_false c3
  clear c3;obtain rfl := Option.some.inj H
  refine pure_ (i := 2) (N := some 7) (v := ?_) (a' := ?_) (Ymk 40 7) rfl rfl (zat HT_.out (by kernel_rfl)) (fun _ _ _ h => h) (Or.inl ⟨by rfl, ?_⟩) ?_ ?_
  rotate_left; · intro w'; go_simp; with_reducible rfl
  rotate_left; · simp only [Act.put, Y1, Y2, Y3, i64_w, i32_w]; rfl
  refine pure_ (i := 3) (N := some 8) (v := ?_) (a' := ?_) (Ymk 40 15) rfl rfl (zat HT_.out (by kernel_rfl)) (fun _ _ _ h => h) (Or.inl ⟨by rfl, ?_⟩) ?_ ?_
  rotate_left; · intro w'; go_simp; with_reducible rfl
  rotate_left; · simp only [Act.put, Y1, Y2, Y3, i64_w, i32_w]; rfl
  refine pure_ (i := 4) (N := some 9) (v := undef) (a' := ?_) (Ymk 40 31) rfl rfl (zat HT_.out (by kernel_rfl)) (fun _ _ _ h => h) (Or.inr ⟨by rfl, rfl⟩) ?_ ?_
  rotate_left; · simp only [Act.put, Y1, Y2, Y3, i64_w, i32_w]; rfl
  refine pure_ (i := 5) (N := some 10) (v := undef) (a' := ?_) (Ymk 40 63) rfl rfl (zat HT_.out (by kernel_rfl)) (fun _ _ _ h => h) (Or.inr ⟨by rfl, rfl⟩) ?_ ?_
  rotate_left; · simp only [Act.put, Y1, Y2, Y3, i64_w, i32_w]; rfl
  refine pure_ (i := 6) (N := some 11) (v := undef) (a' := ?_) (Ymk 40 127) rfl rfl (zat HT_.out (by kernel_rfl)) (fun _ _ _ h => h) (Or.inr ⟨by rfl, rfl⟩) ?_ ?_
  rotate_left; · simp only [Act.put, Y1, Y2, Y3, i64_w, i32_w]; rfl
  refine pure_ (i := 7) (N := some 12) (v := undef) (a' := ?_) (Ymk 40 255) rfl rfl (zat HT_.out (by kernel_rfl)) (fun _ _ _ h => h) (Or.inr ⟨by rfl, rfl⟩) ?_ ?_
  rotate_left; · simp only [Act.put, Y1, Y2, Y3, i64_w, i32_w]; rfl
  refine pure_ (i := 8) (N := some 13) (v := undef) (a' := ?_) (Ymk 40 511) rfl rfl (zat HT_.out (by kernel_rfl)) (fun _ _ _ h => h) (Or.inr ⟨by rfl, rfl⟩) ?_ ?_
  rotate_left; · simp only [Act.put, Y1, Y2, Y3, i64_w, i32_w]; rfl
  refine pure_ (i := 9) (N := some 14) (v := undef) (a' := ?_) (Ymk 40 1023) rfl rfl (zat HT_.out (by kernel_rfl)) (fun _ _ _ h => h) (Or.inr ⟨by rfl, rfl⟩) ?_ ?_
  rotate_left; · simp only [Act.put, Y1, Y2, Y3, i64_w, i32_w]; rfl
  refine pure_ (i := 10) (N := some 15) (v := ?_) (a' := ?_) (Ymk 40 2047) rfl rfl (zat HT_.out (by kernel_rfl)) (fun _ _ _ h => h) (Or.inl ⟨by rfl, ?_⟩) ?_ ?_
  rotate_left; · intro w'; go_simp; with_reducible rfl
  rotate_left; · simp only [Act.put, Y1, Y2, Y3, i64_w, i32_w]; rfl
  refine pure_ (i := 11) (N := some 16) (v := ?_) (a' := ?_) (Ymk 40 4095) rfl rfl (zat HT_.out (by kernel_rfl)) (fun _ _ _ h => h) (Or.inl ⟨by rfl, ?_⟩) ?_ ?_
  rotate_left; · intro w'; go_simp; with_reducible rfl
  rotate_left; · simp only [Act.put, Y1, Y2, Y3, i64_w, i32_w]; rfl
  refine pure_ (i := 12) (N := some 17) (v := undef) (a' := ?_) (Ymk 40 8191) rfl rfl (zat HT_.out (by kernel_rfl)) (fun _ _ _ h => h) (Or.inr ⟨by rfl, rfl⟩) ?_ ?_
  rotate_left; · simp only [Act.put, Y1, Y2, Y3, i64_w, i32_w]; rfl
  refine pure_ (i := 13) (N := some 18) (v := undef) (a' := ?_) (Ymk 40 16383) rfl rfl (zat HT_.out (by kernel_rfl)) (fun _ _ _ h => h) (Or.inr ⟨by rfl, rfl⟩) ?_ ?_
  rotate_left; · simp only [Act.put, Y1, Y2, Y3, i64_w, i32_w]; rfl
  refine pure_ (i := 14) (N := some 19) (v := undef) (a' := ?_) (Ymk 40 32767) rfl rfl (zat HT_.out (by kernel_rfl)) (fun _ _ _ h => h) (Or.inr ⟨by rfl, rfl⟩) ?_ ?_
  rotate_left; · simp only [Act.put, Y1, Y2, Y3, i64_w, i32_w]; rfl
  refine pure_ (i := 15) (N := some 20) (v := ?_) (a' := ?_) (Ymk 40 65535) rfl rfl (zat HT_.out (by kernel_rfl)) (fun _ _ _ h => h) (Or.inl ⟨by rfl, ?_⟩) ?_ ?_
  rotate_left; · intro w'; go_simp; with_reducible rfl
  rotate_left; · simp only [Act.put, Y1, Y2, Y3, i64_w, i32_w]; rfl
  refine pure_ (i := 16) (N := some 21) (v := ?_) (a' := ?_) (Ymk 40 131071) rfl rfl (zat HT_.out (by kernel_rfl)) (fun _ _ _ h => h) (Or.inl ⟨by rfl, ?_⟩) ?_ ?_
  rotate_left; · intro w'; go_simp; with_reducible rfl
  rotate_left; · simp only [Act.put, Y1, Y2, Y3, i64_w, i32_w]; rfl
  refine pure_ (i := 17) (N := some 22) (v := undef) (a' := ?_) (Ymk 40 262143) rfl rfl (zat HT_.out (by kernel_rfl)) (fun _ _ _ h => h) (Or.inr ⟨by rfl, rfl⟩) ?_ ?_
  rotate_left; · simp only [Act.put, Y1, Y2, Y3, i64_w, i32_w]; rfl
  refine pure_ (i := 18) (N := some 23) (v := undef) (a' := ?_) (Ymk 40 524287) rfl rfl (zat HT_.out (by kernel_rfl)) (fun _ _ _ h => h) (Or.inr ⟨by rfl, rfl⟩) ?_ ?_
  rotate_left; · simp only [Act.put, Y1, Y2, Y3, i64_w, i32_w]; rfl
  refine pure_ (i := 19) (N := some 24) (v := undef) (a' := ?_) (Ymk 40 1048575) rfl rfl (zat HT_.out (by kernel_rfl)) (fun _ _ _ h => h) (Or.inr ⟨by rfl, rfl⟩) ?_ ?_
  rotate_left; · simp only [Act.put, Y1, Y2, Y3, i64_w, i32_w]; rfl
  refine pure_ (i := 20) (N := some 25) (v := undef) (a' := ?_) (Ymk 40 2097151) rfl rfl (zat HT_.out (by kernel_rfl)) (fun _ _ _ h => h) (Or.inr ⟨by rfl, rfl⟩) ?_ ?_
  rotate_left; · simp only [Act.put, Y1, Y2, Y3, i64_w, i32_w]; rfl
  refine pure_ (i := 21) (N := some 26) (v := undef) (a' := ?_) (Ymk 40 4194303) rfl rfl (zat HT_.out (by kernel_rfl)) (fun _ _ _ h => h) (Or.inr ⟨by rfl, rfl⟩) ?_ ?_
  rotate_left; · simp only [Act.put, Y1, Y2, Y3, i64_w, i32_w]; rfl
  refine pure_ (i := 22) (N := some 27) (v := undef) (a' := ?_) (Ymk 40 8388607) rfl rfl (zat HT_.out (by kernel_rfl)) (fun _ _ _ h => h) (Or.inr ⟨by rfl, rfl⟩) ?_ ?_
  rotate_left; · simp only [Act.put, Y1, Y2, Y3, i64_w, i32_w]; rfl
  refine pure_ (i := 23) (N := some 28) (v := undef) (a' := ?_) (Ymk 40 16777215) rfl rfl (zat HT_.out (by kernel_rfl)) (fun _ _ _ h => h) (Or.inr ⟨by rfl, rfl⟩) ?_ ?_
  rotate_left; · simp only [Act.put, Y1, Y2, Y3, i64_w, i32_w]; rfl
  refine pure_ (i := 24) (N := some 29) (v := undef) (a' := ?_) (Ymk 40 33554431) rfl rfl (zat HT_.out (by kernel_rfl)) (fun _ _ _ h => h) (Or.inr ⟨by rfl, rfl⟩) ?_ ?_
  rotate_left; · simp only [Act.put, Y1, Y2, Y3, i64_w, i32_w]; rfl
  refine pure_ (i := 25) (N := some 30) (v := ?_) (a' := ?_) (Ymk 40 67108863) rfl rfl (zat HT_.out (by kernel_rfl)) (fun _ _ _ h => h) (Or.inl ⟨by rfl, ?_⟩) ?_ ?_
  rotate_left; · intro w'; go_simp; with_reducible rfl
  rotate_left; · simp only [Act.put, Y1, Y2, Y3, i64_w, i32_w]; rfl
  refine pure_ (i := 26) (N := some 31) (v := ?_) (a' := ?_) (Ymk 40 134217727) rfl rfl (zat HT_.out (by kernel_rfl)) (fun _ _ _ h => h) (Or.inl ⟨by rfl, ?_⟩) ?_ ?_
  rotate_left; · intro w'; go_simp; with_reducible rfl
  rotate_left; · simp only [Act.put, Y1, Y2, Y3, i64_w, i32_w]; rfl
  refine pure_ (i := 27) (N := some 32) (v := undef) (a' := ?_) (Ymk 40 268435455) rfl rfl (zat HT_.out (by kernel_rfl)) (fun _ _ _ h => h) (Or.inr ⟨by rfl, rfl⟩) ?_ ?_
  rotate_left; · simp only [Act.put, Y1, Y2, Y3, i64_w, i32_w]; rfl
  refine pure_ (i := 28) (N := some 33) (v := undef) (a' := ?_) (Ymk 40 536870911) rfl rfl (zat HT_.out (by kernel_rfl)) (fun _ _ _ h => h) (Or.inr ⟨by rfl, rfl⟩) ?_ ?_
  rotate_left; · simp only [Act.put, Y1, Y2, Y3, i64_w, i32_w]; rfl
  refine pure_ (i := 29) (N := some 34) (v := undef) (a' := ?_) (Ymk 40 1073741823) rfl rfl (zat HT_.out (by kernel_rfl)) (fun _ _ _ h => h) (Or.inr ⟨by rfl, rfl⟩) ?_ ?_
  rotate_left; · simp only [Act.put, Y1, Y2, Y3, i64_w, i32_w]; rfl
  refine pure_ (i := 30) (N := some 35) (v := ?_) (a' := ?_) (Ymk 40 2147483647) rfl rfl (zat HT_.out (by kernel_rfl)) (fun _ _ _ h => h) (Or.inl ⟨by rfl, ?_⟩) ?_ ?_
  rotate_left; · intro w'; go_simp; with_reducible rfl
  rotate_left; · simp only [Act.put, Y1, Y2, Y3, i64_w, i32_w]; rfl
  refine pure_ (i := 31) (N := some 36) (v := ?_) (a' := ?_) (Ymk 40 4294967295) rfl rfl (zat HT_.out (by kernel_rfl)) (fun _ _ _ h => h) (Or.inl ⟨by rfl, ?_⟩) ?_ ?_
  rotate_left; · intro w'; go_simp; with_reducible rfl
  rotate_left; · simp only [Act.put, Y1, Y2, Y3, i64_w, i32_w]; rfl
  refine pure_ (i := 32) (N := some 37) (v := undef) (a' := ?_) (Ymk 40 8589934591) rfl rfl (zat HT_.out (by kernel_rfl)) (fun _ _ _ h => h) (Or.inr ⟨by rfl, rfl⟩) ?_ ?_
  rotate_left; · simp only [Act.put, Y1, Y2, Y3, i64_w, i32_w]; rfl
  refine pure_ (i := 33) (N := some 38) (v := undef) (a' := ?_) (Ymk 40 17179869183) rfl rfl (zat HT_.out (by kernel_rfl)) (fun _ _ _ h => h) (Or.inr ⟨by rfl, rfl⟩) ?_ ?_
  rotate_left; · simp only [Act.put, Y1, Y2, Y3, i64_w, i32_w]; rfl
  refine pure_ (i := 34) (N := some 39) (v := undef) (a' := ?_) (Ymk 40 34359738367) rfl rfl (zat HT_.out (by kernel_rfl)) (fun _ _ _ h => h) (Or.inr ⟨by rfl, rfl⟩) ?_ ?_
  rotate_left; · simp only [Act.put, Y1, Y2, Y3, i64_w, i32_w]; rfl
  refine pure_ (i := 35) (N := some 40) (v := undef) (a' := ?_) (Ymk 40 68719476735) rfl rfl (zat HT_.out (by kernel_rfl)) (fun _ _ _ h => h) (Or.inr ⟨by rfl, rfl⟩) ?_ ?_
  rotate_left; · simp only [Act.put, Y1, Y2, Y3, i64_w, i32_w]; rfl
  refine pure_ (i := 36) (N := some 41) (v := undef) (a' := ?_) (Ymk 40 137438953471) rfl rfl (zat HT_.out (by kernel_rfl)) (fun _ _ _ h => h) (Or.inr ⟨by rfl, rfl⟩) ?_ ?_
  rotate_left; · simp only [Act.put, Y1, Y2, Y3, i64_w, i32_w]; rfl
  refine pure_ (i := 37) (N := some 42) (v := undef) (a' := ?_) (Ymk 40 274877906943) rfl rfl (zat HT_.out (by kernel_rfl)) (fun _ _ _ h => h) (Or.inr ⟨by rfl, rfl⟩) ?_ ?_
  rotate_left; · simp only [Act.put, Y1, Y2, Y3, i64_w, i32_w]; rfl
  refine pure_ (i := 38) (N := some 43) (v := ?_) (a' := ?_) (Ymk 40 549755813887) rfl rfl (zat HT_.out (by kernel_rfl)) (fun _ _ _ h => h) (Or.inl ⟨by rfl, ?_⟩) ?_ ?_
  rotate_left; · intro w'; go_simp; with_reducible rfl
  rotate_left; · simp only [Act.put, Y1, Y2, Y3, i64_w, i32_w]; rfl
  refine pure_ (i := 39) (N := some 4) (v := ?_) (a' := ?_) (Ymk 40 1099511627775) rfl rfl (zat HT_.out (by kernel_rfl)) (fun _ _ _ h => h) (Or.inl ⟨by rfl, ?_⟩) ?_ ?_
  rotate_left; · intro w'; go_simp; with_reducible rfl
  rotate_left; · simp only [Act.put, Y1, Y2, Y3, i64_w, i32_w]; rfl
  refine done_ (done_of HT_.out (by kernel_rfl)) ?_
  try go_wp2
  go_ret
  exact ⟨by first | rfl | (simp [za2, za3] <;> rfl) | (simp [*, za2, za3] <;> rfl), by repeat (first | (with_reducible first | exact HB.out | apply zah | apply zab | apply zaf | refine zal ?_ GE106.out | refine zal ?_ GE107.out) | exact HB.out)⟩
end Go.Proofs.YtgdmjpehofdnpaaGreat.PNext
end
section
namespace Go.Proofs.YtgdmjpehofdnpaaGreat.PNext
open Go.RowKit Go.Proofs.YtgdmjpehofdnpaaGreatW.PrintWords Go.Proofs.YtgdmjpehofdnpaaGreatW.PrintLast Go.Proofs.YtgdmjpehofdnpaaGreatW.PrintMore
attribute [local go_sem] zcb zcc zcj zci zb6 zb4 zcf zce
set_option linter.unusedVariables false
set_option linter.unusedSimpArgs false
def zb5.f (l0_0 : List ByteArray) (l0_1 : List ByteArray) (l0_2 : List (S42)) (a1_0 : Int) (a1_1 : Int) (a1_2 : Int) : Option (Int × Bool) := (zb2.f l0_0 l0_1 l0_2 a1_0 a1_1 a1_2).bind fun t113 => (if t113 = true then ((zca.f l0_0 l0_1 l0_2 a1_0).bind fun t114 => (if 0 ≤ a1_1 then (if a1_1 ≤ (t114.length : Int) then ((some (t114.drop (a1_1 : Int).toNat : List (S44))).bind fun y117 => (if (y117.length : Int) = 0 then (some (0, false)) else (if 0 < (y117.length : Int) then (some ((zba y117 0).f0, true)) else (none)))) else (none)) else (none))) else (some (0, false)))
def zb5.T3 : Bool × List (List Nat × List Nat) := (true, [([], []), ([], []), ([1], [1]), ([0, 2], [0, 2]), ([], []), ([4], [4]), ([3, 5], [3, 5]), ([6, 3, 0, 1, 2, 3, 4, 5, 6], [6])])
def zb5.B3 : List Nat := [0, 0, 2, 7, 0, 16, 63, 127]
theorem zb5.tab3 : rtab .any (opsOf Tryz.f15 3) = zb5.T3 := by kernel_rfl
theorem zb5.bits3 : waitsOk zb5.T3.2 zb5.B3 = true := by kernel_rfl
set_option maxHeartbeats 8000000 in
set_option maxRecDepth 100000 in
theorem zb5.calls (A0_0 : Option Addr) (c0_0 : Nat) (l0_0 : List ByteArray) (A0_1 : Option Addr) (c0_1 : Nat) (l0_1 : List ByteArray) (A0_2 : Option Addr) (c0_2 : Nat) (l0_2 : List (S42)) (a1_0 : Int) (a1_1 : Int) (a1_2 : Int) (r1 : Int) (r2 : Bool) (w : World) (hr0_0 : Kd.C Kd.string w A0_0 l0_0.length l0_0) (hc0_0 : l0_0.length ≤ c0_0) (hr0_1 : Kd.C Kd.string w A0_1 l0_1.length l0_1) (hc0_1 : l0_1.length ≤ c0_1) (hr0_2 : Kd.C k42 w A0_2 l0_2.length l0_2) (hc0_2 : l0_2.length ≤ c0_2) (h : zb5.f l0_0 l0_1 l0_2 a1_0 a1_1 a1_2 = some (r1, r2)) :
  Calls Tryz.prog 15 #[.agg #[.slice A0_0 l0_0.length c0_0, .slice A0_1 l0_1.length c0_1, .slice A0_2 l0_2.length c0_2], .agg #[.int .i64 a1_0, .int .i64 a1_1, .int .i64 a1_2]] w fun e w' => e = .returned (.tuple #[.int .i64 r1, .bool r2]) ∧ Below w.heap.size w w' := by
 have hu25 := Tryz.underlying25
 have hu50 := Tryz.underlying50
 have HR0_0 := zaa.mk hr0_0;have HC0_0 := zaa.mk hc0_0;clear hr0_0 hc0_0;have HR0_1 := zaa.mk hr0_1;have HC0_1 := zaa.mk hc0_1;clear hr0_1 hc0_1;have HR0_2 := zaa.mk hr0_2;have HC0_2 := zaa.mk hc0_2;clear hr0_2 hc0_2
 have HB := zaa.mk (Below.refl w.heap.size w)
 have H : ((zb2.f l0_0 l0_1 l0_2 a1_0 a1_1 a1_2).bind fun t113 => (if t113 = true then ((zca.f l0_0 l0_1 l0_2 a1_0).bind fun t114 => (if 0 ≤ a1_1 then (if a1_1 ≤ (t114.length : Int) then ((some (t114.drop (a1_1 : Int).toNat : List (S44))).bind fun y117 => (if (y117.length : Int) = 0 then (some (0, false)) else (if 0 < (y117.length : Int) then (some ((zba y117 0).f0, true)) else (none)))) else (none)) else (none))) else (some (0, false)))) = some (r1, r2) := h
 clear h;replace H := Option.bind_eq_some_iff.mp H
 obtain ⟨t113, A30, H⟩ := H
 replace H : (if t113 = true then ((zca.f l0_0 l0_1 l0_2 a1_0).bind fun t114 => (if 0 ≤ a1_1 then (if a1_1 ≤ (t114.length : Int) then ((some (t114.drop (a1_1 : Int).toNat : List (S44))).bind fun y117 => (if (y117.length : Int) = 0 then (some (0, false)) else (if 0 < (y117.length : Int) then (some ((zba y117 0).f0, true)) else (none)))) else (none)) else (none))) else (some (0, false))) = some (r1, r2) := H
 have A3 := zaa.mk A30;clear A30
 by_cases c4 : t113 = true
 ·subst c4
  have H1 : ((zca.f l0_0 l0_1 l0_2 a1_0).bind fun t114 => (if 0 ≤ a1_1 then (if a1_1 ≤ (t114.length : Int) then ((some (t114.drop (a1_1 : Int).toNat : List (S44))).bind fun y117 => (if (y117.length : Int) = 0 then (some (0, false)) else (if 0 < (y117.length : Int) then (some ((zba y117 0).f0, true)) else (none)))) else (none)) else (none))) = some (r1, r2) := by rw [if_pos rfl] at H; exact H
  clear H;have H := H1;clear H1;replace H := Option.bind_eq_some_iff.mp H
  obtain ⟨t114, A50, H⟩ := H
  replace H : (if 0 ≤ a1_1 then (if a1_1 ≤ (t114.length : Int) then ((some (t114.drop (a1_1 : Int).toNat : List (S44))).bind fun y117 => (if (y117.length : Int) = 0 then (some (0, false)) else (if 0 < (y117.length : Int) then (some ((zba y117 0).f0, true)) else (none)))) else (none)) else (none)) = some (r1, r2) := H
  have A5 := zaa.mk A50;clear A50
  by_cases c6 : 0 ≤ a1_1
  ·rw [if_pos c6] at H
   have c6b0 := eq_true c6
   have c6b1 : decide (0 ≤ a1_1) = true := decide_eq_true c6
   clear c6
   by_cases c7 : a1_1 ≤ (t114.length : Int)
   ·rw [if_pos c7] at H
    have c7b0 := eq_true c7
    have c7b1 : decide (a1_1 ≤ (t114.length : Int)) = true := decide_eq_true c7
    clear c7
    obtain ⟨y117, hy117⟩ : ∃ y_ : List (S44), y_ = (t114.drop (a1_1 : Int).toNat) := ⟨_, rfl⟩
    replace H : (if (y117.length : Int) = 0 then (some (0, false)) else (if 0 < (y117.length : Int) then (some ((zba y117 0).f0, true)) else (none))) = some (r1, r2) := by first | (rw [hy117]; with_reducible exact H) | (have H2_ := (Option.bind_some _ _).symm.trans H; rw [hy117]; with_reducible exact H2_) | (have H2_ := (Option.bind_some _ _).symm.trans H; with_reducible exact H2_) | with_reducible exact H | (rw [hy117]; exact H) | exact H
    have Ny117 := zaa.mk hy117;clear hy117
    by_cases c8 : (y117.length : Int) = 0
    ·rw [if_pos c8] at H
     have c8b0 : ((y117.length : Int) == 0) = true := beq_iff_eq.mpr c8
     have c8b1 : ((y117.length : Int) != 0) = false := bne_eq_false_iff_eq.mpr c8
     clear c8
     simp only [Option.some.injEq, Prod.mk.injEq] at H
     obtain ⟨rfl, rfl⟩ := H
     go_enter Tryz.func15, Tryz.ntmps15
     try go_wp2_with (first | ((with_reducible refine zbh (N := 2) rfl ?_); refine zbe ?hg (N := 2) ?hd (cs := #[.slice A0_0 l0_0.length c0_0, .slice A0_1 l0_1.length c0_1, .slice A0_2 l0_2.length c0_2]) (t := 25) ?hr ?_; (case hd => rfl); (case hg => rfl); (case hr => first | (go_simp; done) | (go_simp; rfl)); intro gb111 hg w9 hbox hb; have n0_ := zaa.mk (zaw (by repeat (first | (with_reducible first | exact HB.out | apply zah | apply zab | apply zaf) | exact HB.out)) hb); have n1_ := zaa.mk (hbox); have n2_ := zaa.mk ((by rw [hg]; exact (zas (by repeat (first | (with_reducible first | exact HB.out | apply zah | apply zab | apply zaf) | exact HB.out))) : w.heap.size ≤ gb111)); have n3_ := zaa.mk ((by rw [hg]; exact (zas (by repeat (first | (with_reducible first | exact HB.out | apply zah | apply zab | apply zaf) | exact HB.out))) : w.heap.size ≤ gb111)); clear HB; have HB := n0_; have BK111 := n1_; have GW111 := n2_; have GE111 := n3_; clear n0_ n1_ n2_ n3_; clear hb hbox hg) | ((with_reducible refine zbh (N := 3) rfl ?_); refine zbe ?hg (N := 3) ?hd (cs := #[.int .i64 a1_0, .int .i64 a1_1, .int .i64 a1_2]) (t := 50) ?hr ?_; (case hd => rfl); (case hg => rfl); (case hr => first | (go_simp; done) | (go_simp; rfl)); intro gb112 hg w10 hbox hb; have n0_ := zaa.mk (zar (g := gb111) (o := .cells #[.slice A0_0 l0_0.length c0_0, .slice A0_1 l0_1.length c0_1, .slice A0_2 l0_2.length c0_2] 25 (0, 0)) (by (with_reducible repeat (first | refine zam ?_ _ | refine zaj ?_ | refine zai ?_ _)); exact BK111.out) hb); have n1_ := zaa.mk (zaw (by repeat (first | (with_reducible first | exact HB.out | apply zah | apply zab | apply zaf | refine zal ?_ GE111.out) | exact HB.out)) hb); have n2_ := zaa.mk (hbox); have n3_ := zaa.mk ((by rw [hg]; exact (zas (by repeat (first | (with_reducible first | exact HB.out | apply zah | apply zab | apply zaf | refine zal ?_ GE111.out) | exact HB.out))) : w.heap.size ≤ gb112)); have n4_ := zaa.mk ((by rw [hg]; exact (zas (by repeat (first | (with_reducible first | exact HB.out | apply zah | apply zab | apply zaf | refine zal ?_ GE111.out) | exact HB.out))) : w.heap.size ≤ gb112)); have n5_ := zaa.mk ((by rw [hg]; exact Nat.ne_of_lt (zav (g := gb111) (o := .cells #[.slice A0_0 l0_0.length c0_0, .slice A0_1 l0_1.length c0_1, .slice A0_2 l0_2.length c0_2] 25 (0, 0)) (by (with_reducible repeat (first | refine zam ?_ _ | refine zaj ?_ | refine zai ?_ _)); exact BK111.out)) : gb111 ≠ gb112)); have n6_ := zaa.mk ((by rw [hg]; exact Nat.ne_of_gt (zav (g := gb111) (o := .cells #[.slice A0_0 l0_0.length c0_0, .slice A0_1 l0_1.length c0_1, .slice A0_2 l0_2.length c0_2] 25 (0, 0)) (by (with_reducible repeat (first | refine zam ?_ _ | refine zaj ?_ | refine zai ?_ _)); exact BK111.out)) : gb112 ≠ gb111)); clear BK111; clear HB; have BK111 := n0_; have HB := n1_; have BK112 := n2_; have GW112 := n3_; have GE112 := n4_; have NB111_112 := n5_; have NB112_111 := n6_; clear n0_ n1_ n2_ n3_ n4_ n5_ n6_; clear hb hbox hg; have hnb11 := NB111_112.out; have hnc11 := NB112_111.out; have hcz12_0 : w10.cell? ⟨gb111, 0, none⟩ = some (.slice A0_0 l0_0.length c0_0) := (zac BK111.out 0).trans rfl; have hcz12_1 : w10.cell? ⟨gb111, 1, none⟩ = some (.slice A0_1 l0_1.length c0_1) := (zac BK111.out 1).trans rfl; have hcz12_2 : w10.cell? ⟨gb111, 2, none⟩ = some (.slice A0_2 l0_2.length c0_2) := (zac BK111.out 2).trans rfl; have hfz12_0 := zak BK111.out 0; have hfz12_1 := zak BK111.out 1; have hfz12_2 := zak BK111.out 2; have hcz13_0 : w10.cell? ⟨gb112, 0, none⟩ = some (.int .i64 a1_0) := (zac BK112.out 0).trans rfl; have hcz13_1 : w10.cell? ⟨gb112, 1, none⟩ = some (.int .i64 a1_1) := (zac BK112.out 1).trans rfl; have hcz13_2 : w10.cell? ⟨gb112, 2, none⟩ = some (.int .i64 a1_2) := (zac BK112.out 2).trans rfl; have hfz13_0 := zak BK112.out 0; have hfz13_1 := zak BK112.out 1; have hfz13_2 := zak BK112.out 2) | ((with_reducible refine zbo (f := 17) rfl ?_); refine zb9 (some 9) rfl rfl Tryz.func17 (by kernel_rfl) rfl #[.agg #[.slice A0_0 l0_0.length c0_0, .slice A0_1 l0_1.length c0_1, .slice A0_2 l0_2.length c0_2], .agg #[.int .i64 a1_0, .int .i64 a1_1, .int .i64 a1_2]] rfl (by (try simp only [List.map_toArray, List.map_cons, List.map_nil]); first | done | rfl | (simp only [List.length_drop, List.length_take]; rfl)) ?_; (with_reducible refine (zb2.calls _ _ l0_0 _ _ l0_1 _ _ l0_2 a1_0 a1_1 a1_2 true _ ?side1 ?side2 ?side3 ?side4 ?side5 ?side6 A3.out).mono ?_); (case side1 => repeat (first | exact (Kd.zax HR0_0.out HB.out) | (with_reducible refine Kd.za6 ?_ _) | (with_reducible refine Kd.za7 ?_ _) | (with_reducible refine Kd.za9 ?_))); (case side2 => exact HC0_0.out); (case side3 => repeat (first | exact (Kd.zax HR0_1.out HB.out) | (with_reducible refine Kd.za6 ?_ _) | (with_reducible refine Kd.za7 ?_ _) | (with_reducible refine Kd.za9 ?_))); (case side4 => exact HC0_1.out); (case side5 => repeat (first | exact (Kd.zax HR0_2.out HB.out) | (with_reducible refine Kd.za6 ?_ _) | (with_reducible refine Kd.za7 ?_ _) | (with_reducible refine Kd.za9 ?_))); (case side6 => exact HC0_2.out); rintro e w14 ⟨rfl, hb⟩; refine ⟨_, rfl, ?_⟩; have n0_ := zaa.mk (zar (g := gb111) (o := .cells #[.slice A0_0 l0_0.length c0_0, .slice A0_1 l0_1.length c0_1, .slice A0_2 l0_2.length c0_2] 25 (0, 0)) (by (with_reducible repeat (first | refine zam ?_ _ | refine zaj ?_ | refine zai ?_ _)); exact BK111.out) hb); have n1_ := zaa.mk (zar (g := gb112) (o := .cells #[.int .i64 a1_0, .int .i64 a1_1, .int .i64 a1_2] 50 (0, 0)) (by (with_reducible repeat (first | refine zam ?_ _ | refine zaj ?_ | refine zai ?_ _)); exact BK112.out) hb); have n2_ := zaa.mk (zaw (by repeat (first | (with_reducible first | exact HB.out | apply zah | apply zab | apply zaf | refine zal ?_ GE111.out | refine zal ?_ GE112.out) | exact HB.out)) hb); clear BK111; clear BK112; clear HB; have BK111 := n0_; have BK112 := n1_; have HB := n2_; clear n0_ n1_ n2_; (try clear hb); (try clear hb2); (try clear hk); (try clear hi)))
     have n0_ := zaa.mk (zaj BK111.out)
     have n1_ := zaa.mk (zaj BK112.out)
     have n2_ := zaa.mk (zaf HB.out)
     clear BK111;clear BK112;clear HB;have BK111 := n0_;have BK112 := n1_;have HB := n2_;clear n0_ n1_ n2_
     refine zb0 (n := 8) (S := fun w' => w'.cell? ⟨gb111, 0, none⟩ = some (.slice A0_0 l0_0.length c0_0) ∧ w'.cell? ⟨gb111, 1, none⟩ = some (.slice A0_1 l0_1.length c0_1) ∧ w'.cell? ⟨gb111, 2, none⟩ = some (.slice A0_2 l0_2.length c0_2) ∧ w'.cell? ⟨gb112, 0, none⟩ = some (.int .i64 a1_0) ∧ w'.cell? ⟨gb112, 1, none⟩ = some (.int .i64 a1_1) ∧ w'.cell? ⟨gb112, 2, none⟩ = some (.int .i64 a1_2)) (ds := []) #[Nf,Nf,Nf,Nf,Nf,Nf,Nf,Nf] (by kernel_rfl) rfl rfl ⟨(zac BK111.out 0).trans rfl, (zac BK111.out 1).trans rfl, (zac BK111.out 2).trans rfl, (zac BK112.out 0).trans rfl, (zac BK112.out 1).trans rfl, (zac BK112.out 2).trans rfl⟩ (fun hHeld => ?_); refine with_tabW zb5.tab3 zb5.bits3 (fun HT_ HW_ => ?_)
     generalize w14.drew = w15 at BK111 BK112 HB hHeld ⊢
     refine pure_ (i := 1) (N := some 12) (v := ?_) (a' := ?_) (Ymk 8 2) rfl rfl (zat HT_.out (by kernel_rfl)) (fun _ _ _ h => h) (Or.inl ⟨by rfl, ?_⟩) ?_ ?_
     rotate_left; · intro w'; go_simp; with_reducible rfl
     rotate_left; · simp only [Act.put, Y1, Y2, Y3, i64_w, i32_w]; rfl
     refine pure_ (i := 4) (N := some 15) (v := ?_) (a' := ?_) (Ymk 8 18) rfl rfl (zat HT_.out (by kernel_rfl)) (fun _ _ _ h => h) (Or.inl ⟨by rfl, ?_⟩) ?_ ?_
     rotate_left; · intro w'; go_simp; with_reducible rfl
     rotate_left; · simp only [Act.put, Y1, Y2, Y3, i64_w, i32_w]; rfl
     refine take_ (i := 0) (N := some 11) (v := ?_) (a' := ?_) (Ymk 8 19) rfl rfl (zbv HT_.out HW_.out (by kernel_rfl)) (fun _ _ _ h => h) (Or.inl ⟨by rfl, ?_⟩) hHeld ?_ ?_
     rotate_left
     ·rintro w' ⟨s0, s1, s2, s3, s4, s5⟩
      go_simp
      with_reducible rfl
     rotate_left; · simp only [Act.put, Y1, Y2, Y3, i64_w, i32_w]; rfl
     refine take_ (i := 2) (N := some 13) (v := ?_) (a' := ?_) (Ymk 8 23) rfl rfl (zbv HT_.out HW_.out (by kernel_rfl)) (fun _ _ _ h => h) (Or.inl ⟨by rfl, ?_⟩) hHeld ?_ ?_
     rotate_left
     ·rintro w' ⟨s0, s1, s2, s3, s4, s5⟩
      go_simp
      with_reducible rfl
     rotate_left; · simp only [Act.put, Y1, Y2, Y3, i64_w, i32_w]; rfl
     refine take_ (i := 5) (N := some 16) (v := ?_) (a' := ?_) (Ymk 8 55) rfl rfl (zbv HT_.out HW_.out (by kernel_rfl)) (fun _ _ _ h => h) (Or.inl ⟨by rfl, ?_⟩) hHeld ?_ ?_
     rotate_left
     ·rintro w' ⟨s0, s1, s2, s3, s4, s5⟩
      go_simp
      with_reducible rfl
     rotate_left; · simp only [Act.put, Y1, Y2, Y3, i64_w, i32_w]; rfl
     refine one_ (i := 3) (N := some 14) (Ymk 8 63) rfl rfl (one_of HT_.out (by kernel_rfl)) (by decide) (fun K hK => ?_)
     refine goes_ Tryz.func35 (by kernel_rfl) rfl #[.agg #[.slice A0_0 l0_0.length c0_0, .slice A0_1 l0_1.length c0_1, .slice A0_2 l0_2.length c0_2], .int .i64 a1_0] (by rfl) rfl rfl (by (try simp only [List.map_toArray, List.map_cons, List.map_nil]); first | done | rfl | (simp only [List.length_drop, List.length_take]; rfl)) ?_
     with_reducible refine (zca.calls _ _ l0_0 _ _ l0_1 (fun k_ => k_ < w.heap.size) _ _ l0_2 a1_0 t114 _ ?side1 ?side2 ?side3 ?side4 ?side5 A5.out).mono ?_
     (case side1 => repeat (first | exact (Kd.zax HR0_0.out HB.out) | (with_reducible refine Kd.za6 ?_ _) | (with_reducible refine Kd.za7 ?_ _) | (with_reducible refine Kd.za9 ?_)))
     (case side2 => exact HC0_0.out)
     (case side3 => repeat (first | exact (Kd.zax HR0_1.out HB.out) | (with_reducible refine Kd.za6 ?_ _) | (with_reducible refine Kd.za7 ?_ _) | (with_reducible refine Kd.za9 ?_)))
     (case side4 => exact HC0_1.out)
     (case side5 => exact Kd.V_mk HC0_2.out (Kd.F_below (Kd.C_F k42_heap HR0_2.out) (by repeat (first | (with_reducible first | exact HB.out | apply zah | apply zab | apply zaf | refine zal ?_ GE111.out | refine zal ?_ GE112.out) | exact HB.out))))
     rintro e w16 ⟨v115, rfl, ho0, hb⟩
     refine ⟨_, rfl, ?_⟩
     have n0_ := zaa.mk (Kd.V_lower (Kd.V_mono (ok' := fun k_ => k_ ≠ gb111 ∧ k_ ≠ gb112) ho0 (fun k_ hk_ => ⟨Or.elim hk_ (fun hs_ => fun e_ => Nat.not_le.2 hs_ (by rw [e_]; exact GW111.out)) (fun hn_ => (Kd.freshB (g := gb111) (o := .cells #[.slice A0_0 l0_0.length c0_0, .slice A0_1 l0_1.length c0_1, .slice A0_2 l0_2.length c0_2] 25 (0, 0)) (by (with_reducible repeat (first | refine zam ?_ _ | refine zaj ?_ | refine zai ?_ _)); exact BK111.out) k_ hn_)), Or.elim hk_ (fun hs_ => fun e_ => Nat.not_le.2 hs_ (by rw [e_]; exact GW112.out)) (fun hn_ => (Kd.freshB (g := gb112) (o := .cells #[.int .i64 a1_0, .int .i64 a1_1, .int .i64 a1_2] 50 (0, 0)) (by (with_reducible repeat (first | refine zam ?_ _ | refine zaj ?_ | refine zai ?_ _)); exact BK112.out) k_ hn_))⟩)) (zas (by repeat (first | (with_reducible first | exact HB.out | apply zah | apply zab | apply zaf | refine zal ?_ GE111.out | refine zal ?_ GE112.out) | exact HB.out))))
     have n1_ := zaa.mk (zar (g := gb111) (o := .cells #[.slice A0_0 l0_0.length c0_0, .slice A0_1 l0_1.length c0_1, .slice A0_2 l0_2.length c0_2] 25 (0, 0)) (by (with_reducible repeat (first | refine zam ?_ _ | refine zaj ?_ | refine zai ?_ _)); exact BK111.out) hb)
     have n2_ := zaa.mk (zar (g := gb112) (o := .cells #[.int .i64 a1_0, .int .i64 a1_1, .int .i64 a1_2] 50 (0, 0)) (by (with_reducible repeat (first | refine zam ?_ _ | refine zaj ?_ | refine zai ?_ _)); exact BK112.out) hb)
     have n3_ := zaa.mk (zaw (by repeat (first | (with_reducible first | exact HB.out | apply zah | apply zab | apply zaf | refine zal ?_ GE111.out | refine zal ?_ GE112.out) | exact HB.out)) hb)
     clear BK111;clear BK112;clear HB;have HO116 := n0_;have BK111 := n1_;have BK112 := n2_;have HB := n3_;clear n0_ n1_ n2_ n3_
     (try clear hb)
     (try clear hb2)
     (try clear hk)
     (try clear hi)
     (try clear ho0)
     obtain ⟨Ao18, co18, eo18⟩ := Kd.V_slice HO116.out
     (first | subst eo18 | (injection eo18 with f1_ f2_ f3_; have f4_ := f1_.symm; have f5_ := f3_.symm; clear f1_ f2_ f3_; subst f4_; subst f5_))
     have q17 : (a1_1 : Int) ≤ ((t114.length : Int) : Int) := of_decide_eq_true (by first | (with_reducible assumption) | assumption)
     obtain ⟨i017, hi017, _, hsz17, _⟩ := info_parts info44
     have hroom17 : t114.length ≤ co18 := (Kd.V_reads' HO116.out).2.1
     have hC17 : Kd.F k44 _ _ Ao18 t114.length t114 := (Kd.V_at (base := w.heap.size) HO116.out).2.2
     have q017 : (0 : Int) ≤ (a1_1 : Int) := of_decide_eq_true (by first | (with_reducible assumption) | assumption)
     have hcut17 := cut_from (P := Tryz.prog) 40 44 .i64 Tryz.underlying40 hi017 3 hsz17 Ao18 t114.length co18 a1_1 q017 q17
     have hr17 := Kd.F_cut (m := (a1_1 : Int).toNat) (c := co18) hC17 (by omega) hroom17
     obtain ⟨A17, hA17⟩ : ∃ A1, A1 = (if co18 = (a1_1 : Int).toNat then Ao18 else (Ao18 : Option Addr).map (·.add ((a1_1 : Int).toNat * 3))) := ⟨_, rfl⟩
     obtain ⟨c17, hc17⟩ : ∃ c1, c1 = co18 - (a1_1 : Int).toNat := ⟨_, rfl⟩
     have hy17 : y117.length = t114.length - (a1_1 : Int).toNat := (by rw [Ny117.out, List.length_drop] <;> omega)
     rw [show (t114).drop (a1_1 : Int).toNat = y117 from Ny117.out.symm] at hr17
     replace hr17 : Kd.F k44 _ _ A17 y117.length y117 := (by rw [hA17]; exact hr17)
     rw [← hy17, ← hA17, ← hc17] at hcut17
     have HO121 := zaa.mk (show Kd.V k44 44 _ w.heap.size _ (.slice A17 y117.length c17) y117 from Kd.V_mk (by rw [hy17, hc17]; exact Nat.sub_le_sub_right hroom17 _) hr17)
     have HC121 := zaa.mk (show y117.length ≤ c17 from by rw [hy17, hc17]; exact Nat.sub_le_sub_right hroom17 _)
     clear hr17 hC17 hroom17 hi017 hsz17 hc17;have KY17 := zaa.mk hy17;have KA17 := zaa.mk hA17;clear hy17 hA17
     replace q17 := eq_true q17
     refine hK.out _ _ ⟨(zac BK111.out 0).trans rfl, (zac BK111.out 1).trans rfl, (zac BK111.out 2).trans rfl, (zac BK112.out 0).trans rfl, (zac BK112.out 1).trans rfl, (zac BK112.out 2).trans rfl⟩ (fun hHeld => ?_)
     clear hK K
     refine norm_ (a' := ?_) ?_ ?_
     rotate_left
     ·show Act.put _ (some 14) _ = _
      simp only [Act.put, Y1, Y2, Y3, i64_w, i32_w]
      rfl
     refine pure_ (i := 6) (N := some 17) (v := ?_) (a' := ?_) (Ymk 8 127) rfl rfl (zat HT_.out (by kernel_rfl)) (fun _ _ _ h => h) (Or.inl ⟨by rfl, ?_⟩) ?_ ?_
     rotate_left; · intro w'; go_simp; with_reducible rfl
     rotate_left; · simp only [Act.put, Y1, Y2, Y3, i64_w, i32_w]; rfl
     refine pure_ (i := 7) (N := some 6) (v := ?_) (a' := ?_) (Ymk 8 255) rfl rfl (zat HT_.out (by kernel_rfl)) (fun _ _ _ h => h) (Or.inl ⟨by rfl, ?_⟩) ?_ ?_
     rotate_left; · intro w'; go_simp; with_reducible rfl
     rotate_left; · simp only [Act.put, Y1, Y2, Y3, i64_w, i32_w]; rfl
     refine done_ (done_of HT_.out (by kernel_rfl)) ?_
     try go_wp2
     go_ret2
     exact ⟨by first | rfl | (simp [za2, za3] <;> rfl) | (simp [*, za2, za3] <;> rfl), by repeat (first | (with_reducible first | exact HB.out | apply zah | apply zab | apply zaf | refine zal ?_ GE111.out | refine zal ?_ GE112.out) | exact HB.out)⟩
    ·rw [if_neg c8] at H
     have c8b0 : ((y117.length : Int) == 0) = false := beq_eq_false_iff_ne.mpr c8
     have c8b1 : ((y117.length : Int) != 0) = true := bne_iff_ne.mpr c8
     have c8b2 : ¬ (y117 = []) := fun h_ => c8 (by rw [h_]; rfl)
     by_cases c19 : 0 < (y117.length : Int)
     ·rw [if_pos c19] at H
      have c19b0 : decide (0 < (y117.length : Int)) = true := decide_eq_true c19
      have c19b1 : decide (0 < y117.length) = true := decide_eq_true (by omega)
      clear c19
      simp only [Option.some.injEq, Prod.mk.injEq] at H
      obtain ⟨rfl, rfl⟩ := H
      go_enter Tryz.func15, Tryz.ntmps15
      try go_wp2_with (first | ((with_reducible refine zbh (N := 2) rfl ?_); refine zbe ?hg (N := 2) ?hd (cs := #[.slice A0_0 l0_0.length c0_0, .slice A0_1 l0_1.length c0_1, .slice A0_2 l0_2.length c0_2]) (t := 25) ?hr ?_; (case hd => rfl); (case hg => rfl); (case hr => first | (go_simp; done) | (go_simp; rfl)); intro gb111 hg w20 hbox hb; have n0_ := zaa.mk (zaw (by repeat (first | (with_reducible first | exact HB.out | apply zah | apply zab | apply zaf) | exact HB.out)) hb); have n1_ := zaa.mk (hbox); have n2_ := zaa.mk ((by rw [hg]; exact (zas (by repeat (first | (with_reducible first | exact HB.out | apply zah | apply zab | apply zaf) | exact HB.out))) : w.heap.size ≤ gb111)); have n3_ := zaa.mk ((by rw [hg]; exact (zas (by repeat (first | (with_reducible first | exact HB.out | apply zah | apply zab | apply zaf) | exact HB.out))) : w.heap.size ≤ gb111)); clear HB; have HB := n0_; have BK111 := n1_; have GW111 := n2_; have GE111 := n3_; clear n0_ n1_ n2_ n3_; clear hb hbox hg) | ((with_reducible refine zbh (N := 3) rfl ?_); refine zbe ?hg (N := 3) ?hd (cs := #[.int .i64 a1_0, .int .i64 a1_1, .int .i64 a1_2]) (t := 50) ?hr ?_; (case hd => rfl); (case hg => rfl); (case hr => first | (go_simp; done) | (go_simp; rfl)); intro gb112 hg w21 hbox hb; have n0_ := zaa.mk (zar (g := gb111) (o := .cells #[.slice A0_0 l0_0.length c0_0, .slice A0_1 l0_1.length c0_1, .slice A0_2 l0_2.length c0_2] 25 (0, 0)) (by (with_reducible repeat (first | refine zam ?_ _ | refine zaj ?_ | refine zai ?_ _)); exact BK111.out) hb); have n1_ := zaa.mk (zaw (by repeat (first | (with_reducible first | exact HB.out | apply zah | apply zab | apply zaf | refine zal ?_ GE111.out) | exact HB.out)) hb); have n2_ := zaa.mk (hbox); have n3_ := zaa.mk ((by rw [hg]; exact (zas (by repeat (first | (with_reducible first | exact HB.out | apply zah | apply zab | apply zaf | refine zal ?_ GE111.out) | exact HB.out))) : w.heap.size ≤ gb112)); have n4_ := zaa.mk ((by rw [hg]; exact (zas (by repeat (first | (with_reducible first | exact HB.out | apply zah | apply zab | apply zaf | refine zal ?_ GE111.out) | exact HB.out))) : w.heap.size ≤ gb112)); have n5_ := zaa.mk ((by rw [hg]; exact Nat.ne_of_lt (zav (g := gb111) (o := .cells #[.slice A0_0 l0_0.length c0_0, .slice A0_1 l0_1.length c0_1, .slice A0_2 l0_2.length c0_2] 25 (0, 0)) (by (with_reducible repeat (first | refine zam ?_ _ | refine zaj ?_ | refine zai ?_ _)); exact BK111.out)) : gb111 ≠ gb112)); have n6_ := zaa.mk ((by rw [hg]; exact Nat.ne_of_gt (zav (g := gb111) (o := .cells #[.slice A0_0 l0_0.length c0_0, .slice A0_1 l0_1.length c0_1, .slice A0_2 l0_2.length c0_2] 25 (0, 0)) (by (with_reducible repeat (first | refine zam ?_ _ | refine zaj ?_ | refine zai ?_ _)); exact BK111.out)) : gb112 ≠ gb111)); clear BK111; clear HB; have BK111 := n0_; have HB := n1_; have BK112 := n2_; have GW112 := n3_; have GE112 := n4_; have NB111_112 := n5_; have NB112_111 := n6_; clear n0_ n1_ n2_ n3_ n4_ n5_ n6_; clear hb hbox hg; have hnb22 := NB111_112.out; have hnc22 := NB112_111.out; have hcz23_0 : w21.cell? ⟨gb111, 0, none⟩ = some (.slice A0_0 l0_0.length c0_0) := (zac BK111.out 0).trans rfl; have hcz23_1 : w21.cell? ⟨gb111, 1, none⟩ = some (.slice A0_1 l0_1.length c0_1) := (zac BK111.out 1).trans rfl; have hcz23_2 : w21.cell? ⟨gb111, 2, none⟩ = some (.slice A0_2 l0_2.length c0_2) := (zac BK111.out 2).trans rfl; have hfz23_0 := zak BK111.out 0; have hfz23_1 := zak BK111.out 1; have hfz23_2 := zak BK111.out 2; have hcz24_0 : w21.cell? ⟨gb112, 0, none⟩ = some (.int .i64 a1_0) := (zac BK112.out 0).trans rfl; have hcz24_1 : w21.cell? ⟨gb112, 1, none⟩ = some (.int .i64 a1_1) := (zac BK112.out 1).trans rfl; have hcz24_2 : w21.cell? ⟨gb112, 2, none⟩ = some (.int .i64 a1_2) := (zac BK112.out 2).trans rfl; have hfz24_0 := zak BK112.out 0; have hfz24_1 := zak BK112.out 1; have hfz24_2 := zak BK112.out 2) | ((with_reducible refine zbo (f := 17) rfl ?_); refine zb9 (some 9) rfl rfl Tryz.func17 (by kernel_rfl) rfl #[.agg #[.slice A0_0 l0_0.length c0_0, .slice A0_1 l0_1.length c0_1, .slice A0_2 l0_2.length c0_2], .agg #[.int .i64 a1_0, .int .i64 a1_1, .int .i64 a1_2]] rfl (by (try simp only [List.map_toArray, List.map_cons, List.map_nil]); first | done | rfl | (simp only [List.length_drop, List.length_take]; rfl)) ?_; (with_reducible refine (zb2.calls _ _ l0_0 _ _ l0_1 _ _ l0_2 a1_0 a1_1 a1_2 true _ ?side1 ?side2 ?side3 ?side4 ?side5 ?side6 A3.out).mono ?_); (case side1 => repeat (first | exact (Kd.zax HR0_0.out HB.out) | (with_reducible refine Kd.za6 ?_ _) | (with_reducible refine Kd.za7 ?_ _) | (with_reducible refine Kd.za9 ?_))); (case side2 => exact HC0_0.out); (case side3 => repeat (first | exact (Kd.zax HR0_1.out HB.out) | (with_reducible refine Kd.za6 ?_ _) | (with_reducible refine Kd.za7 ?_ _) | (with_reducible refine Kd.za9 ?_))); (case side4 => exact HC0_1.out); (case side5 => repeat (first | exact (Kd.zax HR0_2.out HB.out) | (with_reducible refine Kd.za6 ?_ _) | (with_reducible refine Kd.za7 ?_ _) | (with_reducible refine Kd.za9 ?_))); (case side6 => exact HC0_2.out); rintro e w25 ⟨rfl, hb⟩; refine ⟨_, rfl, ?_⟩; have n0_ := zaa.mk (zar (g := gb111) (o := .cells #[.slice A0_0 l0_0.length c0_0, .slice A0_1 l0_1.length c0_1, .slice A0_2 l0_2.length c0_2] 25 (0, 0)) (by (with_reducible repeat (first | refine zam ?_ _ | refine zaj ?_ | refine zai ?_ _)); exact BK111.out) hb); have n1_ := zaa.mk (zar (g := gb112) (o := .cells #[.int .i64 a1_0, .int .i64 a1_1, .int .i64 a1_2] 50 (0, 0)) (by (with_reducible repeat (first | refine zam ?_ _ | refine zaj ?_ | refine zai ?_ _)); exact BK112.out) hb); have n2_ := zaa.mk (zaw (by repeat (first | (with_reducible first | exact HB.out | apply zah | apply zab | apply zaf | refine zal ?_ GE111.out | refine zal ?_ GE112.out) | exact HB.out)) hb); clear BK111; clear BK112; clear HB; have BK111 := n0_; have BK112 := n1_; have HB := n2_; clear n0_ n1_ n2_; (try clear hb); (try clear hb2); (try clear hk); (try clear hi)))
      have n0_ := zaa.mk (zaj BK111.out)
      have n1_ := zaa.mk (zaj BK112.out)
      have n2_ := zaa.mk (zaf HB.out)
      clear BK111;clear BK112;clear HB;have BK111 := n0_;have BK112 := n1_;have HB := n2_;clear n0_ n1_ n2_
      refine zb0 (n := 8) (S := fun w' => w'.cell? ⟨gb111, 0, none⟩ = some (.slice A0_0 l0_0.length c0_0) ∧ w'.cell? ⟨gb111, 1, none⟩ = some (.slice A0_1 l0_1.length c0_1) ∧ w'.cell? ⟨gb111, 2, none⟩ = some (.slice A0_2 l0_2.length c0_2) ∧ w'.cell? ⟨gb112, 0, none⟩ = some (.int .i64 a1_0) ∧ w'.cell? ⟨gb112, 1, none⟩ = some (.int .i64 a1_1) ∧ w'.cell? ⟨gb112, 2, none⟩ = some (.int .i64 a1_2)) (ds := []) #[Nf,Nf,Nf,Nf,Nf,Nf,Nf,Nf] (by kernel_rfl) rfl rfl ⟨(zac BK111.out 0).trans rfl, (zac BK111.out 1).trans rfl, (zac BK111.out 2).trans rfl, (zac BK112.out 0).trans rfl, (zac BK112.out 1).trans rfl, (zac BK112.out 2).trans rfl⟩ (fun hHeld => ?_); refine with_tabW zb5.tab3 zb5.bits3 (fun HT_ HW_ => ?_)
      generalize w25.drew = w26 at BK111 BK112 HB hHeld ⊢
      refine pure_ (i := 1) (N := some 12) (v := ?_) (a' := ?_) (Ymk 8 2) rfl rfl (zat HT_.out (by kernel_rfl)) (fun _ _ _ h => h) (Or.inl ⟨by rfl, ?_⟩) ?_ ?_
      rotate_left; · intro w'; go_simp; with_reducible rfl
      rotate_left; · simp only [Act.put, Y1, Y2, Y3, i64_w, i32_w]; rfl
      refine pure_ (i := 4) (N := some 15) (v := ?_) (a' := ?_) (Ymk 8 18) rfl rfl (zat HT_.out (by kernel_rfl)) (fun _ _ _ h => h) (Or.inl ⟨by rfl, ?_⟩) ?_ ?_
      rotate_left; · intro w'; go_simp; with_reducible rfl
      rotate_left; · simp only [Act.put, Y1, Y2, Y3, i64_w, i32_w]; rfl
      refine take_ (i := 0) (N := some 11) (v := ?_) (a' := ?_) (Ymk 8 19) rfl rfl (zbv HT_.out HW_.out (by kernel_rfl)) (fun _ _ _ h => h) (Or.inl ⟨by rfl, ?_⟩) hHeld ?_ ?_
      rotate_left
      ·rintro w' ⟨s0, s1, s2, s3, s4, s5⟩
       go_simp
       with_reducible rfl
      rotate_left; · simp only [Act.put, Y1, Y2, Y3, i64_w, i32_w]; rfl
      refine take_ (i := 2) (N := some 13) (v := ?_) (a' := ?_) (Ymk 8 23) rfl rfl (zbv HT_.out HW_.out (by kernel_rfl)) (fun _ _ _ h => h) (Or.inl ⟨by rfl, ?_⟩) hHeld ?_ ?_
      rotate_left
      ·rintro w' ⟨s0, s1, s2, s3, s4, s5⟩
       go_simp
       with_reducible rfl
      rotate_left; · simp only [Act.put, Y1, Y2, Y3, i64_w, i32_w]; rfl
      refine take_ (i := 5) (N := some 16) (v := ?_) (a' := ?_) (Ymk 8 55) rfl rfl (zbv HT_.out HW_.out (by kernel_rfl)) (fun _ _ _ h => h) (Or.inl ⟨by rfl, ?_⟩) hHeld ?_ ?_
      rotate_left
      ·rintro w' ⟨s0, s1, s2, s3, s4, s5⟩
       go_simp
       with_reducible rfl
      rotate_left; · simp only [Act.put, Y1, Y2, Y3, i64_w, i32_w]; rfl
      refine one_ (i := 3) (N := some 14) (Ymk 8 63) rfl rfl (one_of HT_.out (by kernel_rfl)) (by decide) (fun K hK => ?_)
      refine goes_ Tryz.func35 (by kernel_rfl) rfl #[.agg #[.slice A0_0 l0_0.length c0_0, .slice A0_1 l0_1.length c0_1, .slice A0_2 l0_2.length c0_2], .int .i64 a1_0] (by rfl) rfl rfl (by (try simp only [List.map_toArray, List.map_cons, List.map_nil]); first | done | rfl | (simp only [List.length_drop, List.length_take]; rfl)) ?_
      with_reducible refine (zca.calls _ _ l0_0 _ _ l0_1 (fun k_ => k_ < w.heap.size) _ _ l0_2 a1_0 t114 _ ?side1 ?side2 ?side3 ?side4 ?side5 A5.out).mono ?_
      (case side1 => repeat (first | exact (Kd.zax HR0_0.out HB.out) | (with_reducible refine Kd.za6 ?_ _) | (with_reducible refine Kd.za7 ?_ _) | (with_reducible refine Kd.za9 ?_)))
      (case side2 => exact HC0_0.out)
      (case side3 => repeat (first | exact (Kd.zax HR0_1.out HB.out) | (with_reducible refine Kd.za6 ?_ _) | (with_reducible refine Kd.za7 ?_ _) | (with_reducible refine Kd.za9 ?_)))
      (case side4 => exact HC0_1.out)
      (case side5 => exact Kd.V_mk HC0_2.out (Kd.F_below (Kd.C_F k42_heap HR0_2.out) (by repeat (first | (with_reducible first | exact HB.out | apply zah | apply zab | apply zaf | refine zal ?_ GE111.out | refine zal ?_ GE112.out) | exact HB.out))))
      rintro e w27 ⟨v115, rfl, ho0, hb⟩
      refine ⟨_, rfl, ?_⟩
      have n0_ := zaa.mk (Kd.V_lower (Kd.V_mono (ok' := fun k_ => k_ ≠ gb111 ∧ k_ ≠ gb112) ho0 (fun k_ hk_ => ⟨Or.elim hk_ (fun hs_ => fun e_ => Nat.not_le.2 hs_ (by rw [e_]; exact GW111.out)) (fun hn_ => (Kd.freshB (g := gb111) (o := .cells #[.slice A0_0 l0_0.length c0_0, .slice A0_1 l0_1.length c0_1, .slice A0_2 l0_2.length c0_2] 25 (0, 0)) (by (with_reducible repeat (first | refine zam ?_ _ | refine zaj ?_ | refine zai ?_ _)); exact BK111.out) k_ hn_)), Or.elim hk_ (fun hs_ => fun e_ => Nat.not_le.2 hs_ (by rw [e_]; exact GW112.out)) (fun hn_ => (Kd.freshB (g := gb112) (o := .cells #[.int .i64 a1_0, .int .i64 a1_1, .int .i64 a1_2] 50 (0, 0)) (by (with_reducible repeat (first | refine zam ?_ _ | refine zaj ?_ | refine zai ?_ _)); exact BK112.out) k_ hn_))⟩)) (zas (by repeat (first | (with_reducible first | exact HB.out | apply zah | apply zab | apply zaf | refine zal ?_ GE111.out | refine zal ?_ GE112.out) | exact HB.out))))
      have n1_ := zaa.mk (zar (g := gb111) (o := .cells #[.slice A0_0 l0_0.length c0_0, .slice A0_1 l0_1.length c0_1, .slice A0_2 l0_2.length c0_2] 25 (0, 0)) (by (with_reducible repeat (first | refine zam ?_ _ | refine zaj ?_ | refine zai ?_ _)); exact BK111.out) hb)
      have n2_ := zaa.mk (zar (g := gb112) (o := .cells #[.int .i64 a1_0, .int .i64 a1_1, .int .i64 a1_2] 50 (0, 0)) (by (with_reducible repeat (first | refine zam ?_ _ | refine zaj ?_ | refine zai ?_ _)); exact BK112.out) hb)
      have n3_ := zaa.mk (zaw (by repeat (first | (with_reducible first | exact HB.out | apply zah | apply zab | apply zaf | refine zal ?_ GE111.out | refine zal ?_ GE112.out) | exact HB.out)) hb)
      clear BK111;clear BK112;clear HB;have HO116 := n0_;have BK111 := n1_;have BK112 := n2_;have HB := n3_;clear n0_ n1_ n2_ n3_
      (try clear hb)
      (try clear hb2)
      (try clear hk)
      (try clear hi)
      (try clear ho0)
      obtain ⟨Ao29, co29, eo29⟩ := Kd.V_slice HO116.out
      (first | subst eo29 | (injection eo29 with f1_ f2_ f3_; have f4_ := f1_.symm; have f5_ := f3_.symm; clear f1_ f2_ f3_; subst f4_; subst f5_))
      have q28 : (a1_1 : Int) ≤ ((t114.length : Int) : Int) := of_decide_eq_true (by first | (with_reducible assumption) | assumption)
      obtain ⟨i028, hi028, _, hsz28, _⟩ := info_parts info44
      have hroom28 : t114.length ≤ co29 := (Kd.V_reads' HO116.out).2.1
      have hC28 : Kd.F k44 _ _ Ao29 t114.length t114 := (Kd.V_at (base := w.heap.size) HO116.out).2.2
      have q028 : (0 : Int) ≤ (a1_1 : Int) := of_decide_eq_true (by first | (with_reducible assumption) | assumption)
      have hcut28 := cut_from (P := Tryz.prog) 40 44 .i64 Tryz.underlying40 hi028 3 hsz28 Ao29 t114.length co29 a1_1 q028 q28
      have hr28 := Kd.F_cut (m := (a1_1 : Int).toNat) (c := co29) hC28 (by omega) hroom28
      obtain ⟨A28, hA28⟩ : ∃ A1, A1 = (if co29 = (a1_1 : Int).toNat then Ao29 else (Ao29 : Option Addr).map (·.add ((a1_1 : Int).toNat * 3))) := ⟨_, rfl⟩
      obtain ⟨c28, hc28⟩ : ∃ c1, c1 = co29 - (a1_1 : Int).toNat := ⟨_, rfl⟩
      have hy28 : y117.length = t114.length - (a1_1 : Int).toNat := (by rw [Ny117.out, List.length_drop] <;> omega)
      rw [show (t114).drop (a1_1 : Int).toNat = y117 from Ny117.out.symm] at hr28
      replace hr28 : Kd.F k44 _ _ A28 y117.length y117 := (by rw [hA28]; exact hr28)
      rw [← hy28, ← hA28, ← hc28] at hcut28
      have HO121 := zaa.mk (show Kd.V k44 44 _ w.heap.size _ (.slice A28 y117.length c28) y117 from Kd.V_mk (by rw [hy28, hc28]; exact Nat.sub_le_sub_right hroom28 _) hr28)
      have HC121 := zaa.mk (show y117.length ≤ c28 from by rw [hy28, hc28]; exact Nat.sub_le_sub_right hroom28 _)
      clear hr28 hC28 hroom28 hi028 hsz28 hc28;have KY28 := zaa.mk hy28;have KA28 := zaa.mk hA28;clear hy28 hA28
      replace q28 := eq_true q28
      refine hK.out _ _ ⟨(zac BK111.out 0).trans rfl, (zac BK111.out 1).trans rfl, (zac BK111.out 2).trans rfl, (zac BK112.out 0).trans rfl, (zac BK112.out 1).trans rfl, (zac BK112.out 2).trans rfl⟩ (fun hHeld => ?_)
      clear hK K
      refine norm_ (a' := ?_) ?_ ?_
      rotate_left
      ·show Act.put _ (some 14) _ = _
       simp only [Act.put, Y1, Y2, Y3, i64_w, i32_w]
       rfl
      refine pure_ (i := 6) (N := some 17) (v := ?_) (a' := ?_) (Ymk 8 127) rfl rfl (zat HT_.out (by kernel_rfl)) (fun _ _ _ h => h) (Or.inl ⟨by rfl, ?_⟩) ?_ ?_
      rotate_left; · intro w'; go_simp; with_reducible rfl
      rotate_left; · simp only [Act.put, Y1, Y2, Y3, i64_w, i32_w]; rfl
      refine pure_ (i := 7) (N := some 6) (v := ?_) (a' := ?_) (Ymk 8 255) rfl rfl (zat HT_.out (by kernel_rfl)) (fun _ _ _ h => h) (Or.inl ⟨by rfl, ?_⟩) ?_ ?_
      rotate_left; · intro w'; go_simp; with_reducible rfl
      rotate_left; · simp only [Act.put, Y1, Y2, Y3, i64_w, i32_w]; rfl
      refine done_ (done_of HT_.out (by kernel_rfl)) ?_
      have p122 : 0 ≤ (0 : Int) := (by omega)
      have q122 : 0 < (y117.length : Int) := of_decide_eq_true (by first | (with_reducible assumption) | assumption)
      obtain ⟨ad122, e122, hx122_0, hx122_1, hx122_2⟩ := at_T44 (Kd.V_reads' HO121.out).2.2 0 p122 q122
      cases e122
      have qi122 : (0 < y117.length) = True := eq_true (by omega)
      (try rw [show ((0 : Int)).toNat = 0 from rfl] at hx122_0)
      (try rw [show 0 * 3 = 0 from rfl] at hx122_0)
      (try rw [Addr.add_zero'] at hx122_0)
      (try rw [show ((0 : Int)).toNat = 0 from rfl] at hx122_1)
      (try rw [show 0 * 3 = 0 from rfl] at hx122_1)
      (try rw [Addr.add_zero'] at hx122_1)
      (try rw [show ((0 : Int)).toNat = 0 from rfl] at hx122_2)
      (try rw [show 0 * 3 = 0 from rfl] at hx122_2)
      (try rw [Addr.add_zero'] at hx122_2)
      replace p122 := eq_true p122
      replace q122 := eq_true q122
      try go_wp2
      go_ret2
      exact ⟨by first | rfl | (simp [za2, za3] <;> rfl) | (simp [*, za2, za3] <;> rfl), by repeat (first | (with_reducible first | exact HB.out | apply zah | apply zab | apply zaf | refine zal ?_ GE111.out | refine zal ?_ GE112.out) | exact HB.out)⟩
     ·rw [if_neg c19] at H
      exact absurd H (by simp)
   ·rw [if_neg c7] at H
    exact absurd H (by simp)
  ·rw [if_neg c6] at H
   exact absurd H (by simp)
 ·replace c4 := Bool.eq_false_iff.mpr c4
  subst c4
  have H1 : (some (0, false)) = some (r1, r2) := by rw [if_neg (show ¬ (false = true) by decide)] at H; exact H
  clear H;have H := H1;clear H1
  simp only [Option.some.injEq, Prod.mk.injEq] at H
  obtain ⟨rfl, rfl⟩ := H
  go_enter Tryz.func15, Tryz.ntmps15
  go_wp2_with (first | ((with_reducible refine zbh (N := 2) rfl ?_); refine zbe ?hg (N := 2) ?hd (cs := #[.slice A0_0 l0_0.length c0_0, .slice A0_1 l0_1.length c0_1, .slice A0_2 l0_2.length c0_2]) (t := 25) ?hr ?_; (case hd => rfl); (case hg => rfl); (case hr => first | (go_simp; done) | (go_simp; rfl)); intro gb111 hg w30 hbox hb; have n0_ := zaa.mk (zaw (by repeat (first | (with_reducible first | exact HB.out | apply zah | apply zab | apply zaf) | exact HB.out)) hb); have n1_ := zaa.mk (hbox); have n2_ := zaa.mk ((by rw [hg]; exact (zas (by repeat (first | (with_reducible first | exact HB.out | apply zah | apply zab | apply zaf) | exact HB.out))) : w.heap.size ≤ gb111)); have n3_ := zaa.mk ((by rw [hg]; exact (zas (by repeat (first | (with_reducible first | exact HB.out | apply zah | apply zab | apply zaf) | exact HB.out))) : w.heap.size ≤ gb111)); clear HB; have HB := n0_; have BK111 := n1_; have GW111 := n2_; have GE111 := n3_; clear n0_ n1_ n2_ n3_; clear hb hbox hg) | ((with_reducible refine zbh (N := 3) rfl ?_); refine zbe ?hg (N := 3) ?hd (cs := #[.int .i64 a1_0, .int .i64 a1_1, .int .i64 a1_2]) (t := 50) ?hr ?_; (case hd => rfl); (case hg => rfl); (case hr => first | (go_simp; done) | (go_simp; rfl)); intro gb112 hg w31 hbox hb; have n0_ := zaa.mk (zar (g := gb111) (o := .cells #[.slice A0_0 l0_0.length c0_0, .slice A0_1 l0_1.length c0_1, .slice A0_2 l0_2.length c0_2] 25 (0, 0)) (by (with_reducible repeat (first | refine zam ?_ _ | refine zaj ?_ | refine zai ?_ _)); exact BK111.out) hb); have n1_ := zaa.mk (zaw (by repeat (first | (with_reducible first | exact HB.out | apply zah | apply zab | apply zaf | refine zal ?_ GE111.out) | exact HB.out)) hb); have n2_ := zaa.mk (hbox); have n3_ := zaa.mk ((by rw [hg]; exact (zas (by repeat (first | (with_reducible first | exact HB.out | apply zah | apply zab | apply zaf | refine zal ?_ GE111.out) | exact HB.out))) : w.heap.size ≤ gb112)); have n4_ := zaa.mk ((by rw [hg]; exact (zas (by repeat (first | (with_reducible first | exact HB.out | apply zah | apply zab | apply zaf | refine zal ?_ GE111.out) | exact HB.out))) : w.heap.size ≤ gb112)); have n5_ := zaa.mk ((by rw [hg]; exact Nat.ne_of_lt (zav (g := gb111) (o := .cells #[.slice A0_0 l0_0.length c0_0, .slice A0_1 l0_1.length c0_1, .slice A0_2 l0_2.length c0_2] 25 (0, 0)) (by (with_reducible repeat (first | refine zam ?_ _ | refine zaj ?_ | refine zai ?_ _)); exact BK111.out)) : gb111 ≠ gb112)); have n6_ := zaa.mk ((by rw [hg]; exact Nat.ne_of_gt (zav (g := gb111) (o := .cells #[.slice A0_0 l0_0.length c0_0, .slice A0_1 l0_1.length c0_1, .slice A0_2 l0_2.length c0_2] 25 (0, 0)) (by (with_reducible repeat (first | refine zam ?_ _ | refine zaj ?_ | refine zai ?_ _)); exact BK111.out)) : gb112 ≠ gb111)); clear BK111; clear HB; have BK111 := n0_; have HB := n1_; have BK112 := n2_; have GW112 := n3_; have GE112 := n4_; have NB111_112 := n5_; have NB112_111 := n6_; clear n0_ n1_ n2_ n3_ n4_ n5_ n6_; clear hb hbox hg; have hnb32 := NB111_112.out; have hnc32 := NB112_111.out; have hcz33_0 : w31.cell? ⟨gb111, 0, none⟩ = some (.slice A0_0 l0_0.length c0_0) := (zac BK111.out 0).trans rfl; have hcz33_1 : w31.cell? ⟨gb111, 1, none⟩ = some (.slice A0_1 l0_1.length c0_1) := (zac BK111.out 1).trans rfl; have hcz33_2 : w31.cell? ⟨gb111, 2, none⟩ = some (.slice A0_2 l0_2.length c0_2) := (zac BK111.out 2).trans rfl; have hfz33_0 := zak BK111.out 0; have hfz33_1 := zak BK111.out 1; have hfz33_2 := zak BK111.out 2; have hcz34_0 : w31.cell? ⟨gb112, 0, none⟩ = some (.int .i64 a1_0) := (zac BK112.out 0).trans rfl; have hcz34_1 : w31.cell? ⟨gb112, 1, none⟩ = some (.int .i64 a1_1) := (zac BK112.out 1).trans rfl; have hcz34_2 : w31.cell? ⟨gb112, 2, none⟩ = some (.int .i64 a1_2) := (zac BK112.out 2).trans rfl; have hfz34_0 := zak BK112.out 0; have hfz34_1 := zak BK112.out 1; have hfz34_2 := zak BK112.out 2) | ((with_reducible refine zbo (f := 17) rfl ?_); refine zb9 (some 9) rfl rfl Tryz.func17 (by kernel_rfl) rfl #[.agg #[.slice A0_0 l0_0.length c0_0, .slice A0_1 l0_1.length c0_1, .slice A0_2 l0_2.length c0_2], .agg #[.int .i64 a1_0, .int .i64 a1_1, .int .i64 a1_2]] rfl (by (try simp only [List.map_toArray, List.map_cons, List.map_nil]); first | done | rfl | (simp only [List.length_drop, List.length_take]; rfl)) ?_; (with_reducible refine (zb2.calls _ _ l0_0 _ _ l0_1 _ _ l0_2 a1_0 a1_1 a1_2 false _ ?side1 ?side2 ?side3 ?side4 ?side5 ?side6 A3.out).mono ?_); (case side1 => repeat (first | exact (Kd.zax HR0_0.out HB.out) | (with_reducible refine Kd.za6 ?_ _) | (with_reducible refine Kd.za7 ?_ _) | (with_reducible refine Kd.za9 ?_))); (case side2 => exact HC0_0.out); (case side3 => repeat (first | exact (Kd.zax HR0_1.out HB.out) | (with_reducible refine Kd.za6 ?_ _) | (with_reducible refine Kd.za7 ?_ _) | (with_reducible refine Kd.za9 ?_))); (case side4 => exact HC0_1.out); (case side5 => repeat (first | exact (Kd.zax HR0_2.out HB.out) | (with_reducible refine Kd.za6 ?_ _) | (with_reducible refine Kd.za7 ?_ _) | (with_reducible refine Kd.za9 ?_))); (case side6 => exact HC0_2.out); rintro e w35 ⟨rfl, hb⟩; refine ⟨_, rfl, ?_⟩; have n0_ := zaa.mk (zar (g := gb111) (o := .cells #[.slice A0_0 l0_0.length c0_0, .slice A0_1 l0_1.length c0_1, .slice A0_2 l0_2.length c0_2] 25 (0, 0)) (by (with_reducible repeat (first | refine zam ?_ _ | refine zaj ?_ | refine zai ?_ _)); exact BK111.out) hb); have n1_ := zaa.mk (zar (g := gb112) (o := .cells #[.int .i64 a1_0, .int .i64 a1_1, .int .i64 a1_2] 50 (0, 0)) (by (with_reducible repeat (first | refine zam ?_ _ | refine zaj ?_ | refine zai ?_ _)); exact BK112.out) hb); have n2_ := zaa.mk (zaw (by repeat (first | (with_reducible first | exact HB.out | apply zah | apply zab | apply zaf | refine zal ?_ GE111.out | refine zal ?_ GE112.out) | exact HB.out)) hb); clear BK111; clear BK112; clear HB; have BK111 := n0_; have BK112 := n1_; have HB := n2_; clear n0_ n1_ n2_; (try clear hb); (try clear hb2); (try clear hk); (try clear hi)))
  go_ret2
  exact ⟨by first | rfl | (simp [za2, za3] <;> rfl) | (simp [*, za2, za3] <;> rfl), by repeat (first | (with_reducible first | exact HB.out | apply zah | apply zab | apply zaf | refine zal ?_ GE111.out | refine zal ?_ GE112.out) | exact HB.out)⟩
end Go.Proofs.YtgdmjpehofdnpaaGreat.PNext
end
section
namespace Go.Proofs.YtgdmjpehofdnpaaGreat.POf
open Go.RowKit Go.Proofs.YtgdmjpehofdnpaaGreatW.PrintWords Go.Proofs.YtgdmjpehofdnpaaGreatW.PrintLast Go.Proofs.YtgdmjpehofdnpaaGreatW.PrintMore
attribute [local go_sem] zcb zcc zcj zci zb6 zb4 zcf zce
set_option linter.unusedVariables false
set_option linter.unusedSimpArgs false
def errW : Option Int → Value
 | none => .nilIface
 | some c => .iface 0 (.int .i64 c)
theorem za2 : errW none = .nilIface := rfl
theorem za3 (c : Int) : errW (some c) = .iface 0 (.int .i64 c) := rfl
theorem info3 : (Tryz.prog.info? 3).map (fun i => (i.zero, i.size, i.bytes)) = some (some (.int .i64 0), 1, 8) := by kernel_rfl
structure S44 where
 f0 : Int
 f1 : ByteArray
 f2 : ByteArray
def z44 : S44 := ⟨(0 : Int), (⟨#[]⟩ : ByteArray), (⟨#[]⟩ : ByteArray)⟩
def k44 : Kd S44 := Kd.iso (Kd.pair (Kd.int .i64) (Kd.pair Kd.string Kd.string)) (fun x : S44 => (x.f0, x.f1, x.f2))
theorem k44_open {w : World} {x : S44} {cs : List Value} (h : k44.K w x cs) : cs = [.int .i64 x.f0, .string x.f1, .string x.f2] := by
 obtain ⟨_, _, rfl, rfl, ⟨_, _, rfl, rfl, rfl⟩⟩ := h
 exact rfl
theorem k44_mkM (w : World) (base : Nat) (ok : Nat → Prop) (x : S44)  : k44.M w base ok x [.int .i64 x.f0, .string x.f1, .string x.f2] := ⟨[.int .i64 x.f0], [.string x.f1, .string x.f2], rfl, rfl, ⟨[.string x.f1], [.string x.f2], rfl, rfl, rfl⟩⟩
def zba (xs : List S44) (i : Int) : S44 := xs.getD i.toNat z44
theorem at_T44 {w : World} {A : Option Addr} {n : Nat} {xs : List S44} (h : Kd.C k44 w A n xs) (i : Int) (h0 : 0 ≤ i) (h1 : i < n) : ∃ ad , A = some ad ∧ w.cell? (ad.add (i.toNat * 3)) = some (.int .i64 (zba xs i).f0) ∧ w.cell? ⟨(ad.add (i.toNat * 3)).block, (ad.add (i.toNat * 3)).off + 1, none⟩ = some (.string (zba xs i).f1) ∧ w.cell? ⟨(ad.add (i.toNat * 3)).block, (ad.add (i.toNat * 3)).off + 2, none⟩ = some (.string (zba xs i).f2) := by
 obtain ⟨ad, c, e, _, hK, hc0⟩ := Kd.C_get h z44 i h0 h1
 have hc : ∀ j u, c[j]? = some u → w.cell? (ad.add (i.toNat * 3 + j)) = some u := hc0
 obtain rfl := k44_open hK
 exact ⟨ad, e, hc 0 _ rfl, by rw [← zbs _ _ 1 (by omega)]; exact hc 1 _ rfl, by rw [← zbs _ _ 2 (by omega)]; exact hc 2 _ rfl⟩
structure S42 where
 f0 : Int
 f1 : (List S44)
 f2 : Int
def z42 : S42 := ⟨(0 : Int), ([] : List S44), (0 : Int)⟩
def k42 : Kd S42 := Kd.iso (Kd.pair (Kd.int .i64) (Kd.pair (Kd.slice 44 k44) (Kd.int .i64))) (fun x : S42 => (x.f0, x.f1, x.f2))
theorem k42_open {w : World} {x : S42} {cs : List Value} (h : k42.K w x cs) : ∃ A1 c1, cs = [.int .i64 x.f0, .slice A1 x.f1.length c1, .int .i64 x.f2] ∧ x.f1.length ≤ c1 ∧ k44.C w A1 x.f1.length x.f1 := by
 obtain ⟨_, _, rfl, rfl, ⟨_, _, rfl, ⟨A1, c1, rfl, l1, g1⟩, rfl⟩⟩ := h
 exact ⟨A1, c1, rfl, l1, g1⟩
theorem k42_mk (w : World) (x : S42) {A1 : Option Addr} {c1 : Nat} (l1 : x.f1.length ≤ c1) (g1 : k44.C w A1 x.f1.length x.f1) : k42.K w x [.int .i64 x.f0, .slice A1 x.f1.length c1, .int .i64 x.f2] := ⟨[.int .i64 x.f0], [.slice A1 x.f1.length c1, .int .i64 x.f2], rfl, rfl, ⟨[.slice A1 x.f1.length c1], [.int .i64 x.f2], rfl, ⟨A1, c1, rfl, l1, g1⟩, rfl⟩⟩
def zae (xs : List S42) (i : Int) : S42 := xs.getD i.toNat z42
theorem at_T42 {w : World} {A : Option Addr} {n : Nat} {xs : List S42} (h : Kd.C k42 w A n xs) (i : Int) (h0 : 0 ≤ i) (h1 : i < n) : ∃ ad A1 c1, A = some ad ∧ w.cell? (ad.add (i.toNat * 3)) = some (.int .i64 (zae xs i).f0) ∧ w.cell? ⟨(ad.add (i.toNat * 3)).block, (ad.add (i.toNat * 3)).off + 1, none⟩ = some (.slice A1 (zae xs i).f1.length c1) ∧ w.cell? ⟨(ad.add (i.toNat * 3)).block, (ad.add (i.toNat * 3)).off + 2, none⟩ = some (.int .i64 (zae xs i).f2) ∧ (zae xs i).f1.length ≤ c1 ∧ k44.C w A1 (zae xs i).f1.length (zae xs i).f1 := by
 obtain ⟨ad, c, e, _, hK, hc0⟩ := Kd.C_get h z42 i h0 h1
 have hc : ∀ j u, c[j]? = some u → w.cell? (ad.add (i.toNat * 3 + j)) = some u := hc0
 obtain ⟨A1, c1, rfl, l1, g1⟩ := k42_open hK
 exact ⟨ad, A1, c1, e, hc 0 _ rfl, by rw [← zbs _ _ 1 (by omega)]; exact hc 1 _ rfl, by rw [← zbs _ _ 2 (by omega)]; exact hc 2 _ rfl, l1, g1⟩
structure S25 where
 f0 : (List ByteArray)
 f1 : (List ByteArray)
 f2 : (List S42)
def z25 : S25 := ⟨([] : List ByteArray), ([] : List ByteArray), ([] : List S42)⟩
end Go.Proofs.YtgdmjpehofdnpaaGreat.POf
end
section
namespace Go.Proofs.YtgdmjpehofdnpaaGreat.POf
open Go.RowKit Go.Proofs.YtgdmjpehofdnpaaGreatW.PrintWords Go.Proofs.YtgdmjpehofdnpaaGreatW.PrintLast Go.Proofs.YtgdmjpehofdnpaaGreatW.PrintMore
attribute [local go_sem] zcb zcc zcj zci zb6 zb4 zcf zce
set_option linter.unusedVariables false
set_option linter.unusedSimpArgs false
def zbu.l0 : Nat → Int → List Int → List (S42) → Int → Int → Option (List Int)
 | 0, _, _, _, _, _ => none
 | k + 1, x1, x5, x9, x10, x11 => if x11 < x10 then (if 0 ≤ x11 then (if x11 < (x9.length : Int) then (if ((zae x9 x11).f0) = x1 then (if x5.length < 17592186044416 then (zbu.l0 k x1 (x5 ++ [x11]) x9 x10 (wrap64 (x11 + 1))) else (none)) else (zbu.l0 k x1 x5 x9 x10 (wrap64 (x11 + 1)))) else (none)) else (none)) else (some x5)
def zbu.f (k : Nat) (l0_0 : List ByteArray) (l0_1 : List ByteArray) (l0_2 : List (S42)) (a1 : Int) : Option (List Int) := zbu.l0 k a1 ([] : List Int) l0_2 (l0_2.length : Int) 0
theorem zbu.zbw : ∀ k, (∀ y0 y1 y2 y3 y4, LeO (zbu.l0 k y0 y1 y2 y3 y4) (zbu.l0 (k + 1) y0 y1 y2 y3 y4))
 | 0 => fun _ _ _ _ _ r h => by simp [zbu.l0] at h
 | k + 1 => by
  have ih0 := zbu.zbw k
  ·intro y0 y1 y2 y3 y4
   unfold zbu.l0
   repeat' first
   | (with_reducible exact ih0 _ _ _ _ _)
   | (with_reducible exact LeO.refl _)
   | (with_reducible exact LeO.none _)
   | (with_reducible refine LeO.ite ?_ ?_)
   | (with_reducible refine LeO.bind ?_ (fun _ => ?_))
   | exact ih0 _ _ _ _ _
   | exact LeO.none _
   | refine LeO.ite ?_ ?_
   | refine LeO.bind ?_ (fun _ => ?_)
theorem zbu.mono : ∀ a0 a1 a2 a3 k, LeO (zbu.f k a0 a1 a2 a3) (zbu.f (k + 1) a0 a1 a2 a3) := by
 intro a0 a1 a2 a3 k
 have ih0 := zbu.zbw k
 unfold zbu.f
 repeat' first
   | (with_reducible exact ih0 _ _ _ _ _)
   | (with_reducible exact LeO.refl _)
   | (with_reducible exact LeO.none _)
   | (with_reducible refine LeO.ite ?_ ?_)
   | (with_reducible refine LeO.bind ?_ (fun _ => ?_))
   | exact ih0 _ _ _ _ _
   | exact LeO.none _
   | refine LeO.ite ?_ ?_
   | refine LeO.bind ?_ (fun _ => ?_)
set_option maxHeartbeats 8000000 in
set_option maxRecDepth 100000 in
theorem zbu.calls (k : Nat) (A0_0 : Option Addr) (c0_0 : Nat) (l0_0 : List ByteArray) (A0_1 : Option Addr) (c0_1 : Nat) (l0_1 : List ByteArray) (A0_2 : Option Addr) (c0_2 : Nat) (l0_2 : List (S42)) (a1 : Int) (r : List Int) (w : World) (hr0_0 : Kd.C Kd.string w A0_0 l0_0.length l0_0) (hc0_0 : l0_0.length ≤ c0_0) (hr0_1 : Kd.C Kd.string w A0_1 l0_1.length l0_1) (hc0_1 : l0_1.length ≤ c0_1) (hr0_2 : Kd.C k42 w A0_2 l0_2.length l0_2) (hc0_2 : l0_2.length ≤ c0_2) (h : zbu.f k l0_0 l0_1 l0_2 a1 = some r) :
  Calls Tryz.prog 46 #[.agg #[.slice A0_0 l0_0.length c0_0, .slice A0_1 l0_1.length c0_1, .slice A0_2 l0_2.length c0_2], .int .i64 a1] w fun e w' => ∃ v0_ : Value, e = .returned (v0_) ∧ Kd.R (Kd.int .i64) 3 w' w.heap.size (fun _ => True) v0_ r ∧ Below w.heap.size w w' := by
 have hu25 := Tryz.underlying25
 have hu42 := Tryz.underlying42
 have HR0_0 := zaa.mk hr0_0;have HC0_0 := zaa.mk hc0_0;clear hr0_0 hc0_0;have HR0_1 := zaa.mk hr0_1;have HC0_1 := zaa.mk hc0_1;clear hr0_1 hc0_1;have HR0_2 := zaa.mk hr0_2;have HC0_2 := zaa.mk hc0_2;clear hr0_2 hc0_2
 have HB := zaa.mk (Below.refl w.heap.size w)
 have H : (zbu.l0 k a1 ([] : List Int) l0_2 (l0_2.length : Int) 0) = some r := h
 clear h
 have H' := zaa.mk H
 clear H
 go_enter Tryz.func46, Tryz.ntmps46
 go_wp2_with (first | ((with_reducible refine zbh (N := 2) rfl ?_); refine zbe ?hg (N := 2) ?hd (cs := #[.slice A0_0 l0_0.length c0_0, .slice A0_1 l0_1.length c0_1, .slice A0_2 l0_2.length c0_2]) (t := 25) ?hr ?_; (case hd => rfl); (case hg => rfl); (case hr => first | (go_simp; done) | (go_simp; rfl)); intro gb101 hg w3 hbox hb; have n0_ := zaa.mk (zaw (by repeat (first | (with_reducible first | exact HB.out | apply zah | apply zab | apply zaf) | exact HB.out)) hb); have n1_ := zaa.mk (hbox); have n2_ := zaa.mk ((by rw [hg]; exact (zas (by repeat (first | (with_reducible first | exact HB.out | apply zah | apply zab | apply zaf) | exact HB.out))) : w.heap.size ≤ gb101)); have n3_ := zaa.mk ((by rw [hg]; exact (zas (by repeat (first | (with_reducible first | exact HB.out | apply zah | apply zab | apply zaf) | exact HB.out))) : w.heap.size ≤ gb101)); clear HB; have HB := n0_; have BK101 := n1_; have GW101 := n2_; have GE101 := n3_; clear n0_ n1_ n2_ n3_; clear hb hbox hg; have hcz4_0 : w3.cell? ⟨gb101, 0, none⟩ = some (.slice A0_0 l0_0.length c0_0) := (zac BK101.out 0).trans rfl; have hcz4_1 : w3.cell? ⟨gb101, 1, none⟩ = some (.slice A0_1 l0_1.length c0_1) := (zac BK101.out 1).trans rfl; have hcz4_2 : w3.cell? ⟨gb101, 2, none⟩ = some (.slice A0_2 l0_2.length c0_2) := (zac BK101.out 2).trans rfl; have hfz4_0 := zak BK101.out 0; have hfz4_1 := zak BK101.out 1; have hfz4_2 := zak BK101.out 2))
 go_loopg [5, 11] k (fun kq v5 v11 w' => ∃ (x5_1 : List Int) (x11_1 : Int), v11 = .int .i64 x11_1 ∧ zaa (zbu.l0 kq a1 x5_1 l0_2 (l0_2.length : Int) x11_1 = some r) ∧ zaa (kq ≤ k) ∧ zaa (Kd.R (Kd.int .i64) 3 w' w.heap.size (fun _ => True) v5 x5_1) ∧ zaa (w'.heap[gb101]? = some (.cells #[(.slice A0_0 l0_0.length c0_0), (.slice A0_1 l0_1.length c0_1), (.slice A0_2 l0_2.length c0_2)] 25 (0, 0))) ∧ zaa (Below w.heap.size w w'))
 case atStart => exact ⟨(([] : List Int)), (0), (by first | rfl | (simp; done) | (simp [*]; done)), H', ⟨Nat.le_refl _⟩, ⟨by first | exact Kd.R_nil _ _ _ _ _ | exact Kd.N_nil _ _ _ _ _ | exact Kd.V_nil _ _ _ _ _ | exact Kd.Q_nil _ _ _ _ _ | exact Kd.S_nil _ _ _ _ _⟩, ⟨by (with_reducible repeat (first | refine zam ?_ _ | refine zaj ?_ | refine zai ?_ _)); exact BK101.out⟩, ⟨by repeat (first | (with_reducible first | exact HB.out | apply zah | apply zab | apply zaf | refine zal ?_ GE101.out) | exact HB.out)⟩⟩
 case round =>
  clear H';(try clear p2);(try clear c4);(try clear hcz4_0);(try clear hcz4_1);(try clear hcz4_2);(try clear hfz4_0);(try clear hfz4_1);(try clear hfz4_2)
  obtain ⟨x5_1, x11_1, rfl, HA, HK1, HO_5, BK101, HB⟩ := hrel
  cases gk with
  | zero => exact absurd HA.out (by simp [zbu.l0])
  | succ k1 =>
   have H := HA.out;clear HA
   simp only [zbu.l0] at H
   by_cases c5 : x11_1 < (l0_2.length : Int)
   ·rw [if_pos c5] at H
    have c5b0 : decide (x11_1 < (l0_2.length : Int)) = true := decide_eq_true c5
    clear c5
    by_cases c6 : 0 ≤ x11_1
    ·rw [if_pos c6] at H
     have c6b0 : decide (0 ≤ x11_1) = true := decide_eq_true c6
     clear c6
     by_cases c7 : x11_1 < (l0_2.length : Int)
     ·rw [if_pos c7] at H
      have c7b0 : decide (x11_1 < (l0_2.length : Int)) = true := decide_eq_true c7
      clear c7
      by_cases c8 : ((zae l0_2 x11_1).f0) = a1
      ·rw [if_pos c8] at H
       have c8b0 : (((zae l0_2 x11_1).f0) == a1) = true := beq_iff_eq.mpr c8
       have c8b1 : (((zae l0_2 x11_1).f0) != a1) = false := bne_eq_false_iff_eq.mpr c8
       clear c8
       by_cases c9 : x5_1.length < 17592186044416
       ·rw [if_pos c9] at H
        have LMc9 := zaa.mk c9;clear c9
        obtain ⟨y104, hy104⟩ : ∃ y_ : List Int, y_ = (x5_1 ++ [x11_1]) := ⟨_, rfl⟩
        replace H : (zbu.l0 k1 a1 y104 l0_2 (l0_2.length : Int) (wrap64 (x11_1 + 1))) = some r := by first | (rw [hy104]; with_reducible exact H) | (have H2_ := (Option.bind_some _ _).symm.trans H; rw [hy104]; with_reducible exact H2_) | (have H2_ := (Option.bind_some _ _).symm.trans H; with_reducible exact H2_) | with_reducible exact H | (rw [hy104]; exact H) | exact H
        have Ny104 := zaa.mk hy104;clear hy104
        have H' := zaa.mk H
        clear H
        have p102 : 0 ≤ (x11_1 : Int) := of_decide_eq_true (by first | (with_reducible assumption) | assumption)
        have q102 : x11_1 < (l0_2.length : Int) := of_decide_eq_true (by first | (with_reducible assumption) | assumption)
        obtain ⟨ad102, A102_1, c102_1, e102, hx102_0, hx102_1, hx102_2, hl102_1, hi102_1⟩ := at_T42 HR0_2.out x11_1 p102 q102
        cases e102
        replace hx102_0 := (HB.out.cell (World.block_lt_of_cell? w _ hx102_0)).trans hx102_0
        replace hx102_1 := (HB.out.cell (World.block_lt_of_cell? w _ hx102_1)).trans hx102_1
        replace hx102_2 := (HB.out.cell (World.block_lt_of_cell? w _ hx102_2)).trans hx102_2
        have HR102_1 := zaa.mk hi102_1;have HC102_1 := zaa.mk hl102_1;clear hi102_1 hl102_1
        replace p102 := eq_true p102
        replace q102 := eq_true q102
        go_wp2_with (first | ((with_reducible refine zbh (N := 7) rfl ?_); refine zbe ?hg (N := 7) ?hd (cs := #[.int .i64 0, .slice none 0 0, .int .i64 0]) (t := 42) ?hr ?_; (case hd => rfl); (case hg => rfl); (case hr => first | (go_simp; done) | (go_simp; rfl)); intro gb103 hg w10 hbox hb; have n0_ := zaa.mk (Kd.zbq (by (with_reducible repeat (first | apply Kd.zbc | apply Kd.zbd | apply Kd.zbg)); exact HO_5.out) hb); have n1_ := zaa.mk (zar (g := gb101) (o := .cells #[.slice A0_0 l0_0.length c0_0, .slice A0_1 l0_1.length c0_1, .slice (some ad102) l0_2.length c0_2] 25 (0, 0)) (by (with_reducible repeat (first | refine zam ?_ _ | refine zaj ?_ | refine zai ?_ _)); exact BK101.out) hb); have n2_ := zaa.mk (zaw (by repeat (first | (with_reducible first | exact HB.out | apply zah | apply zab | apply zaf | refine zal ?_ GE101.out) | exact HB.out)) hb); have n3_ := zaa.mk (hbox); have n4_ := zaa.mk ((by rw [hg]; exact (zas (by repeat (first | (with_reducible first | exact HB.out | apply zah | apply zab | apply zaf | refine zal ?_ GE101.out) | exact HB.out))) : w.heap.size ≤ gb103)); have n5_ := zaa.mk ((by rw [hg]; exact (zas (by repeat (first | (with_reducible first | exact HB.out | apply zah | apply zab | apply zaf | refine zal ?_ GE101.out) | exact HB.out))) : w.heap.size ≤ gb103)); have n6_ := zaa.mk ((by rw [hg]; exact Nat.ne_of_lt (zav (g := gb101) (o := .cells #[.slice A0_0 l0_0.length c0_0, .slice A0_1 l0_1.length c0_1, .slice (some ad102) l0_2.length c0_2] 25 (0, 0)) (by (with_reducible repeat (first | refine zam ?_ _ | refine zaj ?_ | refine zai ?_ _)); exact BK101.out)) : gb101 ≠ gb103)); have n7_ := zaa.mk ((by rw [hg]; exact Nat.ne_of_gt (zav (g := gb101) (o := .cells #[.slice A0_0 l0_0.length c0_0, .slice A0_1 l0_1.length c0_1, .slice (some ad102) l0_2.length c0_2] 25 (0, 0)) (by (with_reducible repeat (first | refine zam ?_ _ | refine zaj ?_ | refine zai ?_ _)); exact BK101.out)) : gb103 ≠ gb101)); clear HO_5; clear BK101; clear HB; have HO_5 := n0_; have BK101 := n1_; have HB := n2_; have BK103 := n3_; have GW103 := n4_; have GE103 := n5_; have NB101_103 := n6_; have NB103_101 := n7_; clear n0_ n1_ n2_ n3_ n4_ n5_ n6_ n7_; clear hb hbox hg; have hnb11 := NB103_101.out; have hnc11 := NB101_103.out; have hcz12_0 : w10.cell? ⟨gb103, 0, none⟩ = some (.int .i64 0) := (zac BK103.out 0).trans rfl; have hcz12_1 : w10.cell? ⟨gb103, 1, none⟩ = some (.slice none 0 0) := (zac BK103.out 1).trans rfl; have hcz12_2 : w10.cell? ⟨gb103, 2, none⟩ = some (.int .i64 0) := (zac BK103.out 2).trans rfl; have hfz12_0 := zak BK103.out 0; have hfz12_1 := zak BK103.out 1; have hfz12_2 := zak BK103.out 2) | ((with_reducible refine gate_builtin (b := .append) (xs := #[.tmp 20, .tmp 22]) rfl ?_); at_builtin; refine Kd.R_append (Kd.int .i64) (w0 := w) w.heap.size rfl (.tmp 20) (.tmp 22) 35 3 (.int .i64 0) 8 rfl Tryz.underlying35 info3 rfl (by decide) (by omega) u5 x5_1 x11_1 [.int .i64 x11_1] (fun _ => True) (fun _ => False) rfl (by first | (go_simp; done) | (go_simp; rfl)) ?aP (fun _ hk => hk.elim) ?aF ?aO ?aB ?aS ?aL ?_; (case aP => exact rfl); (case aB => exact (by repeat (first | (with_reducible first | exact HB.out | apply zah | apply zab | apply zaf | refine zal ?_ GE101.out | refine zal ?_ GE103.out) | exact HB.out))); (case aF => exact (fun _ _ => trivial)); (case aO => exact (by (with_reducible repeat (first | apply Kd.zbc | apply Kd.zbd | apply Kd.zbg)); exact Kd.zbx (Kd.R_far (p := ⟨gb103, 2, none⟩) (Kd.R_far (p := ⟨gb103, 1, none⟩) (Kd.R_far (p := ⟨gb103, 0, none⟩) (Kd.R_types HO_5.out BK103.out (by decide)) (fun _ hk => hk.2) (.int .i64 ((zae l0_2 x11_1).f0))) (fun _ hk => hk.2) (.slice A102_1 ((zae l0_2 x11_1).f1).length c102_1)) (fun _ hk => hk.2) (.int .i64 ((zae l0_2 x11_1).f2))) (fun _ hk => trivial))); (case aS => exact (zas (by repeat (first | (with_reducible first | exact HB.out | apply zah | apply zab | apply zaf | refine zal ?_ GE101.out | refine zal ?_ GE103.out) | exact HB.out)))); (case aL => have := LMc9.out; omega); intro v105 w13 ho hb hg hat; rw [← Ny104.out] at ho; have n0_ := zaa.mk (zcg (g := gb101) (o := .cells #[.slice A0_0 l0_0.length c0_0, .slice A0_1 l0_1.length c0_1, .slice (some ad102) l0_2.length c0_2] 25 (0, 0)) (by (with_reducible repeat (first | refine zam ?_ _ | refine zaj ?_ | refine zai ?_ _)); refine zbl ?_ NB101_103.out _; (with_reducible repeat (first | refine zam ?_ _ | refine zaj ?_ | refine zai ?_ _)); refine zbl ?_ NB101_103.out _; (with_reducible repeat (first | refine zam ?_ _ | refine zaj ?_ | refine zai ?_ _)); refine zbl ?_ NB101_103.out _; (with_reducible repeat (first | refine zam ?_ _ | refine zaj ?_ | refine zai ?_ _)); exact BK101.out) hg (Kd.R_ne HO_5.out BK101.out (by decide))); have n1_ := zaa.mk (zcg (g := gb103) (o := .cells #[.int .i64 ((zae l0_2 x11_1).f0), .slice A102_1 ((zae l0_2 x11_1).f1).length c102_1, .int .i64 ((zae l0_2 x11_1).f2)] 42 (0, 0)) (by (with_reducible repeat (first | refine zam ?_ _ | refine zaj ?_ | refine zai ?_ _)); refine zbn (cs := #[.int .i64 ((zae l0_2 x11_1).f0), .slice A102_1 ((zae l0_2 x11_1).f1).length c102_1, .int .i64 0]) ?_ 2 _ rfl; (with_reducible repeat (first | refine zam ?_ _ | refine zaj ?_ | refine zai ?_ _)); refine zbn (cs := #[.int .i64 ((zae l0_2 x11_1).f0), .slice none 0 0, .int .i64 0]) ?_ 1 _ rfl; (with_reducible repeat (first | refine zam ?_ _ | refine zaj ?_ | refine zai ?_ _)); refine zbn (cs := #[.int .i64 0, .slice none 0 0, .int .i64 0]) ?_ 0 _ rfl; (with_reducible repeat (first | refine zam ?_ _ | refine zaj ?_ | refine zai ?_ _)); exact BK103.out) hg (Kd.R_ne HO_5.out BK103.out (by decide))); have n2_ := zaa.mk (hb); have n3_ := zaa.mk (ho); clear BK101; clear BK103; clear HB; clear HO_5; have BK101 := n0_; have BK103 := n1_; have HB := n2_; have HO106 := n3_; clear n0_ n1_ n2_ n3_; clear ho hb hg hat))
        go_roundg k1
        case measure => have := HK1.out; omega
        case rel => exact ⟨(y104), (wrap64 (x11_1 + 1)), (by first | rfl | (simp; done) | (simp [*]; done)), H', ⟨by have := HK1.out; omega⟩, ⟨by (with_reducible repeat (first | apply Kd.zbc | apply Kd.zbd | apply Kd.zbg)); exact HO106.out⟩, ⟨by (with_reducible repeat (first | refine zam ?_ _ | refine zaj ?_ | refine zai ?_ _)); exact BK101.out⟩, ⟨by repeat (first | (with_reducible first | exact HB.out | apply zah | apply zab | apply zaf | refine zal ?_ GE101.out | refine zal ?_ GE103.out) | exact HB.out)⟩⟩
       ·rw [if_neg c9] at H
        exact absurd H (by simp)
      ·rw [if_neg c8] at H
       have c8b0 : (((zae l0_2 x11_1).f0) == a1) = false := beq_eq_false_iff_ne.mpr c8
       have c8b1 : (((zae l0_2 x11_1).f0) != a1) = true := bne_iff_ne.mpr c8
       have H' := zaa.mk H
       clear H
       have p102 : 0 ≤ (x11_1 : Int) := of_decide_eq_true (by first | (with_reducible assumption) | assumption)
       have q102 : x11_1 < (l0_2.length : Int) := of_decide_eq_true (by first | (with_reducible assumption) | assumption)
       obtain ⟨ad102, A102_1, c102_1, e102, hx102_0, hx102_1, hx102_2, hl102_1, hi102_1⟩ := at_T42 HR0_2.out x11_1 p102 q102
       cases e102
       replace hx102_0 := (HB.out.cell (World.block_lt_of_cell? w _ hx102_0)).trans hx102_0
       replace hx102_1 := (HB.out.cell (World.block_lt_of_cell? w _ hx102_1)).trans hx102_1
       replace hx102_2 := (HB.out.cell (World.block_lt_of_cell? w _ hx102_2)).trans hx102_2
       have HR102_1 := zaa.mk hi102_1;have HC102_1 := zaa.mk hl102_1;clear hi102_1 hl102_1
       replace p102 := eq_true p102
       replace q102 := eq_true q102
       go_wp2_with (first | ((with_reducible refine zbh (N := 7) rfl ?_); refine zbe ?hg (N := 7) ?hd (cs := #[.int .i64 0, .slice none 0 0, .int .i64 0]) (t := 42) ?hr ?_; (case hd => rfl); (case hg => rfl); (case hr => first | (go_simp; done) | (go_simp; rfl)); intro gb103 hg w14 hbox hb; have n0_ := zaa.mk (Kd.zbq (by (with_reducible repeat (first | apply Kd.zbc | apply Kd.zbd | apply Kd.zbg)); exact HO_5.out) hb); have n1_ := zaa.mk (zar (g := gb101) (o := .cells #[.slice A0_0 l0_0.length c0_0, .slice A0_1 l0_1.length c0_1, .slice (some ad102) l0_2.length c0_2] 25 (0, 0)) (by (with_reducible repeat (first | refine zam ?_ _ | refine zaj ?_ | refine zai ?_ _)); exact BK101.out) hb); have n2_ := zaa.mk (zaw (by repeat (first | (with_reducible first | exact HB.out | apply zah | apply zab | apply zaf | refine zal ?_ GE101.out) | exact HB.out)) hb); have n3_ := zaa.mk (hbox); have n4_ := zaa.mk ((by rw [hg]; exact (zas (by repeat (first | (with_reducible first | exact HB.out | apply zah | apply zab | apply zaf | refine zal ?_ GE101.out) | exact HB.out))) : w.heap.size ≤ gb103)); have n5_ := zaa.mk ((by rw [hg]; exact (zas (by repeat (first | (with_reducible first | exact HB.out | apply zah | apply zab | apply zaf | refine zal ?_ GE101.out) | exact HB.out))) : w.heap.size ≤ gb103)); have n6_ := zaa.mk ((by rw [hg]; exact Nat.ne_of_lt (zav (g := gb101) (o := .cells #[.slice A0_0 l0_0.length c0_0, .slice A0_1 l0_1.length c0_1, .slice (some ad102) l0_2.length c0_2] 25 (0, 0)) (by (with_reducible repeat (first | refine zam ?_ _ | refine zaj ?_ | refine zai ?_ _)); exact BK101.out)) : gb101 ≠ gb103)); have n7_ := zaa.mk ((by rw [hg]; exact Nat.ne_of_gt (zav (g := gb101) (o := .cells #[.slice A0_0 l0_0.length c0_0, .slice A0_1 l0_1.length c0_1, .slice (some ad102) l0_2.length c0_2] 25 (0, 0)) (by (with_reducible repeat (first | refine zam ?_ _ | refine zaj ?_ | refine zai ?_ _)); exact BK101.out)) : gb103 ≠ gb101)); clear HO_5; clear BK101; clear HB; have HO_5 := n0_; have BK101 := n1_; have HB := n2_; have BK103 := n3_; have GW103 := n4_; have GE103 := n5_; have NB101_103 := n6_; have NB103_101 := n7_; clear n0_ n1_ n2_ n3_ n4_ n5_ n6_ n7_; clear hb hbox hg; have hnb15 := NB103_101.out; have hnc15 := NB101_103.out; have hcz16_0 : w14.cell? ⟨gb103, 0, none⟩ = some (.int .i64 0) := (zac BK103.out 0).trans rfl; have hcz16_1 : w14.cell? ⟨gb103, 1, none⟩ = some (.slice none 0 0) := (zac BK103.out 1).trans rfl; have hcz16_2 : w14.cell? ⟨gb103, 2, none⟩ = some (.int .i64 0) := (zac BK103.out 2).trans rfl; have hfz16_0 := zak BK103.out 0; have hfz16_1 := zak BK103.out 1; have hfz16_2 := zak BK103.out 2))
       go_roundg k1
       case measure => have := HK1.out; omega
       case rel => exact ⟨(x5_1), (wrap64 (x11_1 + 1)), (by first | rfl | (simp; done) | (simp [*]; done)), H', ⟨by have := HK1.out; omega⟩, ⟨by (with_reducible repeat (first | apply Kd.zbc | apply Kd.zbd | apply Kd.zbg)); exact Kd.zbx (Kd.R_far (p := ⟨gb103, 2, none⟩) (Kd.R_far (p := ⟨gb103, 1, none⟩) (Kd.R_far (p := ⟨gb103, 0, none⟩) (Kd.R_types HO_5.out BK103.out (by decide)) (fun _ hk => hk.2) (.int .i64 ((zae l0_2 x11_1).f0))) (fun _ hk => hk.2) (.slice A102_1 ((zae l0_2 x11_1).f1).length c102_1)) (fun _ hk => hk.2) (.int .i64 ((zae l0_2 x11_1).f2))) (fun _ hk => trivial)⟩, ⟨by (with_reducible repeat (first | refine zam ?_ _ | refine zaj ?_ | refine zai ?_ _)); refine zbl ?_ NB101_103.out _; (with_reducible repeat (first | refine zam ?_ _ | refine zaj ?_ | refine zai ?_ _)); refine zbl ?_ NB101_103.out _; (with_reducible repeat (first | refine zam ?_ _ | refine zaj ?_ | refine zai ?_ _)); refine zbl ?_ NB101_103.out _; (with_reducible repeat (first | refine zam ?_ _ | refine zaj ?_ | refine zai ?_ _)); exact BK101.out⟩, ⟨by repeat (first | (with_reducible first | exact HB.out | apply zah | apply zab | apply zaf | refine zal ?_ GE101.out | refine zal ?_ GE103.out) | exact HB.out)⟩⟩
     ·rw [if_neg c7] at H
      exact absurd H (by simp)
    ·rw [if_neg c6] at H
     exact absurd H (by simp)
   ·rw [if_neg c5] at H
    have c5b0 : decide (x11_1 < (l0_2.length : Int)) = false := decide_eq_false c5
    clear c5;obtain rfl := Option.some.inj H;go_wp2;go_ret
    exact ⟨_, by first | rfl | (simp [za2, za3] <;> rfl) | (simp [*, za2, za3] <;> rfl), by (with_reducible repeat (first | apply Kd.zbc | apply Kd.zbd | apply Kd.zbg)); exact HO_5.out, by repeat (first | (with_reducible first | exact HB.out | apply zah | apply zab | apply zaf | refine zal ?_ GE101.out) | exact HB.out)⟩
end Go.Proofs.YtgdmjpehofdnpaaGreat.POf
end
section
namespace Go.Proofs.YtgdmjpehofdnpaaGreat.LrK
open Go Go.Maps
set_option linter.unusedVariables false
set_option linter.unusedSimpArgs false
abbrev TL : TypeId := 50
abbrev Lr := Int × Int × Int
def lrA (x : Lr) : Array Value := #[.int .i64 x.1, .int .i64 x.2.1, .int .i64 x.2.2]
def lrV (x : Lr) : Value := .agg (lrA x)
def lrOk (x : Lr) : Prop := (Lit.int .i64 x.1).wf = true ∧ (Lit.int .i64 x.2.1).wf = true ∧ (Lit.int .i64 x.2.2).wf = true
def lrL (x : Lr) : Lit := .string (keyBytes [.int .i64 x.1, .int .i64 x.2.1, .int .i64 x.2.2])
theorem laidOut : laidOutB Tryz.prog = true := by kernel_rfl
theorem rowL : (TL : TypeId) < Tryz.prog.types.size := of_decide_eq_true (by kernel_rfl)
theorem wideL : (match Tryz.prog.underlying TL with | some (.array _ _) | some (.struct _) => true | _ => false) = true := by rw [Tryz.underlying50]
set_option maxRecDepth 100000 in
theorem law : Keyed Tryz.prog TL := Keyed.of_law (deep_law_laid laidOut (m := 2) (by omega) rowL (by kernel_rfl) wideL)
theorem keyTypeL : Tryz.prog.keyType TL = true := by kernel_rfl
theorem cellsL : Tryz.prog.cellsOf TL = 3 := by kernel_rfl
theorem cellsI : Tryz.prog.cellsOf 3 = 1 := by kernel_rfl
theorem sizeL : ∃ m, Tryz.prog.types.size = m + 1 := ⟨Tryz.prog.types.size - 1, by have : 0 < Tryz.prog.types.size := of_decide_eq_true (by kernel_rfl); omega⟩
theorem keyLits_lr (x : Lr) (h : lrOk x) : Tryz.prog.keyLits (Tryz.prog.types.size + 1) TL (lrA x).toList = some [.int .i64 x.1, .int .i64 x.2.1, .int .i64 x.2.2] := by
 obtain ⟨m, hm⟩ := sizeL
 obtain ⟨h1, h2, h3⟩ := h
 rw [hm]
 simp only [Program.keyLits, Tryz.underlying50, lrA]
 rw [if_pos ⟨by rw [cellsL]; rfl, by simp⟩]
 simp [Program.keyLits, Tryz.underlying3, cellsI, h1, h2, h3]
theorem lrL_key {x : Lr} (h : lrOk x) : keyOf Tryz.prog TL (lrV x) = some (lrL x) := by
 unfold keyOf
 simp only [Tryz.underlying50]
 rw [if_pos (by simp [keyTypeL, lrV, lrA, Value.formed, Tryz.underlying50, cellsL])]
 show (Tryz.prog.keyLits (Tryz.prog.types.size + 1) TL (lrA x).toList).map _ = _
 rw [keyLits_lr x h]
 rfl
theorem keyI (m : Nat) {v : Value} {L : List Lit} (h : Tryz.prog.keyLits (m + 1) 3 [v] = some L) : ∃ n, (Lit.int .i64 n).wf = true ∧ v = .int .i64 n ∧ L = [.int .i64 n] := by
 simp only [Program.keyLits, Tryz.underlying3] at h
 split at h
 all_goals simp_all
 all_goals (obtain ⟨⟨h0, h1⟩, h2⟩ := h; subst h0; subst h2; exact ⟨_, h1, by simp, rfl⟩)
set_option maxRecDepth 100000 in
theorem lr_inv {v : Value} {l : Lit} (h : keyOf Tryz.prog TL v = some l) : ∃ x, lrOk x ∧ v = lrV x ∧ l = lrL x := by
 obtain ⟨xs, L, rfl, hL, rfl⟩ := keyOf_top wideL h
 obtain ⟨m, hm⟩ := sizeL
 rw [hm] at hL
 unfold Program.keyLits at hL
 simp only [Tryz.underlying50] at hL
 split at hL
 case isFalse => cases hL
 rename_i hc
 rw [cellsL] at hc
 obtain ⟨a, b, c, e⟩ : ∃ a b c, xs.toList = [a, b, c] := by
  match hx : xs.toList, hc.1 with
  | [a, b, c], _ => exact ⟨a, b, c, rfl⟩
 have hx : xs = #[a, b, c] := Array.toList_inj.1 e
 subst hx
 simp only [List.mapM_cons, List.mapM_nil, cellsI, List.drop, List.take, Option.map_eq_some_iff, Option.bind_eq_bind, Option.bind_eq_some_iff, Option.pure_def, Option.some.injEq] at hL
 obtain ⟨LL, ⟨L1, g1, L2, ⟨L3, g3, L4, ⟨L5, g5, L6, g6, rfl⟩, rfl⟩, rfl⟩, rfl⟩ := hL
 obtain ⟨n1, w1, rfl, rfl⟩ := keyI m g1
 obtain ⟨n2, w2, rfl, rfl⟩ := keyI m g3
 obtain ⟨n3, w3, rfl, rfl⟩ := keyI m g5
 subst g6
 exact ⟨(n1, n2, n3), ⟨w1, w2, w3⟩, rfl, rfl⟩
theorem lrL_inj {x y : Lr} (hx : lrOk x) (hy : lrOk y) (h : lrL x = lrL y) : x = y := by
 have := law.inj (lrL_key hx) (by rw [h]; exact lrL_key hy)
 simp only [lrV, lrA, Value.agg.injEq, Array.mk.injEq, List.cons.injEq, Value.int.injEq, true_and, and_true] at this
 obtain ⟨h1, h2, h3⟩ := this
 exact Prod.ext h1 (Prod.ext h2 h3)
end Go.Proofs.YtgdmjpehofdnpaaGreat.LrK
end
section
set_option linter.unusedVariables false
set_option linter.unusedSimpArgs false
namespace Go.Proofs.YtgdmjpehofdnpaaGreat.GMap
open Go Go.Maps
section
variable {α : Type} [DecidableEq α]
def look : List (α × Value) → α → Option Value
 | [], _ => none
 | p :: t, x => if p.1 = x then some p.2 else look t x
def putM : List (α × Value) → α → Value → List (α × Value)
 | [], x, v => [(x, v)]
 | p :: t, x, v => if p.1 = x then (x, v) :: t else p :: putM t x v
theorem look_put (x y : α) (v : Value) : ∀ M : List (α × Value), look (putM M x v) y = if y = x then some v else look M y
 | [] => by
  simp only [putM, look]
  by_cases h : y = x
  ·rw [if_pos h.symm, if_pos h]
  ·rw [if_neg (fun e => h e.symm), if_neg h]
 | p :: t => by
  have ih := look_put x y v t
  simp only [putM]
  split
  ·rename_i h
   simp only [look]
   by_cases hy : y = x
   ·rw [if_pos hy.symm, if_pos hy]
   ·rw [if_neg (fun e => hy e.symm), if_neg hy, if_neg (fun e => hy (by rw [← e, h]))]
  ·rename_i h
   simp only [look]
   by_cases hp : p.1 = y
   ·rw [if_pos hp, if_neg (fun e => h (by rw [hp, e])), if_pos hp]
   ·rw [if_neg hp, ih, if_neg hp]
theorem look_mem {M : List (α × Value)} {x : α} : (look M x).isSome = true ↔ x ∈ M.map (·.1) := by
 induction M with
 | nil => simp [look]
 | cons p t ih =>
  simp only [look, List.map_cons, List.mem_cons]
  by_cases h : p.1 = x
  ·rw [if_pos h]
   simp [h]
  ·rw [if_neg h, ih]
   exact ⟨.inr, fun g => g.resolve_left (fun e => h e.symm)⟩
theorem putM_keys (x : α) (v : Value) : ∀ M : List (α × Value), ∀ y, y ∈ (putM M x v).map (·.1) ↔ y = x ∨ y ∈ M.map (·.1) := fun M y => by
 rw [← look_mem, look_put, ← look_mem]
 by_cases h : y = x
 ·simp [h]
 ·simp [h]
theorem putM_nodup (x : α) (v : Value) : ∀ {M : List (α × Value)}, (M.map (·.1)).Nodup → ((putM M x v).map (·.1)).Nodup
 | [], _ => by simp [putM]
 | p :: t, h => by
  obtain ⟨h1, h2⟩ := List.nodup_cons.1 (by simpa using h : (p.1 :: t.map (·.1)).Nodup)
  simp only [putM]
  split
  ·rename_i e
   rw [List.map_cons]
   refine List.nodup_cons.2 ⟨?_, h2⟩
   rw [← e]
   exact h1
  ·rename_i e
   rw [List.map_cons]
   refine List.nodup_cons.2 ⟨fun hm => ?_, putM_nodup x v h2⟩
   rcases (putM_keys x v t p.1).1 hm with g | g
   ·exact e g
   ·exact h1 g
theorem putM_len (x : α) (v : Value) : ∀ M : List (α × Value), (putM M x v).length = if (look M x).isSome = true then M.length else M.length + 1
 | [] => by simp [putM, look]
 | p :: t => by
  have ih := putM_len x v t
  simp only [putM, look]
  split
  ·simp
  ·rw [List.length_cons, ih, List.length_cons]
   split <;> rfl
theorem putM_le (x : α) (v : Value) (M : List (α × Value)) : (putM M x v).length ≤ M.length + 1 := by
 rw [putM_len]
 split <;> omega
end
structure KeyAs (P : Program) (k : TypeId) (α : Type) where
 enc : α → Value
 lit : α → Lit
 ok : α → Prop
 keyed : Keyed P k
 key : ∀ {x}, ok x → keyOf P k (enc x) = some (lit x)
 inv : ∀ {v l}, keyOf P k v = some l → ∃ x, ok x ∧ v = enc x ∧ l = lit x
 inj : ∀ {x y}, ok x → ok y → lit x = lit y → x = y
def rawR (v : Value) : Option (DataW Value × List MemPlace) := some (.held v, [])
section
variable {P : Program} {k : TypeId} {α : Type} [DecidableEq α] (K : KeyAs P k α)
def MapAt (b : Nat) (M : List (α × Value)) (W : World) : Prop :=
 (M.map (·.1)).Nodup ∧ (∀ p ∈ M, K.ok p.1) ∧ ∃ D : DataW Value, W.ownsMap P k rawR b M.length D ∧ size D = M.length ∧ ∀ x, K.ok x → has D (K.lit x) = (look M x).isSome ∧ ∀ z, D.atKey (K.lit x) z = (look M x).elim z DataW.held
variable {K} {b : Nat} {M : List (α × Value)} {W : World}
theorem MapAt.lt (h : MapAt K b M W) : b < W.heap.size := by
 obtain ⟨_, _, D, h1, _⟩ := h
 exact h1.lt
theorem MapAt.block (h : MapAt K b M W) : ∃ es c, W.heap[b]? = some (.map es c) := by
 obtain ⟨_, _, D, ⟨es, clock, hb, _⟩, _⟩ := h
 exact ⟨es, clock, hb⟩
theorem MapAt.keep {W' : World} (h : MapAt K b M W) (hb : W'.heap[b]? = W.heap[b]?) : MapAt K b M W' := by
 obtain ⟨h1, h2, D, ⟨es, clock, h3, h4⟩, h5⟩ := h
 exact ⟨h1, h2, D, ⟨es, clock, hb.trans h3, h4⟩, h5⟩
theorem MapAt.new (W : World) : MapAt K W.heap.size [] (W.alloc (.map #[] 0)) :=
 ⟨List.nodup_nil, (fun _ h => nomatch h), _, World.ownsMap_made W _ _ _, rfl, fun x _ => ⟨rfl, fun z => rfl⟩⟩
theorem MapAt.look {t e : TypeId} (h : MapAt K b M W) (ht : P.underlying t = some (.map k e)) {z : Value} (hz : (zeroValue e).run P W = .ok z W) {x : α} (hx : K.ok x) :
  (Instr.lookup t (.map (some b)) (K.enc x) false).run P W = .ok ((look M x).getD z) W := by
 obtain ⟨h1, h2, D, hown, hs, hh⟩ := h
 obtain ⟨v, ps, hr, hv⟩ := hown.lookup K.keyed ht hz (zd := .held z) (zp := []) rfl (K.key hx)
 rw [(hh x hx).2] at hv
 rw [hr]
 congr 1
 simp only [rawR, Option.some.injEq, Prod.mk.injEq] at hv
 cases e : GMap.look M x with
 | none => rw [e] at hv; exact DataW.held.inj hv.1
 | some u => rw [e] at hv; exact DataW.held.inj hv.1
theorem MapAt.len {t e : TypeId} (h : MapAt K b M W) (ht : P.underlying t = some (.map k e)) (ty : TypeId) : (Builtin.len_ #[t] ty #[.map (some b)]).run P W = .ok (.int .i64 M.length) W := by
 obtain ⟨h1, h2, D, hown, hs, hh⟩ := h
 rw [← hs]
 exact hown.len ht ty
theorem tight {R : Value → Option (DataW Value × List MemPlace)} {w : World} {n : Nat} {D : DataW Value} (h : w.ownsMap P k R b n D) : w.ownsMap P k R b (size D) D := by
 obtain ⟨es, clock, hb, F, hs, hD⟩ := h
 refine ⟨es, clock, hb, F, ?_, hD⟩
 rw [hD]
 simp [Maps.size, length_sorted]
theorem MapAt.put {t e : TypeId} (h : MapAt K b M W) (ht : P.underlying t = some (.map k e)) (hn : M.length < maxLen) {x : α} (hx : K.ok x) (v : Value) :
  ∃ W', (Instr.mapUpdate t (.map (some b)) (K.enc x) v).run P W = .ok () W' ∧ MapAt K b (putM M x v) W' ∧ W.grownBy W' (some b) := by
 obtain ⟨h1, h2, D, hown, hs, hh⟩ := h
 obtain ⟨W', hr, ho, hg⟩ := hown.update K.keyed ht hn (K.key hx) (d := .held v) (ps := []) rfl
 have hk := K.keyed.key (K.key hx)
 have hsz : size (D.put (K.lit x) (.held v)) = (putM M x v).length := by
  rw [size_put (hown.tidy K.keyed) _, (hh x hx).1, hs, putM_len]
 refine ⟨W', hr, ⟨putM_nodup x v h1, fun p hp => ?_, D.put (K.lit x) (.held v), by rw [← hsz]; exact tight ho, hsz, fun y hy => ?_⟩, hg⟩
 ·rcases (putM_keys x v M p.1).1 (List.mem_map_of_mem hp) with e | e
  ·rw [e]; exact hx
  ·obtain ⟨q, hq, e⟩ := List.mem_map.1 e
   rw [← e]
   exact h2 q hq
 ·by_cases e : y = x
  ·subst e
   rw [has_put_same hown.isMap hk, look_put, if_pos rfl]
   exact ⟨rfl, fun z => atKey_put_same hown.isMap hk _ _⟩
  ·have hne : K.lit y ≠ K.lit x := fun g => e (K.inj hy hx g)
   rw [has_put_other hne, look_put, if_neg e, (hh y hy).1]
   exact ⟨rfl, fun z => by rw [atKey_put_other hne]; exact (hh y hy).2 z⟩
end
end Go.Proofs.YtgdmjpehofdnpaaGreat.GMap
end
section
namespace Go.Proofs.YtgdmjpehofdnpaaGreat.LSeq
open Go Go.RowKit Go.Shelf Go.Maps Go.Proofs.YtgdmjpehofdnpaaGreatW.PrintWords Go.Proofs.YtgdmjpehofdnpaaGreat.Round Go.Proofs.YtgdmjpehofdnpaaGreat.RangeG Go.Proofs.YtgdmjpehofdnpaaGreat.Fl Go.Proofs.YtgdmjpehofdnpaaGreat.RangeH Go.Proofs.YtgdmjpehofdnpaaGreat.LrK Go.Proofs.YtgdmjpehofdnpaaGreat.GMap
attribute [local go_sem] Oper.semAt_some
set_option linter.unusedVariables false
set_option linter.unusedSimpArgs false
abbrev LrX := { x : Lr // lrOk x }
def encL (x : LrX) : Array Value := #[lrV x.1]
def valsL (xs : List LrX) : List Lr := xs.map (·.1)
def flatL (xs : List Lr) : List Value := xs.flatMap fun x => (lrA x).toList
theorem flatL_len (xs : List Lr) : (flatL xs).length = xs.length * 3 := by
 induction xs with
 | nil => rfl
 | cons a t ih => simp only [flatL, List.flatMap_cons, List.length_append, List.length_cons] at *; rw [ih]; simp [lrA]; omega
theorem flatL_app (xs : List Lr) (x : Lr) : flatL (xs ++ [x]) = flatL xs ++ [.int .i64 x.1, .int .i64 x.2.1, .int .i64 x.2.2] := by simp [flatL, lrA]
def keyL : KeyAs Tryz.prog TL Lr := ⟨lrV, lrL, lrOk, law, lrL_key, lr_inv, lrL_inj⟩
def KeepV (n₀ : Nat) (L : List Nat) (W W' : World) : Prop := KeepL n₀ L W W' ∧ KeepsWalks W W'
theorem keepV_t {n₀ : Nat} {L : List Nat} {A B C : World} (h : KeepV n₀ L A B) (k : KeepV n₀ L B C) : KeepV n₀ L A C := ⟨keepL_t h.1 k.1, walksK_t h.2 k.2⟩
def KeepU (n₀ : Nat) (l : Nat) (W W' : World) : Prop := KeepV n₀ [] W W' ∧ Behind l W W'
theorem keepU_t {n₀ l : Nat} {A B C : World} (h : KeepU n₀ l A B) (k : KeepU n₀ l B C) : KeepU n₀ l A C := ⟨keepV_t h.1 k.1, zcn h.2 k.2⟩
theorem keepU_b {n₀ : Nat} {w : World} (hn : n₀ ≤ w.heap.size) (W : World) (o o' : Obj) (h : W.heap[w.heap.size + 1]? = some o) (h1 : o.isCells = false) (h2 : o.isWalk = false) : KeepU n₀ (w.heap.size + 1) W (W.putObj (w.heap.size + 1) o') :=
 ⟨⟨keepL_b (L := []) hn (fun b hb => by cases hb) W _ o o' (by omega) h h1 h2, walksK_b (w := w) W _ o o' (by omega) h h1 h2⟩, behind_b _ W o o' h⟩
theorem infoLr : (Tryz.prog.info? TL).map (fun i => (i.zero, i.size, i.bytes)) = some (some (.agg #[.int .i64 0, .int .i64 0, .int .i64 0]), 3, 24) := by kernel_rfl
theorem cell_three (X : World) (a b c : Value) (j : Nat) (u : Value) (hj : [a, b, c][j]? = some u) : (X.alloc (.cells #[a, b, c] TL)).cell? ((⟨X.heap.size, 0, none⟩ : Addr).add j) = some u := by
 have h := zac (zbi X (.cells #[a, b, c] TL)) j
 rw [add_plain]
 rw [h, ← hj]
 simp
set_option maxRecDepth 100000 in
set_option maxHeartbeats 4000000 in
theorem appendL_calls (gf : Nat) (lb : Array Value) (heg : ∀ args w, (callFunc gf args).run Tryz.prog w = .ok (.enter gf args) w) (w : World)
  (S Sp : List LrX → Prop) (N : Nat) (hN : N ≤ 1000000000000) (hseq : SeqH 2 Tryz.prog gf lb encL (KeepU w.heap.size) S Sp N w) :
  Calls Tryz.prog 80 #[.slice none 0 0, .func (.func gf) #[] lb] w fun e w' => ∃ v xs, e = .returned v ∧ S xs ∧ xs.length ≤ N ∧ w'.ownsRow w.heap.size TL 3 v xs.length (flatL (valsL xs)) ∧ Below w.heap.size w w' := by
 refine (callsIn_wide (n := 3)).1 ?_
 refine callsIn_of_wp_marks Tryz.func80 rfl trivial ?_ rfl
 simp only [Tryz.ntmps80, List.size_toArray, List.length_cons, List.length_nil, Nat.reduceAdd, Nat.reduceSub, Array.replicate_succ, Array.replicate_zero, List.push_toArray, List.append_toArray, List.nil_append, List.cons_append]
 gi_wp2
 obtain ⟨W0, hW0⟩ : ∃ W0, w.alloc (Obj.cells #[.slice none 0 0] 45) = W0 := ⟨_, rfl⟩
 have bv : Boxed W0 w.heap.size 45 (.slice none 0 0) := by rw [← hW0]; exact Boxed.new w _ _
 have tW : ∀ L T', Turn L T' w W0 := fun L T' => by rw [← hW0]; exact Turn.alloc _
 have hB0 : Below w.heap.size w W0 := by rw [← hW0]; exact (Below.refl _ _).alloc (Nat.le_refl _) _
 have sz0 : W0.heap.size = w.heap.size + 1 := by rw [← hW0]; simp
 rw [hW0]
 clear hW0
 obtain ⟨i0, hi, hz0, hz1, hz2⟩ := info_parts infoLr
 refine rangeH (gf := gf) (lb := lb) rfl heg hseq keepU_t (keepU_b (by omega)) (tW _ _) (fun _ => rfl)
  (fun pre X => (∃ v, Boxed X w.heap.size 45 v ∧ X.ownsRow W0.heap.size TL 3 v pre.length (flatL (valsL pre))) ∧ pre.length ≤ N ∧ W0.heap.size ≤ X.heap.size ∧ Below w.heap.size w X)
  (fun c pre X => False)
  ?hI ?hIx ?h0
  (fun x a' X => ∃ Bx, W0.heap.size ≤ Bx ∧ X.heap[Bx]? = some (.cells (lrA x.1) TL (0, 0)) ∧ a' = Act.mk #[.slice none 0 0, .func (.func gf) #[] lb, .pointer (some ⟨w.heap.size, 0, none⟩), undef, .slice none 0 0, .pointer (some ⟨Bx, 0, none⟩), .func (.func gf) #[] lb, lrV x.1, undef, undef, undef, undef, undef] []) ?hAx ?assign ?body ?done ?stop
 case hI =>
  rintro pre X X' ⟨⟨v, h1, h2⟩, h3, h4, h5⟩ ht
  exact ⟨⟨v, Boxed.turn h1 ht (fun h => h), row_turn h2 ht (fun _ _ h => h)⟩, h3, Nat.le_trans h4 ht.size, zb3 h5 ht (Nat.le_refl _) (by omega) (fun k hk => hk.elim)⟩
 case hIx => exact fun c s X X' h _ => h
 case h0 => exact ⟨⟨_, bv, World.ownsRow_nil _ _ _ _⟩, Nat.zero_le _, Nat.le_refl _, hB0⟩
 case hAx =>
  rintro x a' s X Y ⟨Bx, h1, h2, h3⟩ ht
  exact ⟨Bx, h1, zch h2 ht (fun h => h), h3⟩
 case assign =>
  rintro l pre x X K ⟨⟨v, h1, h2⟩, h3, h4, h5⟩ hK2
  simp only [encL, lrV, lrA]
  gi_wp2
  refine hK2 _ _ ((KeepsOthers.alloc _ _).from _) ⟨⟨keepL_alloc (keepL_refl _ _ _) (by omega) _, KeepsWalks.alloc X _⟩, zcq ((KeepsOthers.alloc _ _).from _) (Nat.le_refl _)⟩ ⟨⟨v, h1.alloc _, h2.alloc _⟩, h3, by simp; omega, h5.alloc (by omega) _⟩ ⟨X.heap.size, h4, zbi _ _, rfl⟩
 case body =>
  rintro l pre x a' X hl hr ⟨⟨v, h1, h2⟩, h3, h4, h5⟩ ⟨Bx, hBx, hX, rfl⟩ hpre
  have cv := h1.cell
  have x0 : X.cell? ⟨Bx, 0, none⟩ = some (.int .i64 x.1.1) := zac hX 0
  have x1 : X.cell? ⟨Bx, 1, none⟩ = some (.int .i64 x.1.2.1) := zac hX 1
  have x2 : X.cell? ⟨Bx, 2, none⟩ = some (.int .i64 x.1.2.2) := zac hX 2
  have one : ∀ u ∈ [Value.int .i64 x.1.1, .int .i64 x.1.2.1, .int .i64 x.1.2.2], u.oneCell' = true := by
   intro u hu
   simp at hu
   rcases hu with rfl | rfl | rfl <;> rfl
  have H1 := Lib.hid one
  clear one hX
  have maxl : maxLen = 9223372036854775807 := rfl
  have HM := Lib.hid maxl
  clear maxl
  have il := flatL_len (valsL pre)
  have vl : (valsL pre).length = pre.length := by simp [valsL]
  gi_wp2_with (gi_at_builtin; refine wpListIn_append_own _ rfl _ _ 45 rfl W0.heap.size TL i0 (.agg #[.int .i64 0, .int .i64 0, .int .i64 0]) 3 24 Tryz.underlying45 hi hz0 hz1 hz2 rfl (by decide) _ _ _ rfl (h2.alloc _) ⟨X.heap.size, 0, none⟩ 1 1 [.int .i64 x.1.1, .int .i64 x.1.2.1, .int .i64 x.1.2.2] rfl rfl (cell_three _ _ _ _) H1.out (by have := HM.out; omega) (by omega) (by simp; omega) ?_; intro v' w1 hown' hgrow _; obtain ⟨g', cap', rfl⟩ := ownsRow_succ hown'; obtain ⟨hv1, hv2, hr2, hk2, hb2⟩ := append_step (n₀ := w.heap.size) (Ls := []) h1 (by omega) h2 h4 hown' hgrow (by omega) (fun b hb => nomatch hb); have hc1 := hv1.cell; have hf1 := hv1.frozen)
  have e2 : flatL (valsL (pre ++ [x])) = flatL (valsL pre) ++ [.int .i64 x.1.1, .int .i64 x.1.2.1, .int .i64 x.1.2.2] := by
   rw [← flatL_app]
   simp [valsL]
  have e3 : (pre ++ [x]).length = pre.length + 1 := by simp
  refine ⟨hk2, ⟨⟨hb2, ((KeepsWalks.alloc X _).trans (KeepsWalks.of_grownBy hgrow (fun j o hj ho => ?_))).trans (KeepsWalks.setCell _ _ _)⟩, zcq hk2 (by omega)⟩, ⟨_, hv2, ?_⟩, by omega, Nat.le_trans h4 hb2.1.size, h5.trans hb2.1⟩
  ·replace hj : v.ownBlock = some j := hj
   rcases h2.2 with ⟨hv, _⟩ | ⟨g, cap, cur, hv, hg, hh, _⟩
   ·rw [hv] at hj; simp [Value.ownBlock] at hj
   ·rw [hv] at hj
    obtain rfl : g = j := by simpa [Value.ownBlock] using hj
    rw [zai hh _] at ho
    cases ho
    rfl
  ·rw [e2, e3]
   exact hr2
 case done =>
  rintro D ys X hD hS ⟨⟨v, h1, h2⟩, h3, h4, h5⟩ hK'
  have cv := h1.cell
  have HS := Lib.hid hS
  clear hS
  gi_wp2
  refine ⟨by simp, .inl ⟨_, _, rfl, run_takeDeferred hK', ?_⟩⟩
  refine ⟨_, results_tmp rfl _ _ _, v, ys, rfl, HS.out, h3, ?_, h5.trans (belowK_b (w := w) (Nat.le_refl _) X D _ _ (by omega) hK' rfl rfl)⟩
  exact own_weaken (ownsRow_putObj h2 _ hK' rfl) (by omega)
 case stop => exact fun D c pre W hD hp h => h.elim
set_option maxHeartbeats 1000000 in
theorem collectL_calls (gf : Nat) (lb : Array Value) (heg : ∀ args w, (callFunc gf args).run Tryz.prog w = .ok (.enter gf args) w) (w : World)
  (S Sp : List LrX → Prop) (N : Nat) (hN : N ≤ 1000000000000) (hseq : SeqH 2 Tryz.prog gf lb encL (KeepU w.heap.size) S Sp N w) :
  Calls Tryz.prog 61 #[.func (.func gf) #[] lb] w fun e w' => ∃ v xs, e = .returned v ∧ S xs ∧ xs.length ≤ N ∧ w'.ownsRow w.heap.size TL 3 v xs.length (flatL (valsL xs)) ∧ Below w.heap.size w w' := by
 have hc := appendL_calls gf lb heg w S Sp N hN hseq
 go_enter Tryz.func61, Tryz.ntmps61
 go_wp2_with (go_at_call 80; refine hc.mono ?_; rintro e w' ⟨v, xs, rfl, h1, h2, h3, h4⟩)
 go_ret
 exact ⟨v, xs, rfl, h1, h2, h3, h4⟩
end Go.Proofs.YtgdmjpehofdnpaaGreat.LSeq
end
section
namespace Go.Proofs.YtgdmjpehofdnpaaGreat.LOrd
open Go Go.RowKit Go.Shelf Go.Maps Go.Sort Go.Proofs.YtgdmjpehofdnpaaGreatW.PrintWords Go.Proofs.YtgdmjpehofdnpaaGreatW.PrintLast Go.Proofs.YtgdmjpehofdnpaaGreat.Round Go.Proofs.YtgdmjpehofdnpaaGreat.RangeG Go.Proofs.YtgdmjpehofdnpaaGreat.Fl Go.Proofs.YtgdmjpehofdnpaaGreat.RangeH Go.Proofs.YtgdmjpehofdnpaaGreat.Ahd Go.Proofs.YtgdmjpehofdnpaaGreat.LrK Go.Proofs.YtgdmjpehofdnpaaGreat.GMap Go.Proofs.YtgdmjpehofdnpaaGreat.LSeq
attribute [local go_sem] Oper.semAt_some
set_option linter.unusedVariables false
set_option linter.unusedSimpArgs false
def cmpL (x y : Lr) : Int := if Lib.compareInt x.1 y.1 ≠ 0 then Lib.compareInt x.1 y.1 else if Lib.compareInt x.2.1 y.2.1 ≠ 0 then Lib.compareInt x.2.1 y.2.1 else Lib.compareInt x.2.2 y.2.2
set_option maxRecDepth 100000 in
theorem nan_calls (a : Int) (W : World) : Calls Tryz.prog 83 #[.int .i64 a] W fun e w' => e = .returned (.bool false) ∧ w' = W := by
 go_enter Tryz.func83, Tryz.ntmps83
 go_wp2;go_ret
 exact ⟨by simp, rfl⟩
set_option maxRecDepth 100000 in
theorem compare_calls (a b : Int) (W : World) : Calls Tryz.prog 65 #[.int .i64 a, .int .i64 b] W fun e w' => e = .returned (.int .i64 (Lib.compareInt a b)) ∧ w' = W := by
 have n1 := nan_calls a W
 have n2 := nan_calls b W
 by_cases h1 : a < b
 ·have e : Lib.compareInt a b = -1 := by unfold Lib.compareInt; rw [if_pos h1]
  rw [e]
  go_enter Tryz.func65, Tryz.ntmps65
  go_wp2_with (go_at_call 83; first | (refine n1.mono ?_; rintro e w1 ⟨rfl, rfl⟩) | (refine n2.mono ?_; rintro e w1 ⟨rfl, rfl⟩))
  go_ret
  exact ⟨rfl, rfl⟩
 ·by_cases h2 : b < a
  ·have e : Lib.compareInt a b = 1 := by unfold Lib.compareInt; rw [if_neg h1, if_pos h2]
   rw [e]
   go_enter Tryz.func65, Tryz.ntmps65
   go_wp2_with (go_at_call 83; first | (refine n1.mono ?_; rintro e w1 ⟨rfl, rfl⟩) | (refine n2.mono ?_; rintro e w1 ⟨rfl, rfl⟩))
   go_ret
   exact ⟨rfl, rfl⟩
  ·obtain rfl : a = b := by omega
   have e : Lib.compareInt a a = 0 := by unfold Lib.compareInt; rw [if_neg h1, if_neg h2]
   rw [e]
   go_enter Tryz.func65, Tryz.ntmps65
   go_wp2_with (go_at_call 83; first | (refine n1.mono ?_; rintro e w1 ⟨rfl, rfl⟩) | (refine n2.mono ?_; rintro e w1 ⟨rfl, rfl⟩))
   go_ret
   exact ⟨rfl, rfl⟩
set_option maxRecDepth 100000 in
set_option maxHeartbeats 2000000 in
theorem or_calls (g : Nat) (a b c : Int) (W : World) (hg : W.heap[g]? = some (.cells #[.int .i64 a, .int .i64 b, .int .i64 c] 3 (0, 0))) : Calls Tryz.prog 64 #[.slice (some ⟨g, 0, none⟩) 3 3] W fun e w' => e = .returned (.int .i64 (if a ≠ 0 then a else if b ≠ 0 then b else c)) ∧ w' = W := by
 have c0 : W.cell? ⟨g, 0, none⟩ = some (.int .i64 a) := zac hg 0
 have c1 : W.cell? ⟨g, 1, none⟩ = some (.int .i64 b) := zac hg 1
 have c2 : W.cell? ⟨g, 2, none⟩ = some (.int .i64 c) := zac hg 2
 clear hg
 generalize hr : (if a ≠ 0 then a else if b ≠ 0 then b else c) = r
 have HR := Lib.hid hr
 clear hr
 go_enter Tryz.func64, Tryz.ntmps64
 go_wp2
 go_loopw [5, 8] (fun v5 v8 wr => wr = W ∧ ∃ j : Nat, j ≤ 3 ∧ v8 = .int .i64 (j : Int) ∧ (0 < j → a = 0) ∧ (1 < j → b = 0) ∧ (2 < j → c = 0)) (fun _ v8 _ => 3 - (Go.RowKit.intOf v8).toNat)
 case atStart => exact ⟨rfl, 0, by omega, rfl, by omega, by omega, by omega⟩
 case round =>
  obtain ⟨rfl, j, hj, rfl, h0, h1, h2⟩ := hrel
  have hcs : j = 0 ∨ j = 1 ∨ j = 2 ∨ j = 3 := by omega
  rcases hcs with rfl | rfl | rfl | rfl
  ·by_cases hz : a = 0
   ·have hzb : ((a : Int) == 0) = true := by simpa using hz
    have hzb2 : (!((a : Int) == 0)) = false := by simp [hz]
    go_wp2
    go_roundw
    case rel => exact ⟨trivial, 1, by omega, by go_num, (fun _ => hz), by omega, by omega⟩
    case measure => simp [Go.RowKit.intOf]
   ·have hzb : ((a : Int) == 0) = false := by simpa using hz
    have hzb2 : (!((a : Int) == 0)) = true := by simp [hz]
    go_wp2
    refine bodyPost_ret (results_tmp rfl _ _ _) rfl ?_
    have hr := HR.out
    rw [if_pos hz] at hr; subst hr
    exact ⟨rfl, rfl⟩
  ·by_cases hz : b = 0
   ·have hzb : ((b : Int) == 0) = true := by simpa using hz
    have hzb2 : (!((b : Int) == 0)) = false := by simp [hz]
    go_wp2
    go_roundw
    case rel => exact ⟨trivial, 2, by omega, by go_num, (fun _ => (h0 (by omega))), (fun _ => hz), by omega⟩
    case measure => simp [Go.RowKit.intOf]
   ·have hzb : ((b : Int) == 0) = false := by simpa using hz
    have hzb2 : (!((b : Int) == 0)) = true := by simp [hz]
    go_wp2
    refine bodyPost_ret (results_tmp rfl _ _ _) rfl ?_
    have hr := HR.out
    rw [if_neg (fun h => h (h0 (by omega))), if_pos hz] at hr; subst hr
    exact ⟨rfl, rfl⟩
  ·by_cases hz : c = 0
   ·have hzb : ((c : Int) == 0) = true := by simpa using hz
    have hzb2 : (!((c : Int) == 0)) = false := by simp [hz]
    go_wp2
    go_roundw
    case rel => exact ⟨trivial, 3, by omega, by go_num, (fun _ => (h0 (by omega))), (fun _ => (h1 (by omega))), (fun _ => hz)⟩
    case measure => simp [Go.RowKit.intOf]
   ·have hzb : ((c : Int) == 0) = false := by simpa using hz
    have hzb2 : (!((c : Int) == 0)) = true := by simp [hz]
    go_wp2
    refine bodyPost_ret (results_tmp rfl _ _ _) rfl ?_
    have hr := HR.out
    rw [if_neg (fun h => h (h0 (by omega))), if_neg (fun h => h (h1 (by omega)))] at hr; subst hr
    exact ⟨rfl, rfl⟩
  ·go_wp2
   refine bodyPost_ret (results_tmp rfl _ _ _) rfl ?_
   have hr := HR.out
   rw [if_neg (fun h => h (h0 (by omega))), if_neg (fun h => h (h1 (by omega))), h2 (by omega)] at hr
   subst hr
   exact ⟨rfl, rfl⟩
set_option maxRecDepth 100000 in
set_option maxHeartbeats 4000000 in
theorem order_calls (x y : Lr) (w : World) : Calls Tryz.prog 52 #[lrV x, lrV y] w fun e w' => e = .returned (.int .i64 (cmpL x y)) ∧ ∃ q os, w' = grow (w.drewN q) os := by
 simp only [lrV, lrA]
 go_enter Tryz.func52, Tryz.ntmps52
 go_wp2
 obtain ⟨W2, hW2⟩ : ∃ W2, (w.alloc (.cells #[.int .i64 x.1, .int .i64 x.2.1, .int .i64 x.2.2] 50)).alloc (.cells #[.int .i64 y.1, .int .i64 y.2.1, .int .i64 y.2.2] 50) = W2 := ⟨_, rfl⟩
 have b0 : W2.heap[w.heap.size]? = some (.cells #[.int .i64 x.1, .int .i64 x.2.1, .int .i64 x.2.2] 50 (0, 0)) := by rw [← hW2]; exact zai (zbi w _) _
 have b1 : W2.heap[w.heap.size + 1]? = some (.cells #[.int .i64 y.1, .int .i64 y.2.1, .int .i64 y.2.2] 50 (0, 0)) := by rw [← hW2]; have := zbi (w.alloc (.cells #[.int .i64 x.1, .int .i64 x.2.1, .int .i64 x.2.2] 50)) (.cells #[.int .i64 y.1, .int .i64 y.2.1, .int .i64 y.2.2] 50); simpa using this
 rename_i K6 hK6
 rw [hW2]
 have hHeld : (fun X => X.cell? ⟨w.heap.size, 0, none⟩ = some (.int .i64 x.1) ∧ X.cell? ⟨w.heap.size, 1, none⟩ = some (.int .i64 x.2.1) ∧ X.cell? ⟨w.heap.size, 2, none⟩ = some (.int .i64 x.2.2) ∧ X.cell? ⟨w.heap.size + 1, 0, none⟩ = some (.int .i64 y.1) ∧ X.cell? ⟨w.heap.size + 1, 1, none⟩ = some (.int .i64 y.2.1) ∧ X.cell? ⟨w.heap.size + 1, 2, none⟩ = some (.int .i64 y.2.2)) W2.drew := ⟨zac (zaj b0) 0, zac (zaj b0) 1, zac (zaj b0) 2, zac (zaj b1) 0, zac (zaj b1) 1, zac (zaj b1) 2⟩
 have hBa : Below W2.drew.heap.size W2.drew (W2.drew.alloc (.cells #[.int .i64 (Lib.compareInt x.1 y.1), .int .i64 (Lib.compareInt x.2.1 y.2.1), .int .i64 (Lib.compareInt x.2.2 y.2.2)] 3)) := (Below.refl _ _).alloc (Nat.le_refl _) _
 refine Ahd.wp_qz (zb0 (S := (fun X => X.cell? ⟨w.heap.size, 0, none⟩ = some (.int .i64 x.1) ∧ X.cell? ⟨w.heap.size, 1, none⟩ = some (.int .i64 x.2.1) ∧ X.cell? ⟨w.heap.size, 2, none⟩ = some (.int .i64 x.2.2) ∧ X.cell? ⟨w.heap.size + 1, 0, none⟩ = some (.int .i64 y.1) ∧ X.cell? ⟨w.heap.size + 1, 1, none⟩ = some (.int .i64 y.2.1) ∧ X.cell? ⟨w.heap.size + 1, 2, none⟩ = some (.int .i64 y.2.2))) (ds := []) #[Nf,Nf,Nf,Nf,Nf,Nf,Nf,Nf,Nf,Nf,Nf,Nf,Nf,Nf,Nf,Nf,Nf,Nf] (by kernel_rfl) rfl rfl hHeld (fun h0_ => ?_))
 clear h0_
 refine pure_ (i := 0) (N := (some 5)) (v := ?_) (a' := ?_) (Ymk 18 1) rfl rfl (by kernel_rfl) (fun _ _ _ h => h) (Or.inl ⟨by rfl, ?_⟩) ?_ ?_
 rotate_left; · intro w'; go_simp; with_reducible rfl
 rotate_left; · simp only [Act.put, Y1, Y2, Y3]; rfl
 refine take_ (i := 1) (N := (some 6)) (v := ?_) (a' := ?_) (Ymk 18 3) rfl rfl (by kernel_rfl) (fun _ _ _ h => h) (Or.inl ⟨by rfl, ?_⟩) hHeld ?_ ?_
 rotate_left
 ·rintro w' ⟨s0, s1, s2, s3, s4, s5⟩
  go_simp
  with_reducible rfl
 rotate_left; · simp only [Act.put, Y1, Y2, Y3]; rfl
 refine pure_ (i := 2) (N := (some 7)) (v := ?_) (a' := ?_) (Ymk 18 7) rfl rfl (by kernel_rfl) (fun _ _ _ h => h) (Or.inl ⟨by rfl, ?_⟩) ?_ ?_
 rotate_left; · intro w'; go_simp; with_reducible rfl
 rotate_left; · simp only [Act.put, Y1, Y2, Y3]; rfl
 refine take_ (i := 3) (N := (some 8)) (v := ?_) (a' := ?_) (Ymk 18 15) rfl rfl (by kernel_rfl) (fun _ _ _ h => h) (Or.inl ⟨by rfl, ?_⟩) hHeld ?_ ?_
 rotate_left
 ·rintro w' ⟨s0, s1, s2, s3, s4, s5⟩
  go_simp
  with_reducible rfl
 rotate_left; · simp only [Act.put, Y1, Y2, Y3]; rfl
 refine pure_ (i := 5) (N := (some 10)) (v := ?_) (a' := ?_) (Ymk 18 47) rfl rfl (by kernel_rfl) (fun _ _ _ h => h) (Or.inl ⟨by rfl, ?_⟩) ?_ ?_
 rotate_left; · intro w'; go_simp; with_reducible rfl
 rotate_left; · simp only [Act.put, Y1, Y2, Y3]; rfl
 refine take_ (i := 6) (N := (some 11)) (v := ?_) (a' := ?_) (Ymk 18 111) rfl rfl (by kernel_rfl) (fun _ _ _ h => h) (Or.inl ⟨by rfl, ?_⟩) hHeld ?_ ?_
 rotate_left
 ·rintro w' ⟨s0, s1, s2, s3, s4, s5⟩
  go_simp
  with_reducible rfl
 rotate_left; · simp only [Act.put, Y1, Y2, Y3]; rfl
 refine pure_ (i := 7) (N := (some 12)) (v := ?_) (a' := ?_) (Ymk 18 239) rfl rfl (by kernel_rfl) (fun _ _ _ h => h) (Or.inl ⟨by rfl, ?_⟩) ?_ ?_
 rotate_left; · intro w'; go_simp; with_reducible rfl
 rotate_left; · simp only [Act.put, Y1, Y2, Y3]; rfl
 refine take_ (i := 8) (N := (some 13)) (v := ?_) (a' := ?_) (Ymk 18 495) rfl rfl (by kernel_rfl) (fun _ _ _ h => h) (Or.inl ⟨by rfl, ?_⟩) hHeld ?_ ?_
 rotate_left
 ·rintro w' ⟨s0, s1, s2, s3, s4, s5⟩
  go_simp
  with_reducible rfl
 rotate_left; · simp only [Act.put, Y1, Y2, Y3]; rfl
 refine pure_ (i := 10) (N := (some 15)) (v := ?_) (a' := ?_) (Ymk 18 1519) rfl rfl (by kernel_rfl) (fun _ _ _ h => h) (Or.inl ⟨by rfl, ?_⟩) ?_ ?_
 rotate_left; · intro w'; go_simp; with_reducible rfl
 rotate_left; · simp only [Act.put, Y1, Y2, Y3]; rfl
 refine take_ (i := 11) (N := (some 16)) (v := ?_) (a' := ?_) (Ymk 18 3567) rfl rfl (by kernel_rfl) (fun _ _ _ h => h) (Or.inl ⟨by rfl, ?_⟩) hHeld ?_ ?_
 rotate_left
 ·rintro w' ⟨s0, s1, s2, s3, s4, s5⟩
  go_simp
  with_reducible rfl
 rotate_left; · simp only [Act.put, Y1, Y2, Y3]; rfl
 refine pure_ (i := 12) (N := (some 17)) (v := ?_) (a' := ?_) (Ymk 18 7663) rfl rfl (by kernel_rfl) (fun _ _ _ h => h) (Or.inl ⟨by rfl, ?_⟩) ?_ ?_
 rotate_left; · intro w'; go_simp; with_reducible rfl
 rotate_left; · simp only [Act.put, Y1, Y2, Y3]; rfl
 refine take_ (i := 13) (N := (some 18)) (v := ?_) (a' := ?_) (Ymk 18 15855) rfl rfl (by kernel_rfl) (fun _ _ _ h => h) (Or.inl ⟨by rfl, ?_⟩) hHeld ?_ ?_
 rotate_left
 ·rintro w' ⟨s0, s1, s2, s3, s4, s5⟩
  go_simp
  with_reducible rfl
 rotate_left; · simp only [Act.put, Y1, Y2, Y3]; rfl
 refine one_ (i := 4) (N := (some 9)) (Ymk 18 15871) rfl rfl (by kernel_rfl) (by decide) (fun K hK => ?_)
 refine goes_ Tryz.func65 (by kernel_rfl) rfl #[.int .i64 x.1, .int .i64 y.1] (by rfl) rfl rfl (by first | rfl | (simp [Act.eval]; done) | (simp [go_sem]; done)) ?_
 refine (compare_calls _ _ _).mono ?_
 rintro e W' ⟨rfl, rfl⟩
 refine ⟨_, rfl, ?_⟩
 refine hK.out _ _ hHeld (fun h0_ => ?_)
 clear hK K h0_
 refine one_ (i := 9) (N := (some 14)) (Ymk 18 16383) rfl rfl (by kernel_rfl) (by decide) (fun K hK => ?_)
 refine goes_ Tryz.func65 (by kernel_rfl) rfl #[.int .i64 x.2.1, .int .i64 y.2.1] (by rfl) rfl rfl (by first | rfl | (simp [Act.eval]; done) | (simp [go_sem]; done)) ?_
 refine (compare_calls _ _ _).mono ?_
 rintro e W' ⟨rfl, rfl⟩
 refine ⟨_, rfl, ?_⟩
 refine hK.out _ _ hHeld (fun h0_ => ?_)
 clear hK K h0_
 refine one_ (i := 14) (N := (some 19)) (Ymk 18 32767) rfl rfl (by kernel_rfl) (by decide) (fun K hK => ?_)
 refine goes_ Tryz.func65 (by kernel_rfl) rfl #[.int .i64 x.2.2, .int .i64 y.2.2] (by rfl) rfl rfl (by first | rfl | (simp [Act.eval]; done) | (simp [go_sem]; done)) ?_
 refine (compare_calls _ _ _).mono ?_
 rintro e W' ⟨rfl, rfl⟩
 refine ⟨_, rfl, ?_⟩
 refine hK.out _ _ hHeld (fun h0_ => ?_)
 clear hK K h0_
 refine one_ (i := 15) (N := (some 20)) (Ymk 18 65535) rfl rfl (by kernel_rfl) (by decide) (fun K hK => ?_)
 refine zb7 (w1 := (W2.drew.alloc (.cells #[.int .i64 (Lib.compareInt x.1 y.1), .int .i64 (Lib.compareInt x.2.1 y.2.1), .int .i64 (Lib.compareInt x.2.2 y.2.2)] 3))) (v := .slice (some ⟨W2.drew.heap.size, 0, none⟩) 3 3) (by rfl) rfl ?_ ?_
 ·go_simp
 have hhA : (fun X => X.cell? ⟨w.heap.size, 0, none⟩ = some (.int .i64 x.1) ∧ X.cell? ⟨w.heap.size, 1, none⟩ = some (.int .i64 x.2.1) ∧ X.cell? ⟨w.heap.size, 2, none⟩ = some (.int .i64 x.2.2) ∧ X.cell? ⟨w.heap.size + 1, 0, none⟩ = some (.int .i64 y.1) ∧ X.cell? ⟨w.heap.size + 1, 1, none⟩ = some (.int .i64 y.2.1) ∧ X.cell? ⟨w.heap.size + 1, 2, none⟩ = some (.int .i64 y.2.2)) (W2.drew.alloc (.cells #[.int .i64 (Lib.compareInt x.1 y.1), .int .i64 (Lib.compareInt x.2.1 y.2.1), .int .i64 (Lib.compareInt x.2.2 y.2.2)] 3)) := ⟨zaq hBa hHeld.1, zaq hBa hHeld.2.1, zaq hBa hHeld.2.2.1, zaq hBa hHeld.2.2.2.1, zaq hBa hHeld.2.2.2.2.1, zaq hBa hHeld.2.2.2.2.2⟩
 refine hK.out _ _ hhA (fun h0_ => ?_)
 clear hK K h0_
 refine norm_ (a' := ?_) ?_ ?_
 rotate_left
 ·show Act.put _ (some 20) _ = _
  simp only [Act.put, Y1, Y2, Y3]
  rfl
 refine one_ (i := 16) (N := (some 21)) (Ymk 18 131071) rfl rfl (by kernel_rfl) (by decide) (fun K hK => ?_)
 refine goes_ Tryz.func64 (by kernel_rfl) rfl #[.slice (some ⟨W2.drew.heap.size, 0, none⟩) 3 3] (by rfl) rfl rfl (by first | rfl | (simp [Act.eval]; done) | (simp [go_sem]; done)) ?_
 refine (or_calls _ _ _ _ _ (zbi W2.drew (.cells #[.int .i64 (Lib.compareInt x.1 y.1), .int .i64 (Lib.compareInt x.2.1 y.2.1), .int .i64 (Lib.compareInt x.2.2 y.2.2)] 3))).mono ?_
 rintro e W' ⟨he, rfl⟩
 obtain rfl : e = .returned (.int .i64 (cmpL x y)) := he
 refine ⟨_, rfl, ?_⟩
 refine hK.out _ _ hhA (fun h0_ => ?_)
 clear hK K h0_
 refine pure_ (i := 17) (N := (some 4)) (v := ?_) (a' := ?_) (Ymk 18 262143) rfl rfl (by kernel_rfl) (fun _ _ _ h => h) (Or.inl ⟨by rfl, ?_⟩) ?_ ?_
 rotate_left; · intro w'; go_simp; with_reducible rfl
 rotate_left; · simp only [Act.put, Y1, Y2, Y3]; rfl
 refine done_ (by kernel_rfl) ?_
 refine hK6 _ _ ?_
 go_wp2
 have e : ∃ os, (W2.drew.alloc (.cells #[.int .i64 (Lib.compareInt x.1 y.1), .int .i64 (Lib.compareInt x.2.1 y.2.1), .int .i64 (Lib.compareInt x.2.2 y.2.2)] 3)) = grow (w.drewN 1) os := by
  rw [← hW2, alloc_eq_grow, alloc_eq_grow, alloc_eq_grow, drew_grow, drew_grow, grow_grow, grow_grow]
  exact ⟨_, rfl⟩
 refine bodyPost_ret (results_tmp rfl _ _ _) rfl ?_
 exact ⟨rfl, 1, e⟩
end Go.Proofs.YtgdmjpehofdnpaaGreat.LOrd
end
section
namespace Go.Proofs.YtgdmjpehofdnpaaGreat.LLex
open Go Go.RowKit Go.Shelf Go.Maps Go.Proofs.YtgdmjpehofdnpaaGreatW.PrintWords Go.Proofs.YtgdmjpehofdnpaaGreat.Fl Go.Proofs.YtgdmjpehofdnpaaGreat.LrK Go.Proofs.YtgdmjpehofdnpaaGreat.LSeq Go.Proofs.YtgdmjpehofdnpaaGreat.LOrd
set_option linter.unusedVariables false
set_option linter.unusedSimpArgs false
def bef (x y : Lr) : Prop := x.1 < y.1 ∨ x.1 = y.1 ∧ (x.2.1 < y.2.1 ∨ x.2.1 = y.2.1 ∧ x.2.2 < y.2.2)
instance (x y : Lr) : Decidable (bef x y) := by unfold bef; infer_instance
theorem cmpI_lt (a b : Int) : Lib.compareInt a b < 0 ↔ a < b := by unfold Lib.compareInt; split <;> (try split) <;> omega
theorem cmpI_eq (a b : Int) : Lib.compareInt a b = 0 ↔ a = b := by unfold Lib.compareInt; split <;> (try split) <;> omega
theorem cmpL_lt (x y : Lr) : cmpL x y < 0 ↔ bef x y := by
 have a1 := cmpI_lt x.1 y.1
 have a2 := cmpI_lt x.2.1 y.2.1
 have a3 := cmpI_lt x.2.2 y.2.2
 have b1 := cmpI_eq x.1 y.1
 have b2 := cmpI_eq x.2.1 y.2.1
 unfold cmpL bef
 split
 ·rename_i h; rw [a1]; have h : ¬ x.1 = y.1 := fun e => h (b1.2 e); omega
 ·rename_i h
  have h : x.1 = y.1 := b1.1 (Decidable.not_not.1 h)
  split
  ·rename_i g; rw [a2]; have g : ¬ x.2.1 = y.2.1 := fun e => g (b2.2 e); omega
  ·rename_i g
   have g : x.2.1 = y.2.1 := b2.1 (Decidable.not_not.1 g)
   rw [a3]
   omega
theorem bef_irrefl (x : Lr) : ¬ bef x x := by unfold bef; omega
theorem bef_trans {x y z : Lr} (h : bef x y) (g : bef y z) : bef x z := by unfold bef at *; omega
theorem bef_ntrans {x y z : Lr} (h : ¬ bef x y) (g : ¬ bef y z) : ¬ bef x z := by unfold bef at *; omega
theorem bef_tri {x y : Lr} (h : ¬ bef x y) (g : ¬ bef y x) : x = y := by
 unfold bef at *
 exact Prod.ext (by omega) (Prod.ext (by omega) (by omega))
def RisesL (l : List Lr) : Prop := l.Pairwise bef
theorem risesL_one : ∀ {l m : List Lr}, RisesL l → RisesL m → (∀ x, x ∈ l ↔ x ∈ m) → l = m
 | [], [], _, _, _ => rfl
 | [], b :: m, _, _, h => by have := (h b).2 (by simp); cases this
 | a :: l, [], _, _, h => by have := (h a).1 (by simp); cases this
 | a :: l, b :: m, hl, hm, h => by
  obtain ⟨l1, l2⟩ := List.pairwise_cons.1 hl
  obtain ⟨m1, m2⟩ := List.pairwise_cons.1 hm
  have e : a = b := by
   have h1 := (h a).1 (by simp)
   have h2 := (h b).2 (by simp)
   rcases List.mem_cons.1 h1 with h1 | h1
   ·exact h1
   ·rcases List.mem_cons.1 h2 with h2 | h2
    ·exact h2.symm
    ·exact absurd (bef_trans (m1 a h1) (l1 b h2)) (bef_irrefl _)
  subst e
  congr 1
  refine risesL_one l2 m2 fun x => ?_
  constructor
  ·intro hx
   rcases List.mem_cons.1 ((h x).1 (by simp [hx])) with rfl | h'
   ·exact absurd (l1 _ hx) (bef_irrefl _)
   ·exact h'
  ·intro hx
   rcases List.mem_cons.1 ((h x).2 (by simp [hx])) with rfl | h'
   ·exact absurd (m1 _ hx) (bef_irrefl _)
   ·exact h'
def kLr : Kd Lr := Kd.pair (Kd.int .i64) (Kd.pair (Kd.int .i64) (Kd.int .i64))
theorem kLr_M (w : World) (base : Nat) (ok : Nat → Prop) (x : Lr) (cs : List Value) : kLr.M w base ok x cs ↔ cs = (lrA x).toList := by
 constructor
 ·rintro ⟨_, _, rfl, rfl, ⟨_, _, rfl, rfl, rfl⟩⟩
  rfl
 ·rintro rfl
  exact ⟨[.int .i64 x.1], [.int .i64 x.2.1, .int .i64 x.2.2], rfl, rfl, ⟨[.int .i64 x.2.1], [.int .i64 x.2.2], rfl, rfl, rfl⟩⟩
theorem flat_at (l : List Lr) : ∀ (j : Nat) (p : Lr), l[j]? = some p → ((flatL l).drop (j * 3)).take 3 = (lrA p).toList := by
 induction l with
 | nil => intro j p h; simp at h
 | cons a t ih =>
  intro j p h
  cases j with
  | zero =>
   simp only [List.getElem?_cons_zero, Option.some.injEq] at h
   subst h
   simp [flatL, lrA]
  | succ j =>
   simp only [List.getElem?_cons_succ] at h
   have := ih j p h
   rw [show (j + 1) * 3 = 3 + j * 3 by omega, ← List.drop_drop]
   simpa [flatL, lrA] using this
theorem own_R3 {w : World} {base : Nat} {ok : Nat → Prop} {v : Value} {l : List Lr} (h : w.ownsRow base TL 3 v l.length (flatL l)) (hok : ∀ k, v.ownBlock = some k → ok k) : Kd.R kLr TL w base ok v l :=
 ⟨hok, flatL l, h, flatL_len l, fun j p hj => (kLr_M _ _ _ _ _).2 (flat_at l j p hj)⟩
theorem R3_own {w : World} {base : Nat} {ok : Nat → Prop} {v : Value} {l : List Lr} (h : Kd.R kLr TL w base ok v l) : w.ownsRow base TL 3 v l.length (flatL l) := by
 obtain ⟨_, inner, ho, hr⟩ := h
 have : inner = flatL l := by
  refine List.ext_getElem? fun t => ?_
  have k1 := hr.1
  have k2 := flatL_len l
  by_cases ht : t < l.length * 3
  ·have hq : t / 3 < l.length := by omega
   have e1 := (kLr_M _ _ _ _ _).1 (hr.2 (t / 3) l[t / 3] (List.getElem?_eq_getElem hq))
   have e2 := flat_at l (t / 3) l[t / 3] (List.getElem?_eq_getElem hq)
   have e3 := congrArg (fun m : List Value => m[t % 3]?) (e1.trans e2.symm)
   simp only [show kLr.sz = 3 from rfl] at e3
   rw [List.getElem?_take_of_lt (by omega), List.getElem?_take_of_lt (by omega), List.getElem?_drop, List.getElem?_drop, show t / 3 * 3 + t % 3 = t by omega] at e3
   exact e3
  ·rw [List.getElem?_eq_none (by simp only [show kLr.sz = 3 from rfl] at k1; omega), List.getElem?_eq_none (by omega)]
 subst this
 exact ho
end Go.Proofs.YtgdmjpehofdnpaaGreat.LLex
end
section
namespace Go.Proofs.YtgdmjpehofdnpaaGreat.LFlat
open Go Go.RowKit Go.Shelf Go.Maps Go.Proofs.YtgdmjpehofdnpaaGreatW.PrintWords Go.Proofs.YtgdmjpehofdnpaaGreatW.PrintLast Go.Proofs.YtgdmjpehofdnpaaGreat.Round Go.Proofs.YtgdmjpehofdnpaaGreat.RangeG Go.Proofs.YtgdmjpehofdnpaaGreat.Fl Go.Proofs.YtgdmjpehofdnpaaGreat.LrK Go.Proofs.YtgdmjpehofdnpaaGreat.LSeq Go.Proofs.YtgdmjpehofdnpaaGreat.LLex
set_option linter.unusedVariables false
set_option linter.unusedSimpArgs false
structure FG where
 A0 : Option Addr
 A1 : Option Addr
 A2 : Option Addr
 c0 : Nat
 c1 : Nat
 c2 : Nat
 ts : List ByteArray
 ns : List ByteArray
 ps : List Fl.P
def FG.row (F : FG) : Array Value := #[.slice F.A0 F.ts.length F.c0, .slice F.A1 F.ns.length F.c1, .slice F.A2 F.ps.length F.c2]
def FG.val (F : FG) : Value := .agg F.row
structure FG.K (F : FG) (w : World) : Prop where
 h0 : Kd.C Kd.string w F.A0 F.ts.length F.ts
 l0 : F.ts.length ≤ F.c0
 h1 : Kd.C Kd.string w F.A1 F.ns.length F.ns
 l1 : F.ns.length ≤ F.c1
 h2 : Kd.C kP w F.A2 F.ps.length F.ps
 l2 : F.ps.length ≤ F.c2
theorem FG.K.below {F : FG} {w w' : World} (h : F.K w) (hb : Below w.heap.size w w') : F.K w' := ⟨Kd.zax h.h0 hb, h.l0, Kd.zax h.h1 hb, h.l1, Kd.zax h.h2 hb, h.l2⟩
theorem C_of {α β : Type} {d : Kd α} {e : Kd β} {f : α → β} (hz : e.sz = d.sz) (hK : ∀ w x cs, d.K w x cs → e.K w (f x) cs) {w : World} {A : Option Addr} {n : Nat} {xs : List α} (h : Kd.C d w A n xs) : Kd.C e w A n (xs.map f) := by
 obtain ⟨h1, h2, h3⟩ := h
 refine ⟨by simpa using h1, h2, fun h0 => ?_⟩
 obtain ⟨ad, e', hc⟩ := h3 h0
 refine ⟨ad, e', fun j p hj => ?_⟩
 rw [List.getElem?_map] at hj
 cases hx : xs[j]? with
 | none => rw [hx] at hj; cases hj
 | some x =>
  rw [hx] at hj
  obtain rfl : f x = p := by simpa using hj
  obtain ⟨c, hl, hk, hcell⟩ := hc j x hx
  exact ⟨c, by rw [hl, hz], hK w x c hk, fun i v hv => by rw [hz]; exact hcell i v hv⟩
def nI (x : I) : PNext.S44 := ⟨x.1, x.2.1, x.2.2⟩
def nP (p : P) : PNext.S42 := ⟨p.1, p.2.1.map nI, p.2.2⟩
def oI (x : I) : POf.S44 := ⟨x.1, x.2.1, x.2.2⟩
def oP (p : P) : POf.S42 := ⟨p.1, p.2.1.map oI, p.2.2⟩
theorem nI_K (w : World) (x : I) (cs : List Value) (h : kI.K w x cs) : PNext.k44.K w (nI x) cs := h
theorem oI_K (w : World) (x : I) (cs : List Value) (h : kI.K w x cs) : POf.k44.K w (oI x) cs := h
theorem nP_K (w : World) (x : P) (cs : List Value) (h : kP.K w x cs) : PNext.k42.K w (nP x) cs := by
 obtain ⟨A, c, rfl, hl, hC⟩ := kP_open h
 have := PNext.k42_mk w (nP x) (A1 := A) (c1 := c) (by show (x.2.1.map nI).length ≤ c; rw [List.length_map]; exact hl) (by show Kd.C _ _ _ (x.2.1.map nI).length (x.2.1.map nI); rw [List.length_map]; exact C_of (e := PNext.k44) (f := nI) rfl nI_K hC)
 rwa [show (nP x).f1.length = x.2.1.length from List.length_map _] at this
theorem oP_K (w : World) (x : P) (cs : List Value) (h : kP.K w x cs) : POf.k42.K w (oP x) cs := by
 obtain ⟨A, c, rfl, hl, hC⟩ := kP_open h
 have := POf.k42_mk w (oP x) (A1 := A) (c1 := c) (by show (x.2.1.map oI).length ≤ c; rw [List.length_map]; exact hl) (by show Kd.C _ _ _ (x.2.1.map oI).length (x.2.1.map oI); rw [List.length_map]; exact C_of (e := POf.k44) (f := oI) rfl oI_K hC)
 rwa [show (oP x).f1.length = x.2.1.length from List.length_map _] at this
def dP : P := (0, [], 0)
def rightV (n0 : Nat) (ps : List P) (prod : Int) : List I := if prod < 0 then [((n0 : Int), ⟨#[]⟩, ⟨#[]⟩)] else (ps.getD prod.toNat dP).2.1
def fitV (n0 : Nat) (ps : List P) (x : Lr) : Bool := decide (-1 ≤ x.1) && decide (x.1 < ps.length) && decide (0 ≤ x.2.1) && decide (x.2.1 ≤ (rightV n0 ps x.1).length) && decide (0 ≤ x.2.2) && decide (x.2.2 ≤ n0)
def nextV (n0 : Nat) (ps : List P) (x : Lr) : Option Int := if fitV n0 ps x = true then ((rightV n0 ps x.1)[x.2.1.toNat]?).map (·.1) else none
def ofF (s : Int) : Nat → List P → List Int
 | _, [] => []
 | i, p :: t => if p.1 = s then (i : Int) :: ofF s (i + 1) t else ofF s (i + 1) t
def ofV (ps : List P) (s : Int) : List Int := ofF s 0 ps
theorem zb8 {n0 : Nat} {ps : List P} {x : Lr} : fitV n0 ps x = true ↔ -1 ≤ x.1 ∧ x.1 < ps.length ∧ 0 ≤ x.2.1 ∧ x.2.1 ≤ (rightV n0 ps x.1).length ∧ 0 ≤ x.2.2 ∧ x.2.2 ≤ n0 := by
 simp only [fitV, Bool.and_eq_true, decide_eq_true_eq]
 constructor
 ·rintro ⟨⟨⟨⟨⟨a, b⟩, c⟩, d⟩, e⟩, f⟩; exact ⟨a, b, c, d, e, f⟩
 ·rintro ⟨a, b, c, d, e, f⟩; exact ⟨⟨⟨⟨⟨a, b⟩, c⟩, d⟩, e⟩, f⟩
theorem rd_nP (ps : List P) (i : Int) : PNext.zae (ps.map nP) i = nP (ps.getD i.toNat dP) := by
 show (ps.map nP).getD i.toNat _ = _
 rw [List.getD_eq_getElem?_getD, List.getElem?_map, List.getD_eq_getElem?_getD]
 cases ps[i.toNat]? <;> rfl
theorem right_eq (ts ns : List ByteArray) (ps : List P) (prod : Int) (h : prod < ps.length) : PNext.zca.f ts ns (ps.map nP) prod = some ((rightV ts.length ps prod).map nI) := by
 unfold PNext.zca.f rightV
 by_cases h0 : prod < 0
 ·rw [if_pos h0, if_pos h0]; rfl
 ·rw [if_neg h0, if_neg h0, if_pos (by omega), if_pos (by rw [List.length_map]; exact h), rd_nP]
  rfl
theorem fit_eq (ts ns : List ByteArray) (ps : List P) (x : Lr) : PNext.zb2.f ts ns (ps.map nP) x.1 x.2.1 x.2.2 = some (fitV ts.length ps x) := by
 unfold PNext.zb2.f
 by_cases h0 : x.1 ≥ -1
 ·rw [if_pos h0]
  by_cases h1 : x.1 < (ps.length : Int)
  ·rw [if_pos (by rw [List.length_map]; exact h1)]
   by_cases h2 : x.2.1 ≥ 0
   ·rw [if_pos h2, right_eq _ _ _ _ h1, Option.bind_some, List.length_map]
    by_cases h3 : x.2.1 ≤ ((rightV ts.length ps x.1).length : Int)
    ·rw [if_pos h3]
     by_cases h4 : x.2.2 ≥ 0
     ·rw [if_pos h4]
      congr 1
      simp [fitV, h0, h1, h2, h3, h4, show (-1 : Int) ≤ x.1 from h0, show (0 : Int) ≤ x.2.1 from h2, show (0 : Int) ≤ x.2.2 from h4]
     ·rw [if_neg h4]; simp [fitV, show ¬ (0 : Int) ≤ x.2.2 from h4]
    ·rw [if_neg h3]; simp [fitV, h3]
   ·rw [if_neg h2]; simp [fitV, show ¬ (0 : Int) ≤ x.2.1 from h2]
  ·rw [if_neg (by rw [List.length_map]; exact h1)]; simp [fitV, h1]
 ·rw [if_neg h0]; simp [fitV, show ¬ (-1 : Int) ≤ x.1 from h0]
theorem next_eq (ts ns : List ByteArray) (ps : List P) (x : Lr) : PNext.zb5.f ts ns (ps.map nP) x.1 x.2.1 x.2.2 = some ((nextV ts.length ps x).getD 0, (nextV ts.length ps x).isSome) := by
 unfold PNext.zb5.f nextV
 rw [fit_eq, Option.bind_some]
 by_cases h : fitV ts.length ps x = true
 ·obtain ⟨h0, h1, h2, h3, h4, h5⟩ := zb8.1 h
  rw [if_pos h, if_pos h, right_eq _ _ _ _ h1, Option.bind_some, if_pos h2, if_pos (by rw [List.length_map]; exact h3), Option.bind_some, List.length_drop, List.length_map]
  by_cases hl : x.2.1.toNat < (rightV ts.length ps x.1).length
  ·rw [if_neg (by omega), if_pos (by omega), List.getElem?_eq_getElem hl]
   show some ((((rightV ts.length ps x.1).map nI).drop x.2.1.toNat).getD 0 _ |>.f0, true) = _
   rw [List.getD_eq_getElem?_getD, List.getElem?_drop, Nat.add_zero, List.getElem?_map, List.getElem?_eq_getElem hl]
   rfl
  ·rw [if_pos (by omega), List.getElem?_eq_none (by omega)]
   rfl
 ·rw [if_neg h, if_neg h]; rfl
theorem rd_oP (ps : List P) (i : Nat) (h : i < ps.length) : POf.zae (ps.map oP) (i : Int) = oP ps[i] := by
 show (ps.map oP).getD ((i : Int)).toNat _ = _
 rw [Int.toNat_natCast, List.getD_eq_getElem?_getD, List.getElem?_map, List.getElem?_eq_getElem h]
 rfl
theorem ofF_len (s : Int) : ∀ (i : Nat) (l : List P), (ofF s i l).length ≤ l.length
 | _, [] => Nat.le_refl _
 | i, p :: t => by
  have := ofF_len s (i + 1) t
  unfold ofF
  split <;> simp <;> omega
theorem of_loop (ps : List P) (s : Int) (hp : ps.length ≤ 1000000000000) : ∀ (d k : Nat) (i : Nat) (acc : List Int), d = ps.length - i → i ≤ ps.length → d < k → acc.length ≤ i → POf.zbu.l0 k s acc (ps.map oP) (ps.length : Int) (i : Int) = some (acc ++ ofF s i (ps.drop i)) := by
 intro d
 induction d with
 | zero =>
  intro k i acc hd hi hk ha
  obtain ⟨m, rfl⟩ : ∃ m, k = m + 1 := ⟨k - 1, by omega⟩
  have : i = ps.length := by omega
  subst this
  simp only [POf.zbu.l0]
  rw [if_neg (by omega), List.drop_length, ofF, List.append_nil]
 | succ d ih =>
  intro k i acc hd hi hk ha
  obtain ⟨m, rfl⟩ : ∃ m, k = m + 1 := ⟨k - 1, by omega⟩
  have hlt : i < ps.length := by omega
  have hw : wrap64 ((i : Int) + 1) = ((i + 1 : Nat) : Int) := by unfold wrap64; omega
  have hdr : ps.drop i = ps[i] :: ps.drop (i + 1) := List.drop_eq_getElem_cons hlt
  simp only [POf.zbu.l0]
  rw [if_pos (by omega), if_pos (by omega), if_pos (by rw [List.length_map]; omega), rd_oP _ _ hlt, hw, hdr, ofF]
  by_cases he : ps[i].1 = s
  ·rw [if_pos (show (oP ps[i]).f0 = s from he), if_pos (by omega), if_pos he, ih m (i + 1) _ (by omega) (by omega) (by omega) (by simp; omega), List.append_assoc]
   rfl
  ·rw [if_neg (show ¬ (oP ps[i]).f0 = s from he), if_neg he, ih m (i + 1) _ (by omega) (by omega) (by omega) (by omega)]
theorem of_eq (ts ns : List ByteArray) (ps : List P) (s : Int) (hp : ps.length ≤ 1000000000000) : POf.zbu.f (ps.length + 1) ts ns (ps.map oP) s = some (ofV ps s) := by
 unfold POf.zbu.f ofV
 rw [List.length_map]
 have := of_loop ps s hp ps.length (ps.length + 1) 0 [] (by omega) (by omega) (by omega) (by simp)
 simpa using this
set_option maxRecDepth 100000 in
set_option maxHeartbeats 2000000 in
theorem right_calls (F : FG) (prod : Int) (u W : World) (hK : F.K u) (hu : Below u.heap.size u W) (hp : prod < F.ps.length) :
  Calls Tryz.prog 35 #[F.val, .int .i64 prod] W fun e W' => ∃ A c, e = .returned (.slice A (rightV F.ts.length F.ps prod).length c) ∧ (rightV F.ts.length F.ps prod).length ≤ c ∧ ((rightV F.ts.length F.ps prod).length ≠ 0 → ∃ ad, A = some ad) ∧ (0 ≤ prod → Kd.C kI u A (rightV F.ts.length F.ps prod).length (rightV F.ts.length F.ps prod)) ∧ Below W.heap.size W W' := by
 simp only [FG.val, FG.row]
 have hl0 : F.ts.length ≤ 9223372036854775807 := hK.h0.2.1
 by_cases h0 : prod < 0
 ·unfold rightV
  rw [if_pos h0]
  go_enter Tryz.func35, Tryz.ntmps35
  go_wp2;go_ret
  exact ⟨_, _, rfl, Nat.le_refl _, (fun _ => ⟨_, rfl⟩), (fun h => by omega), ((Below.refl _ _).alloc (Nat.le_refl _) _).alloc (by simp) _⟩
 ·obtain ⟨ad, x, A1, c1, hA, hx, hl1, hC1, f0, f1, f2⟩ := atP hK.h2 prod.toNat (by omega)
  have e : rightV F.ts.length F.ps prod = x.2.1 := by
   unfold rightV
   rw [if_neg h0, List.getD_eq_getElem?_getD, hx]
   rfl
  rw [e]
  have hlp : F.ps.length ≤ 9223372036854775807 := hK.h2.2.1
  have g1 := zaq (hu.alloc hu.size (.cells #[.slice F.A0 F.ts.length F.c0, .slice F.A1 F.ns.length F.c1, .slice (some ad) F.ps.length F.c2] 25)) f1
  rw [hA]
  have hA1 : x.2.1.length ≠ 0 → ∃ ad, A1 = some ad := fun h => by obtain ⟨ad, _, e, _⟩ := atI hC1 0 (by omega); exact ⟨ad, e⟩
  have HA := Lib.hid hA1
  have HC := Lib.hid hC1
  clear hC1 hA1 f0 f1 f2 hx e
  go_enter Tryz.func35, Tryz.ntmps35
  go_wp2;go_ret
  exact ⟨_, _, rfl, hl1, by simpa using HA.out, HC.out, (Below.refl _ _).alloc (Nat.le_refl _) _⟩
theorem fit_calls (F : FG) (x : Lr) (W : World) (hK : F.K W) :
  Calls Tryz.prog 17 #[F.val, lrV x] W fun e W' => e = .returned (.bool (fitV F.ts.length F.ps x)) ∧ Below W.heap.size W W' := by
 have hl : (F.ps.map nP).length = F.ps.length := List.length_map _
 have h := PNext.zb2.calls F.A0 F.c0 F.ts F.A1 F.c1 F.ns F.A2 F.c2 (F.ps.map nP) x.1 x.2.1 x.2.2 _ W hK.h0 hK.l0 hK.h1 hK.l1 (by rw [hl]; exact C_of (e := PNext.k42) (f := nP) rfl nP_K hK.h2) (by rw [hl]; exact hK.l2) (fit_eq F.ts F.ns F.ps x)
 rw [hl] at h
 exact h
theorem next_calls (F : FG) (x : Lr) (W : World) (hK : F.K W) :
  Calls Tryz.prog 15 #[F.val, lrV x] W fun e W' => e = .returned (.tuple #[.int .i64 ((nextV F.ts.length F.ps x).getD 0), .bool (nextV F.ts.length F.ps x).isSome]) ∧ Below W.heap.size W W' := by
 have hl : (F.ps.map nP).length = F.ps.length := List.length_map _
 have h := PNext.zb5.calls F.A0 F.c0 F.ts F.A1 F.c1 F.ns F.A2 F.c2 (F.ps.map nP) x.1 x.2.1 x.2.2 _ _ W hK.h0 hK.l0 hK.h1 hK.l1 (by rw [hl]; exact C_of (e := PNext.k42) (f := nP) rfl nP_K hK.h2) (by rw [hl]; exact hK.l2) (next_eq F.ts F.ns F.ps x)
 rw [hl] at h
 exact h
theorem of_calls (F : FG) (s : Int) (W : World) (hK : F.K W) (hp : F.ps.length ≤ 1000000000000) :
  Calls Tryz.prog 46 #[F.val, .int .i64 s] W fun e W' => ∃ v, e = .returned v ∧ Kd.R (Kd.int .i64) 3 W' W.heap.size (fun _ => True) v (ofV F.ps s) ∧ Below W.heap.size W W' := by
 have hl : (F.ps.map oP).length = F.ps.length := List.length_map _
 have h := POf.zbu.calls (F.ps.length + 1) F.A0 F.c0 F.ts F.A1 F.c1 F.ns F.A2 F.c2 (F.ps.map oP) s _ W hK.h0 hK.l0 hK.h1 hK.l1 (by rw [hl]; exact C_of (e := POf.k42) (f := oP) rfl oP_K hK.h2) (by rw [hl]; exact hK.l2) (of_eq F.ts F.ns F.ps s hp)
 rw [hl] at h
 exact h
end Go.Proofs.YtgdmjpehofdnpaaGreat.LFlat
end
