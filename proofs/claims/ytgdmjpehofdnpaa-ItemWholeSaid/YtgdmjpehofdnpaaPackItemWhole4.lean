import Derived.WideKeyEntry
import Derived.Test.YtgdmjpehofdnpaaProg
import Derived.Below
import Derived.Deep.Draws
import Derived.Deep.AppendLies
import Derived.Maps.AppendAt
import Derived.OwnWalk
import Derived.Laws.BytesArg
import Derived.Laws.MakeOwn
import Derived.Laws.OwnMore
import Derived.Deep.OwnRows
import Derived.Tactics
import Derived.Lib.ConvBytes
import Derived.Laws.Slices
import Derived.WalkKit
import Derived.KernelRfl
import Derived.RowKit3
import Derived.Deep.LoopGhost
import Derived.Deep.QuietTactic
import Derived.BigQuiet
import Derived.WideLaws
import Derived.Deep.DeepCutAuto
import Derived.Deep.CutBlock
import Derived.Deep.RegionHeld3
import Derived.Laws.Rows
import Derived.Lib.AppendStr
import Derived.ArgAppend
import Derived.Laws.IdiomCopy
import Derived.OrdersHeld
import Derived.Laws.BitsLemmas
import Derived.RowKit
import Derived.Lib.Strings
import Derived.Lib.Bytealg
import Derived.Lib.Slices
import Derived.Lib.Walk
import Derived.Test.YtgdmjpehofdnpaaPackItemWhole3
section
namespace Go.Proofs.Ytgdmjpehofdnpaa.LEq
open Go Go.RowKit Go.Shelf Go.Maps Go.Proofs.YtgdmjpehofdnpaaW.PrintWords Go.Proofs.YtgdmjpehofdnpaaW.PrintLast Go.Proofs.Ytgdmjpehofdnpaa.Round Go.Proofs.Ytgdmjpehofdnpaa.RangeG Go.Proofs.Ytgdmjpehofdnpaa.Fl Go.Proofs.Ytgdmjpehofdnpaa.Deri Go.Proofs.Ytgdmjpehofdnpaa.Seqs Go.Proofs.Ytgdmjpehofdnpaa.LrK Go.Proofs.Ytgdmjpehofdnpaa.LSeq Go.Proofs.Ytgdmjpehofdnpaa.LLex Go.Proofs.Ytgdmjpehofdnpaa.LFlat Go.Proofs.Ytgdmjpehofdnpaa.LLooks Go.Proofs.Ytgdmjpehofdnpaa.LClos
set_option linter.unusedVariables false
set_option linter.unusedSimpArgs false
theorem eqLr (d : Nat) (w : World) (x0 y0 : Int) (x1 y1 : Int) (x2 y2 : Int) :
  (Op.equalIn (d + 2) 39 (.agg #[.int .i64 x0, .int .i64 x1, .int .i64 x2]) (.agg #[.int .i64 y0, .int .i64 y1, .int .i64 y2])).run Try.prog w = .ok (x0 == y0 && (x1 == y1 && (x2 == y2))) w := by
 refine eqA_of Try.underlying39 (by kernel_rfl) ?_
 refine eqf_cons (by rfl) (by go_simp; rfl) (by go_simp; rfl) (by go_simp) ?_
 refine eqf_cons (by rfl) (by go_simp; rfl) (by go_simp; rfl) (by go_simp) ?_
 exact eqf_last (by rfl) (by go_simp; rfl) (by go_simp; rfl) (by go_simp)
attribute [local go_sem high] eqLr
def eqB (x y : Lr) : Bool := x.1 == y.1 && (x.2.1 == y.2.1 && (x.2.2 == y.2.2))
theorem eqB_iff {x y : Lr} : eqB x y = true ↔ x = y := by
 simp only [eqB, Bool.and_eq_true, beq_iff_eq]
 constructor
 ·rintro ⟨h1, h2, h3⟩; exact Prod.ext h1 (Prod.ext h2 h3)
 ·rintro rfl; exact ⟨rfl, rfl, rfl⟩
set_option maxRecDepth 100000 in
set_option maxHeartbeats 4000000 in
theorem equalL_calls (A : Option Addr) (ca : Nat) (a : List Lr) (B : Option Addr) (cb : Nat) (b : List Lr) (w : World) (hA : Kd.C kLr w A a.length a) (hB : Kd.C kLr w B b.length b) :
  Calls Try.prog 21 #[.slice A a.length ca, .slice B b.length cb] w fun e w' => e = .returned (.bool (decide (a = b))) ∧ Below w.heap.size w w' := by
 have hal : a.length ≤ 9223372036854775807 := hA.2.1
 by_cases hl : a.length = b.length
 ·have hbl : b.length = a.length := hl.symm
  rw [hbl] at hB ⊢
  have hli : ((a.length : Int) != (a.length : Int)) = false := by simp
  have HBL := Lib.hid hbl
  clear hbl hl
  go_enter Try.func21, Try.ntmps21
  go_wp2
  go_loopw [13] (fun i wr => ∃ j : Nat, i = .int .i64 (j : Int) ∧ j ≤ a.length ∧ Hid (a.take j = b.take j) ∧ Below w.heap.size w wr) (fun i _ => a.length - (Go.RowKit.intOf i).toNat)
  case atStart => exact ⟨0, rfl, Nat.zero_le _, Lib.hid rfl, Below.refl _ _⟩
  case round =>
   obtain ⟨j, rfl, hj, HT, hb⟩ := hrel
   by_cases hlt : j < a.length
   ·obtain ⟨ad, x, rfl, hx, f0', f1', f2'⟩ := atLr hA j hlt
    obtain ⟨bd, y, rfl, hy, g0', g1', g2'⟩ := atLr hB j (by omega)
    have HX := Lib.hid (And.intro hx hy)
    go_wp2
    rename_i K6 hK6
    have hbd : Below w.heap.size w wr.drew := zba hb
    have hHeld : (fun X => X.cell? (ad.add (j * 3)) = some (.int .i64 x.1) ∧ X.cell? ⟨(ad.add (j * 3)).block, (ad.add (j * 3)).off + 1, none⟩ = some (.int .i64 x.2.1) ∧ X.cell? ⟨(ad.add (j * 3)).block, (ad.add (j * 3)).off + 2, none⟩ = some (.int .i64 x.2.2) ∧ X.cell? (bd.add (j * 3)) = some (.int .i64 y.1) ∧ X.cell? ⟨(bd.add (j * 3)).block, (bd.add (j * 3)).off + 1, none⟩ = some (.int .i64 y.2.1) ∧ X.cell? ⟨(bd.add (j * 3)).block, (bd.add (j * 3)).off + 2, none⟩ = some (.int .i64 y.2.2)) wr.drew := ⟨zao hbd f0', zao hbd f1', zao hbd f2', zao hbd g0', zao hbd g1', zao hbd g2'⟩
    clear f0' f1' f2' g0' g1' g2' hx hy
    refine Ahd.wp_qz (zbw (S := (fun X => X.cell? (ad.add (j * 3)) = some (.int .i64 x.1) ∧ X.cell? ⟨(ad.add (j * 3)).block, (ad.add (j * 3)).off + 1, none⟩ = some (.int .i64 x.2.1) ∧ X.cell? ⟨(ad.add (j * 3)).block, (ad.add (j * 3)).off + 2, none⟩ = some (.int .i64 x.2.2) ∧ X.cell? (bd.add (j * 3)) = some (.int .i64 y.1) ∧ X.cell? ⟨(bd.add (j * 3)).block, (bd.add (j * 3)).off + 1, none⟩ = some (.int .i64 y.2.1) ∧ X.cell? ⟨(bd.add (j * 3)).block, (bd.add (j * 3)).off + 2, none⟩ = some (.int .i64 y.2.2))) (ds := []) #[Nf,Nf,Nf,Nf,Nf,Nf,Nf,Nf,Nf] (by kernel_rfl) rfl rfl hHeld (fun h0_ => ?_))
    clear h0_
    refine pure_ (i := 0) (N := (some 16)) (v := ?_) (a' := ?_) #[Yt,Nf,Nf,Nf,Nf,Nf,Nf,Nf,Nf] rfl rfl (by kernel_rfl) (fun _ _ _ h => h) (Or.inl ⟨by rfl, ?_⟩) ?_ ?_
    rotate_left
    ·intro w'
     go_simp
     with_reducible rfl
    rotate_left
    ·simp only [Act.put, Y1, Y2, Y3]
     rfl
    refine pure_ (i := 1) (N := (some 17)) (v := ?_) (a' := ?_) #[Yt,Yt,Nf,Nf,Nf,Nf,Nf,Nf,Nf] rfl rfl (by kernel_rfl) (fun _ _ _ h => h) (Or.inl ⟨by rfl, ?_⟩) ?_ ?_
    rotate_left
    ·intro w'
     go_simp
     with_reducible rfl
    rotate_left
    ·simp only [Act.put, Y1, Y2, Y3]
     rfl
    refine pure_ (i := 2) (N := (some 18)) (v := ?_) (a' := ?_) #[Yt,Yt,Yt,Nf,Nf,Nf,Nf,Nf,Nf] rfl rfl (by kernel_rfl) (fun _ _ _ h => h) (Or.inl ⟨by rfl, ?_⟩) ?_ ?_
    rotate_left
    ·intro w'
     go_simp
     with_reducible rfl
    rotate_left
    ·simp only [Act.put, Y1, Y2, Y3]
     rfl
    refine take_ (i := 3) (N := (some 19)) (v := ?_) (a' := ?_) #[Yt,Yt,Yt,Yt,Nf,Nf,Nf,Nf,Nf] rfl rfl (by kernel_rfl) (fun _ _ _ h => h) (Or.inl ⟨by rfl, ?_⟩) hHeld ?_ ?_
    rotate_left
    ·rintro w' ⟨s0, s1, s2, s3, s4, s5⟩
     go_simp
     with_reducible rfl
    rotate_left
    ·simp only [Act.put, Y1, Y2, Y3]
     rfl
    refine pure_ (i := 4) (N := (some 20)) (v := ?_) (a' := ?_) #[Yt,Yt,Yt,Yt,Yt,Nf,Nf,Nf,Nf] rfl rfl (by kernel_rfl) (fun _ _ _ h => h) (Or.inl ⟨by rfl, ?_⟩) ?_ ?_
    rotate_left
    ·intro w'
     go_simp
     with_reducible rfl
    rotate_left
    ·simp only [Act.put, Y1, Y2, Y3]
     rfl
    refine pure_ (i := 5) (N := (some 21)) (v := ?_) (a' := ?_) #[Yt,Yt,Yt,Yt,Yt,Yt,Nf,Nf,Nf] rfl rfl (by kernel_rfl) (fun _ _ _ h => h) (Or.inl ⟨by rfl, ?_⟩) ?_ ?_
    rotate_left
    ·intro w'
     go_simp
     with_reducible rfl
    rotate_left
    ·simp only [Act.put, Y1, Y2, Y3]
     rfl
    refine pure_ (i := 6) (N := (some 22)) (v := ?_) (a' := ?_) #[Yt,Yt,Yt,Yt,Yt,Yt,Yt,Nf,Nf] rfl rfl (by kernel_rfl) (fun _ _ _ h => h) (Or.inl ⟨by rfl, ?_⟩) ?_ ?_
    rotate_left
    ·intro w'
     go_simp
     with_reducible rfl
    rotate_left
    ·simp only [Act.put, Y1, Y2, Y3]
     rfl
    refine take_ (i := 7) (N := (some 23)) (v := ?_) (a' := ?_) #[Yt,Yt,Yt,Yt,Yt,Yt,Yt,Yt,Nf] rfl rfl (by kernel_rfl) (fun _ _ _ h => h) (Or.inl ⟨by rfl, ?_⟩) hHeld ?_ ?_
    rotate_left
    ·rintro w' ⟨s0, s1, s2, s3, s4, s5⟩
     go_simp
     with_reducible rfl
    rotate_left
    ·simp only [Act.put, Y1, Y2, Y3]
     rfl
    refine pure_ (i := 8) (N := (some 24)) (v := ?_) (a' := ?_) #[Yt,Yt,Yt,Yt,Yt,Yt,Yt,Yt,Yt] rfl rfl (by kernel_rfl) (fun _ _ _ h => h) (Or.inl ⟨by rfl, ?_⟩) ?_ ?_
    rotate_left
    ·intro w'
     go_simp
     with_reducible rfl
    rotate_left
    ·simp only [Act.put, Y1, Y2, Y3]
     rfl
    refine done_ (by kernel_rfl) ?_
    refine hK6 _ _ ?_
    clear hK6 hHeld
    obtain ⟨nb, hnb⟩ : ∃ nb, ((!x.1 == y.1) || ((!x.2.1 == y.2.1) || (!x.2.2 == y.2.2))) = nb := ⟨_, rfl⟩
    rw [hnb]
    have hnb' : nb = !eqB x y := by rw [← hnb]; unfold eqB; cases x.1 == y.1 <;> cases x.2.1 == y.2.1 <;> cases x.2.2 == y.2.2 <;> rfl
    clear hnb
    by_cases hxy : x = y
    ·subst hxy
     have e1 : nb = false := by rw [hnb', eqB_iff.2 rfl]; rfl
     subst e1
     clear hnb'
     go_wp2
     go_roundw
     case rel => exact ⟨j + 1, by first | rfl | go_num, by omega, Lib.hid (by rw [zck HX.out.1, zck HX.out.2, HT.out]), hbd⟩
     case measure => simp [Go.RowKit.intOf]; omega
    ·have e1 : nb = true := by rw [hnb', Bool.eq_false_iff.2 (fun h => hxy (eqB_iff.1 h))]; rfl
     subst e1
     clear hnb'
     have e2 : decide (a = b) = false := decide_eq_false (fun h => by
      have h1 := HX.out.1
      rw [h, HX.out.2] at h1
      exact hxy (Option.some.inj h1).symm)
     have E2 := Lib.hid e2
     clear e2
     go_wp2
     go_ret
     exact ⟨by rw [E2.out]; rfl, hbd⟩
   ·obtain rfl : j = a.length := by omega
    have e2 : decide (a = b) = true := decide_eq_true (by have := HT.out; rw [List.take_length] at this; rw [this, ← HBL.out, List.take_length])
    have E2 := Lib.hid e2
    clear e2
    go_wp2
    go_ret
    exact ⟨by rw [E2.out]; rfl, hb⟩
 ·have hli : ((a.length : Int) != (b.length : Int)) = true := by simp; omega
  have e2 : decide (a = b) = false := decide_eq_false (fun h => hl (by rw [h]))
  have E2 := Lib.hid e2
  clear e2
  go_enter Try.func21, Try.ntmps21
  go_wp2
  go_ret
  exact ⟨by rw [E2.out]; rfl, Below.refl _ _⟩
theorem atLs {w : World} {A : Option Addr} {n : Nat} {all : List (List Lr)} (h : Kd.C (Kd.slice TL kLr) w A n all) (k : Nat) (hk : k < n) :
  ∃ ad a A1 c1, A = some ad ∧ all[k]? = some a ∧ a.length ≤ c1 ∧ w.cell? (ad.add k) = some (.slice A1 a.length c1) ∧ Kd.C kLr w A1 a.length a := by
 obtain ⟨h1, h2, h3⟩ := h
 obtain ⟨ad, e, hc⟩ := h3 (by omega)
 have hk' : k < all.length := by omega
 obtain ⟨c, hl, ⟨A1, c1, rfl, hl1, hC1⟩, hcell⟩ := hc k _ (List.getElem?_eq_getElem hk')
 have hc0 : ∀ j u, [Value.slice A1 (all[k]).length c1][j]? = some u → w.cell? (ad.add (k * 1 + j)) = some u := hcell
 exact ⟨ad, all[k], A1, c1, e, List.getElem?_eq_getElem hk', hl1, by have := hc0 0 _ rfl; simpa using this, hC1⟩
set_option maxRecDepth 100000 in
set_option maxHeartbeats 4000000 in
theorem all1_calls (B1 B2 : Nat) (A : Option Addr) (c : Nat) (all : List (List Lr)) (A2 : Option Addr) (c2 : Nat) (l : List Lr) (i : Nat) (w : World) (b1 : w.heap[B1]? = some (.cells #[.slice A all.length c] 28 (0, 0))) (b2 : w.heap[B2]? = some (.cells #[.slice A2 l.length c2] 33 (0, 0)))
  (hC : Kd.C (Kd.slice TL kLr) w A all.length all) (hC2' : Kd.C kLr w A2 l.length l) (hi : i < all.length) :
  Calls Try.prog 20 #[.int .i64 (i : Int), .pointer (some ⟨B1, 0, none⟩), .pointer (some ⟨B2, 0, none⟩)] w fun e w' => e = .returned (.bool (decide (all.getD i [] = l))) ∧ Below w.heap.size w w' := by
 obtain ⟨ad, a, A1, c1, rfl, ha, hl1, f0, hC1'⟩ := atLs hC i hi
 have e : all.getD i [] = a := by rw [List.getD_eq_getElem?_getD, ha]; rfl
 rw [e]
 have hil : all.length ≤ 9223372036854775807 := hC.2.1
 have hC1 : Kd.C kLr w.drew A1 a.length a := Kd.zax hC1' (zba (Below.refl _ _))
 have hC2 : Kd.C kLr w.drew A2 l.length l := Kd.zax hC2' (zba (Below.refl _ _))
 have hi' : (i : Int) < (all.length : Int) := by omega
 clear ha e hC hC1' hC2'
 go_enter Try.func20, Try.ntmps20
 go_wp2
 rename_i K1 hK1
 have hHeld : (fun X => X.cell? ⟨B1, 0, none⟩ = some (.slice (some ad) all.length c) ∧ X.cell? (ad.add i) = some (.slice A1 a.length c1) ∧ X.cell? ⟨B2, 0, none⟩ = some (.slice A2 l.length c2)) w.drew := ⟨zac (zaf b1) 0, f0, zac (zaf b2) 0⟩
 have keepA : ∀ X Y : World, Below X.heap.size X Y → (fun X => X.cell? ⟨B1, 0, none⟩ = some (.slice (some ad) all.length c) ∧ X.cell? (ad.add i) = some (.slice A1 a.length c1) ∧ X.cell? ⟨B2, 0, none⟩ = some (.slice A2 l.length c2)) X → (fun X => X.cell? ⟨B1, 0, none⟩ = some (.slice (some ad) all.length c) ∧ X.cell? (ad.add i) = some (.slice A1 a.length c1) ∧ X.cell? ⟨B2, 0, none⟩ = some (.slice A2 l.length c2)) Y := fun X Y h hh => ⟨zao h hh.1, zao h hh.2.1, zao h hh.2.2⟩
 refine Ahd.wp_qz (zbw (S := (fun X => X.cell? ⟨B1, 0, none⟩ = some (.slice (some ad) all.length c) ∧ X.cell? (ad.add i) = some (.slice A1 a.length c1) ∧ X.cell? ⟨B2, 0, none⟩ = some (.slice A2 l.length c2))) (ds := []) #[Nf,Nf,Nf,Nf,Nf,Nf,Nf] (by kernel_rfl) rfl rfl hHeld (fun h0_ => ?_))
 clear h0_
 refine take_ (i := 0) (N := (some 5)) (v := ?_) (a' := ?_) #[Yt,Nf,Nf,Nf,Nf,Nf,Nf] rfl rfl (by kernel_rfl) (fun _ _ _ h => h) (Or.inl ⟨by rfl, ?_⟩) hHeld ?_ ?_
 rotate_left
 ·rintro w' ⟨s0, s1, s2⟩
  go_simp
  with_reducible rfl
 rotate_left
 ·simp only [Act.put, Y1, Y2, Y3]
  rfl
 refine pure_ (i := 1) (N := (some 6)) (v := ?_) (a' := ?_) #[Yt,Yt,Nf,Nf,Nf,Nf,Nf] rfl rfl (by kernel_rfl) (fun _ _ _ h => h) (Or.inl ⟨by rfl, ?_⟩) ?_ ?_
 rotate_left
 ·intro w'
  go_simp
  with_reducible rfl
 rotate_left
 ·simp only [Act.put, Y1, Y2, Y3]
  rfl
 refine pure_ (i := 2) (N := (some 7)) (v := ?_) (a' := ?_) #[Yt,Yt,Yt,Nf,Nf,Nf,Nf] rfl rfl (by kernel_rfl) (fun _ _ _ h => h) (Or.inl ⟨by rfl, ?_⟩) ?_ ?_
 rotate_left
 ·intro w'
  go_simp
  with_reducible rfl
 rotate_left
 ·simp only [Act.put, Y1, Y2, Y3]
  rfl
 refine take_ (i := 3) (N := (some 8)) (v := ?_) (a' := ?_) #[Yt,Yt,Yt,Yt,Nf,Nf,Nf] rfl rfl (by kernel_rfl) (fun _ _ _ h => h) (Or.inl ⟨by rfl, ?_⟩) hHeld ?_ ?_
 rotate_left
 ·rintro w' ⟨s0, s1, s2⟩
  go_simp
  with_reducible rfl
 rotate_left
 ·simp only [Act.put, Y1, Y2, Y3]
  rfl
 refine take_ (i := 4) (N := (some 9)) (v := ?_) (a' := ?_) #[Yt,Yt,Yt,Yt,Yt,Nf,Nf] rfl rfl (by kernel_rfl) (fun _ _ _ h => h) (Or.inl ⟨by rfl, ?_⟩) hHeld ?_ ?_
 rotate_left
 ·rintro w' ⟨s0, s1, s2⟩
  go_simp
  with_reducible rfl
 rotate_left
 ·simp only [Act.put, Y1, Y2, Y3]
  rfl
 refine one_ (i := 5) (N := (some 10)) #[Yt,Yt,Yt,Yt,Yt,Yt,Nf] rfl rfl (by kernel_rfl) (by decide) (fun K hK => ?_)
 refine goes_ Try.func21 (by kernel_rfl) rfl #[.slice A1 a.length c1, .slice A2 l.length c2] (by rfl) rfl rfl (by first | rfl | (simp [Act.eval]; done) | (simp [go_sem]; done)) ?_
 refine (equalL_calls A1 c1 a A2 c2 l w.drew hC1 hC2).mono ?_
 rintro e W4 ⟨rfl, hB4⟩
 refine ⟨_, rfl, ?_⟩
 have hh4 := keepA _ _ hB4 hHeld
 refine hK.out _ _ hh4 (fun h0_ => ?_)
 clear hK K h0_
 refine pure_ (i := 6) (N := (some 4)) (v := ?_) (a' := ?_) #[Yt,Yt,Yt,Yt,Yt,Yt,Yt] rfl rfl (by kernel_rfl) (fun _ _ _ h => h) (Or.inl ⟨by rfl, ?_⟩) ?_ ?_
 rotate_left
 ·intro w'
  go_simp
  with_reducible rfl
 rotate_left
 ·simp only [Act.put, Y1, Y2, Y3]
  rfl
 refine done_ (by kernel_rfl) ?_
 refine hK1 _ _ ?_
 go_wp2
 go_ret
 exact ⟨rfl, (zba (Below.refl w.heap.size w)).trans hB4⟩
theorem findIdx_none {α : Type} {q : α → Bool} {l : List α} (h : ∀ (j : Nat) y, l[j]? = some y → q y = false) : l.any q = false := by
 rw [List.any_eq_false]
 intro x hx
 obtain ⟨j, hj, rfl⟩ := List.mem_iff_getElem.1 hx
 rw [h j _ (List.getElem?_eq_getElem hj)]
 decide
set_option maxHeartbeats 4000000 in
theorem containsI_calls (fc : Nat) (lb : Array Value) (hen : ∀ args w, (callFunc fc args).run Try.prog w = .ok (.enter fc args) w) (q : Int → Bool) (A : Option Addr) (n c : Nat) (l : List Int) (w : World) (hC : Kd.C (Kd.int .i64) w A n l)
  (hq : ∀ x ∈ l, ∀ W, Below w.heap.size w W → Calls Try.prog fc (#[.int .i64 x] ++ lb) W fun e W' => e = .returned (.bool (q x)) ∧ Below W.heap.size W W') :
  Calls Try.prog 19 #[.slice A n c, .func (.func fc) #[] lb] w fun e w' => e = .returned (.bool (l.any q)) ∧ Below w.heap.size w w' := by
 have hn : n ≤ 9223372036854775807 := hC.2.1
 have hln : l.length = n := hC.1
 have hix : Calls Try.prog 29 #[.slice A n c, .func (.func fc) #[] lb] w fun e w' => (∃ r : Int, e = .returned (.int .i64 r) ∧ (decide (r ≥ 0) = l.any q)) ∧ Below w.heap.size w w' := by
  have HQ := Lib.hid hq
  clear hq
  go_enter Try.func29, Try.ntmps29
  go_wp2
  go_loopw [8] (fun i wr => ∃ j : Nat, i = .int .i64 (j : Int) ∧ j ≤ n ∧ Hid (∀ (t : Nat) y, t < j → l[t]? = some y → q y = false) ∧ Below w.heap.size w wr) (fun i _ => n - (Go.RowKit.intOf i).toNat)
  case atStart => exact ⟨0, rfl, Nat.zero_le _, Lib.hid (fun t y h => absurd h (Nat.not_lt_zero _)), Below.refl _ _⟩
  case round =>
   obtain ⟨j, rfl, hj, HN, hb⟩ := hrel
   by_cases hlt : j < n
   ·obtain ⟨ad, x, rfl, hx, f0'⟩ := atInt hC j hlt
    have f0 := zao hb f0'
    have hcall := HQ.out x (List.mem_of_getElem? hx) wr hb
    have HX := Lib.hid hx
    have hen' := hen
    obtain ⟨qx, hqx⟩ : ∃ b, q x = b := ⟨_, rfl⟩
    rw [hqx] at hcall
    have HQX := Lib.hid hqx
    clear hx f0' hqx
    cases qx with
    | true =>
     go_wp2
     refine hcall.mono ?_
     rintro e W' ⟨rfl, hb2⟩
     go_wp2
     go_ret
     refine ⟨⟨j, rfl, ?_⟩, hb.trans (hb2.mono hb.size)⟩
     have : l.any q = true := List.any_eq_true.2 ⟨x, List.mem_of_getElem? HX.out, HQX.out⟩
     rw [this]
     exact decide_eq_true (by omega)
    | false =>
     go_wp2
     refine hcall.mono ?_
     rintro e W' ⟨rfl, hb2⟩
     go_wp2
     go_roundw
     case rel =>
      refine ⟨j + 1, by first | rfl | go_num, by omega, Lib.hid (fun t y ht hy => ?_), hb.trans (hb2.mono hb.size)⟩
      by_cases et : t = j
      ·subst et
       rw [HX.out] at hy
       cases hy
       exact HQX.out
      ·exact HN.out t y (by omega) hy
     case measure => simp [Go.RowKit.intOf]; omega
   ·obtain rfl : j = n := by omega
    go_wp2
    go_ret
    refine ⟨⟨-1, rfl, ?_⟩, hb⟩
    rw [findIdx_none (fun t y hy => HN.out t y (by have := (List.getElem?_eq_some_iff.1 hy).1; omega) hy)]
    rfl
 go_enter Try.func19, Try.ntmps19
 go_wp2_with (go_at_call 29; refine hix.mono ?_; rintro e W' ⟨⟨r, rfl, hr⟩, hb⟩)
 go_ret
 exact ⟨rfl, hb⟩
end Go.Proofs.Ytgdmjpehofdnpaa.LEq
end
section
namespace Go.Proofs.Ytgdmjpehofdnpaa.LEnt
open Go Go.RowKit Go.Shelf Go.Maps Go.WideElems Go.ChangeMaps Go.Proofs.YtgdmjpehofdnpaaW.PrintWords Go.Proofs.Ytgdmjpehofdnpaa.Fl Go.Proofs.Ytgdmjpehofdnpaa.Seqs Go.Proofs.Ytgdmjpehofdnpaa.LrK Go.Proofs.Ytgdmjpehofdnpaa.GMap Go.Proofs.Ytgdmjpehofdnpaa.LSeq Go.Proofs.Ytgdmjpehofdnpaa.LLex
set_option linter.unusedVariables false
set_option linter.unusedSimpArgs false
theorem setBlock_grown (w : World) (b : Nat) (o : Obj) : w.grownBy (setBlock w b o) (some b) := by
 have := grownBy_putObj' w b o
 exact this
section
variable {P : Program} {k : TypeId} {α : Type} [DecidableEq α] {K : KeyAs P k α} {b : Nat} {M : List (α × Value)} {W : World}
theorem MapAt.entry (KL : WideMaps.KeyLaw P k) {t e : TypeId} (h : MapAt K b M W) (ht : P.underlying t = some (.map k e)) {z : Value} (hz : ∀ u : World, (zeroValue e).run P u = .ok z u) (hn : M.length < maxLen) {x : α} (hx : K.ok x) :
  ∃ (st : Value) (W1 : World), (Instr.mapEntry t (.map (some b)) (K.enc x)).run P W = .ok (.tuple #[(GMap.look M x).getD z, st]) W1 ∧ W.grownBy W1 (some b) ∧ (∃ es cl, W1.heap[b]? = some (.map es cl)) ∧
   ∀ (w2 : World) (val : Value), w2.heap[b]? = W1.heap[b]? → ∃ W3, (Instr.entryStore t (.map (some b)) st val).run P w2 = .ok () W3 ∧ MapAt K b (putM M x val) W3 ∧ w2.grownBy W3 (some b) := by
 have hput := fun val => h.put ht hn hx val
 have hlook := h.look ht (hz W) hx
 obtain ⟨h1, h2, D, ⟨es, clock, hb, F, hs, hD⟩, h5⟩ := h
 obtain ⟨v0, st, es1, clock1, r1, r2, r3⟩ := entry_then_store KL ht hz hb F (K.key hx)
 have hv0 : v0 = (GMap.look M x).getD z := by
  have hl2 : (Instr.lookup t (.map (some b)) (K.enc x) false).run P W = .ok v0 W := by
   rcases KL.find W (K.key hx) es.toList F.keys with ⟨g1, g2⟩ | ⟨j, e0, g1, g2, g3⟩
   ·rcases r2 with ⟨e1, m1, m2, _⟩ | ⟨_, rfl⟩
    ·exact absurd m2 (g2 e1 m1)
    ·simp [Instr.lookup, run_underlying ht, MapKept.run_getObj_map hb, KL.check W _ (K.key hx), g1, hz, Result.andThen]
   ·have m0 := List.mem_of_getElem? g2
    rcases r2 with ⟨e1, m1, m2, rfl⟩ | ⟨n1, _⟩
    ·have hnd := F.stamped.2.2
     have : e1 = e0 := entry_eq_of_key (List.pairwise_map.1 hnd) m1 m0 (m2.trans g3.symm)
     subst this
     simp [Instr.lookup, run_underlying ht, MapKept.run_getObj_map hb, KL.check W _ (K.key hx), g1, Result.andThen]
    ·exact absurd g3 (n1 e0 m0)
  rw [hlook] at hl2
  injection hl2 with e
  exact e.symm
 have hlt : b < W.heap.size := zav hb
 have hb1 : (setBlock W b (.map es1 clock1)).heap[b]? = some (.map es1 clock1) := by simp [setBlock, hlt]
 refine ⟨goInt st, setBlock W b (.map es1 clock1), by rw [← hv0]; exact r1, setBlock_grown _ _ _, ⟨_, _, hb1⟩, fun w2 val hw2 => ?_⟩
 obtain ⟨es', cl', q1, q2⟩ := r3 w2 val (hw2.trans hb1)
 obtain ⟨W', p1, p2, p3⟩ := hput val
 rw [q2] at p1
 injection p1 with p1 p1'
 subst p1'
 have hb' : (setBlock W b (.map es' cl')).heap[b]? = some (.map es' cl') := by simp [setBlock, hlt]
 have hlt2 : b < w2.heap.size := zav (hw2.trans hb1)
 have hb3 : (setBlock w2 b (.map es' cl')).heap[b]? = some (.map es' cl') := by simp [setBlock, hlt2]
 exact ⟨_, q1, p2.keep (hb3.trans hb'.symm), setBlock_grown _ _ _⟩
end
def hdF (x : Lr) : Nat → List (List Lr) → List Int
 | _, [] => []
 | i, l :: t => if l.head? = some x then (i : Int) :: hdF x (i + 1) t else hdF x (i + 1) t
theorem hdF_app (x : Lr) (l : List Lr) : ∀ (i : Nat) (all : List (List Lr)), hdF x i (all ++ [l]) = hdF x i all ++ (if l.head? = some x then [((i + all.length : Nat) : Int)] else [])
 | i, [] => by simp only [List.nil_append, hdF, List.length_nil, Nat.add_zero]
 | i, a :: t => by
  have ih := hdF_app x l (i + 1) t
  simp only [List.cons_append, hdF, ih, List.length_cons]
  rw [show i + 1 + t.length = i + (t.length + 1) by omega]
  split <;> rfl
theorem hdF_mem (x : Lr) (q : Int) : ∀ (i : Nat) (all : List (List Lr)), q ∈ hdF x i all ↔ ∃ j : Nat, q = ((i + j : Nat) : Int) ∧ ∃ l, all[j]? = some l ∧ l.head? = some x
 | i, [] => by simp [hdF]
 | i, a :: t => by
  have ih := hdF_mem x q (i + 1) t
  have key : (∃ j : Nat, q = ((i + 1 + j : Nat) : Int) ∧ ∃ l, t[j]? = some l ∧ l.head? = some x) ↔ ∃ j : Nat, 0 < j ∧ q = ((i + j : Nat) : Int) ∧ ∃ l, (a :: t)[j]? = some l ∧ l.head? = some x := by
   constructor
   ·rintro ⟨j, h1, h2⟩
    exact ⟨j + 1, Nat.succ_pos _, by rw [h1]; omega, by simpa using h2⟩
   ·rintro ⟨j, h0, h1, h2⟩
    obtain ⟨m, rfl⟩ : ∃ m, j = m + 1 := ⟨j - 1, by omega⟩
    exact ⟨m, by rw [h1]; omega, by simpa using h2⟩
  unfold hdF
  split
  ·rename_i hh
   rw [List.mem_cons, ih, key]
   constructor
   ·rintro (h | ⟨j, _, h⟩)
    ·exact ⟨0, by rw [h]; simp, a, rfl, hh⟩
    ·exact ⟨j, h⟩
   ·rintro ⟨j, h1, h2⟩
    by_cases hj : 0 < j
    ·exact .inr ⟨j, hj, h1, h2⟩
    ·obtain rfl : j = 0 := by omega
     exact .inl (by simpa using h1)
  ·rename_i hh
   rw [ih, key]
   constructor
   ·rintro ⟨j, _, h⟩; exact ⟨j, h⟩
   ·rintro ⟨j, h1, l, h2, h3⟩
    refine ⟨j, ?_, h1, l, h2, h3⟩
    by_cases hj : 0 < j
    ·exact hj
    ·obtain rfl : j = 0 := by omega
     simp at h2
     subst h2
     exact absurd h3 hh
theorem hdF_len (x : Lr) : ∀ (i : Nat) (all : List (List Lr)), (hdF x i all).length ≤ all.length
 | _, [] => Nat.le_refl _
 | i, a :: t => by
  have := hdF_len x (i + 1) t
  unfold hdF
  split <;> simp <;> omega
theorem hdF_any {x : Lr} {l : List Lr} {all : List (List Lr)} (hl : l.head? = some x) : ((hdF x 0 all).any fun k => decide (all.getD k.toNat [] = l)) = decide (l ∈ all) := by
 rw [Bool.eq_iff_iff, decide_eq_true_eq, List.any_eq_true]
 constructor
 ·rintro ⟨q, hq, hd⟩
  obtain ⟨j, rfl, l', h1, h2⟩ := (hdF_mem x q 0 all).1 hq
  have hd' := of_decide_eq_true hd
  rw [List.getD_eq_getElem?_getD, Int.toNat_natCast, Nat.zero_add, h1] at hd'
  have : l' = l := hd'
  subst this
  exact List.mem_of_getElem? h1
 ·intro hm
  obtain ⟨j, hj, e⟩ := List.mem_iff_getElem.1 hm
  refine ⟨((0 + j : Nat) : Int), (hdF_mem x _ 0 all).2 ⟨j, rfl, l, by rw [List.getElem?_eq_getElem hj, e], hl⟩, ?_⟩
  rw [List.getD_eq_getElem?_getD, Int.toNat_natCast, Nat.zero_add, List.getElem?_eq_getElem hj, e]
  exact decide_eq_true rfl
def BY (mb base : Nat) (all : List (List Lr)) (X : World) : Prop :=
 ∃ (M : List (Lr × Value)) (O : Nat → Lr), MapAt keyL mb M X ∧ M.length ≤ all.length ∧ ∀ x, lrOk x →
  (GMap.look M x = none → hdF x 0 all = []) ∧ ∀ v, GMap.look M x = some v → Kd.R (Kd.int .i64) TI X base (fun k => O k = x) v (hdF x 0 all)
theorem BY.keep {mb base : Nat} {all : List (List Lr)} {X X' : World} (h : BY mb base all X) (hb : Below X.heap.size X X') : BY mb base all X' := by
 obtain ⟨M, O, h1, h2, h3⟩ := h
 exact ⟨M, O, h1.keep (hb.block _ h1.lt), h2, fun x hx => ⟨(h3 x hx).1, fun v hv => Kd.zbt ((h3 x hx).2 v hv) hb⟩⟩
set_option maxRecDepth 100000 in
theorem lawK : WideMaps.KeyLaw Try.prog TL := deep_law_laid laidOut (m := 2) (by omega) rowL (by kernel_rfl) wideL
end Go.Proofs.Ytgdmjpehofdnpaa.LEnt
end
section
namespace Go.Proofs.Ytgdmjpehofdnpaa.LAll
open Go Go.RowKit Go.Shelf Go.Maps Go.Proofs.YtgdmjpehofdnpaaW.PrintWords Go.Proofs.YtgdmjpehofdnpaaW.PrintLast Go.Proofs.Ytgdmjpehofdnpaa.Round Go.Proofs.Ytgdmjpehofdnpaa.RangeG Go.Proofs.Ytgdmjpehofdnpaa.Fl Go.Proofs.Ytgdmjpehofdnpaa.Grow Go.Proofs.Ytgdmjpehofdnpaa.Deri Go.Proofs.Ytgdmjpehofdnpaa.Seqs Go.Proofs.Ytgdmjpehofdnpaa.LrK Go.Proofs.Ytgdmjpehofdnpaa.GMap Go.Proofs.Ytgdmjpehofdnpaa.LSeq Go.Proofs.Ytgdmjpehofdnpaa.LLex Go.Proofs.Ytgdmjpehofdnpaa.LSort Go.Proofs.Ytgdmjpehofdnpaa.LFlat Go.Proofs.Ytgdmjpehofdnpaa.LLooks Go.Proofs.Ytgdmjpehofdnpaa.LClos Go.Proofs.Ytgdmjpehofdnpaa.LInv Go.Proofs.Ytgdmjpehofdnpaa.LStep Go.Proofs.Ytgdmjpehofdnpaa.LEq Go.Proofs.Ytgdmjpehofdnpaa.LEnt
set_option linter.unusedVariables false
set_option linter.unusedSimpArgs false
def symsV (g : Int → Option (List Lr)) : Nat → Nat → List (List Lr) → Option (List (List Lr) × Bool)
  | 0, _, all => some (all, false)
  | d + 1, q, all => (g (q : Int)).bind fun l => if l = [] ∨ l ∈ all then symsV g d (q + 1) all else if all.length + 1 > 600 then some (all, true) else symsV g d (q + 1) (all ++ [l])
def allV (g : List Lr → Int → Option (List Lr)) (N : Nat) : Nat → Nat → List (List Lr) → Option (Option (List (List Lr)))
  | 0, _, _ => none
  | k + 1, i, all => if i < all.length then (symsV (g (all.getD i [])) N 0 all).bind fun r => if r.2 = true then some none else allV g N k (i + 1) r.1 else some (some all)
def gotoV (n0 : Nat) (ps : List P) (em : List Bool) (Ss : List (List Int)) (k : Nat) (row : List Lr) (s : Int) : Option (List Lr) := (closV n0 ps em Ss k [] (stepV n0 ps s row)).map srtL
def startV (n0 : Nat) (ps : List P) (em : List Bool) (Ss : List (List Int)) (k : Nat) : Option (List Lr) := (closV n0 ps em Ss k [] [(-1, 0, (n0 : Int))]).map srtL
abbrev TLs : TypeId := 33
abbrev kLs : Kd (List Lr) := Kd.slice TL kLr
theorem infoLs : (Try.prog.info? 33).map (fun i => (i.zero, i.size, i.bytes)) = some (some (.slice none 0 0), 1, 24) := by kernel_rfl
theorem R_one {α : Type} {d : Kd α} {e : Nat} {w : World} {base g : Nat} {okp : Nat → Prop} {p : α} {cs : List Value} (hg : w.heap[g]? = some (.cells cs.toArray e (0, 0))) (hb : base ≤ g) (hp : d.M w base okp p cs) (hne : ∀ k, okp k → k ≠ g) : Kd.R d e w base (fun _ => True) (.slice (some ⟨g, 0, none⟩) 1 1) [p] := by
  have hcs : cs.length = d.sz := d.K_len (d.K_of_M hp)
  refine ⟨fun _ _ => trivial, cs, ⟨by simp [hcs], .inr ⟨g, 1, cs.toArray, rfl, hb, hg, Nat.le_refl _, by decide, by simp [hcs], ?_⟩⟩, by simp [hcs], fun j q hj => ?_⟩
  · rw [List.length_singleton, Nat.one_mul, ← hcs]
    simp
  · obtain rfl : j = 0 := by
      cases j with
      | zero => rfl
      | succ j => simp at hj
    obtain rfl : p = q := by simpa using hj
    rw [Nat.zero_mul, List.drop_zero, ← hcs, List.take_length]
    exact d.M_mono (fun k hk => ⟨trivial, fun e => hne k hk (by simpa [Value.ownBlock] using e)⟩) hp
theorem R_mapk {α : Type} {d : Kd α} {e base b : Nat} {ok : Nat → Prop} {W W' : World} {v : Value} {xs : List α} (h : d.R e W base ok v xs) {es : Array MapEntry} {cl : Nat} (hb : W.heap[b]? = some (.map es cl)) (hg : W.grownBy W' (some b)) : d.R e W' base ok v xs :=
  Kd.zb1 (Kd.R_grown (Kd.R_bound h) hg (fun k hk e' => by
    obtain ⟨_, _, _, q, _, cs, hc⟩ := hk
    injection e' with e'
    rw [e', hb] at hc
    cases hc)) (fun _ hk => hk.1)
theorem R_typed {α : Type} {d : Kd α} {e base : Nat} {ok : Nat → Prop} {W W' : World} {v : Value} {xs : List α} {row : Option Nat} (h : d.R e W base ok v xs) (h0 : ∀ k, row = some k → ∃ cs t fr, W.heap[k]? = some (.cells cs t fr) ∧ t ∉ e :: d.E) (hg : W.grownBy W' row) : d.R e W' base ok v xs :=
  Kd.zb1 (Kd.R_grown (Kd.R_bound h) hg (fun k hk e' => by
    obtain ⟨_, _, _, q, hq, cs, hc⟩ := hk
    obtain ⟨cs', t, fr, hc', ht⟩ := h0 k e'.symm
    rw [hc] at hc'
    injection hc' with hc'
    injection hc' with _ hc'
    exact ht (hc' ▸ hq))) (fun _ hk => hk.1)
theorem blk_typed {W W' : World} {k : Nat} {cs : Array Value} {t : TypeId} {fr : Nat × Nat} {row : Option Nat} (h : W.heap[k]? = some (.cells cs t fr)) (h0 : ∀ k, row = some k → ∃ cs t' fr, W.heap[k]? = some (.cells cs t' fr) ∧ t' ≠ t) (hg : W.grownBy W' row) : W'.heap[k]? = some (.cells cs t fr) :=
  (hg.block k (zav h) (fun e' => by
    obtain ⟨cs', t', fr', hc', ht⟩ := h0 k e'.symm
    rw [h] at hc'
    injection hc' with hc'
    injection hc' with _ hc'
    exact ht hc'.symm)).trans h
theorem map_typed {W W' : World} {k : Nat} {es : Array MapEntry} {cl : Nat} {row : Option Nat} (h : W.heap[k]? = some (.map es cl)) (h0 : ∀ k, row = some k → ∃ cs t' fr, W.heap[k]? = some (.cells cs t' fr)) (hg : W.grownBy W' row) : W'.heap[k]? = W.heap[k]? :=
  hg.block k (zav h) (fun e' => by
    obtain ⟨cs', t', fr', hc'⟩ := h0 k e'.symm
    rw [h] at hc'
    cases hc')
theorem BY.typed {mb base : Nat} {all : List (List Lr)} {X X' : World} {row : Option Nat} (h : BY mb base all X) (h0 : ∀ k, row = some k → ∃ cs t fr, X.heap[k]? = some (.cells cs t fr) ∧ t ≠ TI) (hg : X.grownBy X' row) : BY mb base all X' := by
  obtain ⟨M, O, h1, h2, h3⟩ := h
  obtain ⟨es, cl, hm⟩ := h1.block
  refine ⟨M, O, h1.keep (map_typed hm (fun k hk => by obtain ⟨cs, t, fr, hc, _⟩ := h0 k hk; exact ⟨cs, t, fr, hc⟩) hg), h2, fun x hx => ⟨(h3 x hx).1, fun v hv => R_typed ((h3 x hx).2 v hv) (fun k hk => ?_) hg⟩⟩
  obtain ⟨cs, t, fr, hc, ht⟩ := h0 k hk
  exact ⟨cs, t, fr, hc, fun hm => ht (by
    rcases List.mem_cons.1 hm with hm | hm
    · exact hm
    · exact nomatch (show t ∈ ([] : List Nat) from hm))⟩
set_option maxRecDepth 100000 in
theorem by_look {mb base : Nat} {all : List (List Lr)} {X : World} {x : Lr} (h : BY mb base all X) (hx : lrOk x) :
    ∃ A c, (Instr.lookup 51 (.map (some mb)) (lrV x) false).run Try.prog X = .ok (.slice A (hdF x 0 all).length c) X ∧ Kd.C (Kd.int .i64) X A (hdF x 0 all).length (hdF x 0 all) := by
  obtain ⟨M, O, h1, h2, h3⟩ := h
  have hlk := MapAt.look h1 Try.underlying51 (z := .slice none 0 0) rfl hx
  cases e : GMap.look M x with
  | none =>
    rw [e] at hlk
    rw [(h3 x hx).1 e]
    exact ⟨none, 0, hlk, rfl, by simp, fun h => absurd h (by simp)⟩
  | some v =>
    rw [e] at hlk
    obtain ⟨A, c, rfl, _, hC⟩ := Kd.R_reads ((h3 x hx).2 v e)
    exact ⟨A, c, hlk, hC⟩
theorem own_cells {w : World} {base n m : Nat} {e : TypeId} {v : Value} {xs : List Value} (h : w.ownsRow base e n v m xs) : ∀ k, v.ownBlock = some k → ∃ cs, w.heap[k]? = some (.cells cs e (0, 0)) := fun k hk => by
  rcases h.2 with ⟨hv, _⟩ | ⟨g, cap, cur, hv, _, hh, _⟩
  · rw [hv] at hk; simp [Value.ownBlock] at hk
  · rw [hv] at hk
    obtain rfl : g = k := by simpa [Value.ownBlock] using hk
    exact ⟨cur, hh⟩
set_option maxRecDepth 100000 in
theorem BY.push {mb base : Nat} {all : List (List Lr)} {l : List Lr} {x : Lr} {X : World} (h : BY mb base all X) (hx : lrOk x) (hh : l.head? = some x) (hlen : all.length < maxLen) :
    ∃ (v0 st : Value) (W1 : World), (Instr.mapEntry 51 (.map (some mb)) (lrV x)).run Try.prog X = .ok (.tuple #[v0, st]) W1 ∧ X.grownBy W1 (some mb) ∧ Kd.R (Kd.int .i64) TI W1 base (fun _ => True) v0 (hdF x 0 all) ∧ (∀ k, v0.ownBlock = some k → k < X.heap.size ∧ ∃ cs, X.heap[k]? = some (.cells cs TI (0, 0))) ∧
      ∀ (v1 : Value) (W2 : World), Kd.R (Kd.int .i64) TI W2 base (fun _ => True) v1 (hdF x 0 all ++ [(all.length : Int)]) → W1.grownBy W2 v0.ownBlock → (v1.ownBlock = v0.ownBlock ∨ ∃ b, v1.ownBlock = some b ∧ W1.heap.size ≤ b) →
        ∃ W3, (Instr.entryStore 51 (.map (some mb)) st v1).run Try.prog W2 = .ok () W3 ∧ W2.grownBy W3 (some mb) ∧ BY mb base (all ++ [l]) W3 ∧ ∃ es cl, W2.heap[mb]? = some (.map es cl) := by
  obtain ⟨M, O, h1, h2, h3⟩ := h
  obtain ⟨es, cl, hmo⟩ := h1.block
  obtain ⟨st, W1, r1, r2, ⟨es1, cl1, hmo1⟩, r3⟩ := MapAt.entry (K := keyL) lawK h1 Try.underlying51 (z := .slice none 0 0) (fun u => rfl) (by omega) hx
  obtain ⟨v0, hv0⟩ : ∃ v0, (GMap.look M x).getD (.slice none 0 0) = v0 := ⟨_, rfl⟩
  rw [hv0] at r1
  have hR0 : Kd.R (Kd.int .i64) TI X base (fun k => O k = x) v0 (hdF x 0 all) := by
    cases e : GMap.look M x with
    | none =>
      rw [e] at hv0
      rw [(h3 x hx).1 e, ← hv0]
      exact Kd.R_nil _ _ _ _ _
    | some v =>
      rw [e] at hv0
      rw [← hv0]
      exact (h3 x hx).2 v e
  obtain ⟨inner, ho0⟩ := Kd.R_own hR0
  have hown := own_cells ho0
  refine ⟨v0, st, W1, r1, r2, Kd.zb1 (R_mapk hR0 hmo r2) (fun _ _ => trivial), fun k hk => by obtain ⟨cs, hc⟩ := hown k hk; exact ⟨zav hc, cs, hc⟩, fun v1 W2 hR1 hg2 hat => ?_⟩
  have hmne : v0.ownBlock ≠ some mb := fun e => by
    obtain ⟨cs, hc⟩ := hown mb e
    rw [hmo] at hc
    cases hc
  have hmb2 : W2.heap[mb]? = W1.heap[mb]? := hg2.block mb (zav hmo1) (fun e => hmne e.symm)
  obtain ⟨W3, q1, q2, q3⟩ := r3 W2 v1 hmb2
  have hmo2 : W2.heap[mb]? = some (.map es1 cl1) := hmb2.trans hmo1
  refine ⟨W3, q1, q3, ⟨putM M x v1, fun k => if v1.ownBlock = some k then x else O k, q2, ?_, fun y hy => ?_⟩, es1, cl1, hmo2⟩
  · have := putM_le x v1 M
    rw [List.length_append, List.length_singleton]
    omega
  · rw [look_put, hdF_app]
    by_cases he : y = x
    · subst he
      rw [if_pos rfl, if_pos hh, Nat.zero_add]
      refine ⟨fun h => (nomatch h), fun v hv => ?_⟩
      injection hv with hv
      subst hv
      exact Kd.R_reok rfl (R_mapk hR1 hmo2 q3) (fun k hk => if_pos hk)
    · have hh' : l.head? ≠ some y := fun e => he (Option.some.inj (e.symm.trans hh))
      rw [if_neg he, if_neg hh', List.append_nil]
      refine ⟨(h3 y hy).1, fun v hv => ?_⟩
      have hRy := R_mapk ((h3 y hy).2 v hv) hmo r2
      have hRy2 : Kd.R (Kd.int .i64) TI W1 base (fun k => (if v1.ownBlock = some k then x else O k) = y ∧ some k ≠ v0.ownBlock) v (hdF y 0 all) := by
        refine Kd.zb1 (Kd.R_bound hRy) (fun k hk => ?_)
        have hne : some k ≠ v0.ownBlock := fun e => he (hk.1.symm.trans (hR0.1 k e.symm))
        refine ⟨?_, hne⟩
        rw [if_neg, hk.1]
        intro e
        rcases hat with ha | ⟨b, ha, hlt⟩
        · exact hne (by rw [← ha, e])
        · rw [ha] at e
          injection e with e
          have := hk.2.2.1
          omega
      exact R_mapk (Kd.zb1 (Kd.R_grown hRy2 hg2 (fun k hk => hk.2)) (fun k hk => hk.1)) hmo2 q3
theorem BY.one {mb base : Nat} {S0 : List Lr} {x : Lr} {X : World} {v : Value} (hm : MapAt keyL mb [(x, v)] X) (hh : S0.head? = some x) (hR : Kd.R (Kd.int .i64) TI X base (fun _ => True) v [0]) : BY mb base [S0] X := by
  refine ⟨_, fun _ => x, hm, Nat.le_refl _, fun y hy => ?_⟩
  by_cases he : y = x
  · subst he
    simp only [GMap.look, if_pos rfl, hdF, if_pos hh]
    exact ⟨fun h => (nomatch h), fun v' hv => by injection hv with hv; subst hv; simpa using hR⟩
  · simp only [GMap.look, hdF]
    rw [if_neg (fun e => he e.symm), if_neg (fun e => he (Option.some.inj (e.symm.trans hh)))]
    exact ⟨fun _ => rfl, fun v' hv => nomatch hv⟩
theorem closV_fit {n0 : Nat} {ps : List P} {em : List Bool} {Ss : List (List Int)} : ∀ (k : Nat) (S T r : List Lr), closV n0 ps em Ss k S T = some r → (∀ x ∈ S, fitV n0 ps x = true) → ∀ x ∈ r, fitV n0 ps x = true
  | 0, _, _, _, h, _ => nomatch h
  | k + 1, S, T, r, h, hS => by
    rcases snoc T with rfl | ⟨T0, x, rfl⟩
    · obtain ⟨rfl, _⟩ := closV_nil h
      exact hS
    · obtain ⟨m, hm, _, h'⟩ := closV_step h
      obtain rfl : m = k := by omega
      refine closV_fit m _ _ r h' (fun y hy => ?_)
      unfold putS at hy
      split at hy
      · rename_i hn
        rcases List.mem_append.1 hy with hy | hy
        · exact hS y hy
        · obtain rfl := List.mem_singleton.1 hy
          simp only [newV, Bool.and_eq_true] at hn
          exact hn.2
      · exact hS y hy
theorem closV_len3 {n0 : Nat} {ps : List P} {em : List Bool} {Ss : List (List Int)} : ∀ (k : Nat) (S T r : List Lr), closV n0 ps em Ss k S T = some r → r.length ≤ 1000000000
  | 0, _, _, _, h => nomatch h
  | k + 1, S, T, r, h => by
    rcases snoc T with rfl | ⟨T0, x, rfl⟩
    · obtain ⟨rfl, h1⟩ := closV_nil h
      exact h1
    · obtain ⟨m, hm, _, h'⟩ := closV_step h
      obtain rfl : m = k := by omega
      exact closV_len3 m _ _ r h'
def OKs (al : List (List Lr)) : Prop := ∀ a ∈ al, a.length ≤ 1000000000 ∧ ∀ x ∈ a, lrOk x
structure AS (u : World) (mb b5 : Nat) (al : List (List Lr)) (X : World) : Prop where
  b : Below u.heap.size u X
  box : ∃ A c, Boxed X b5 28 (.slice A al.length c) ∧ Kd.R kLs TLs X u.heap.size (fun _ => True) (.slice A al.length c) al
  by_ : BY mb u.heap.size al X
  lt : mb < X.heap.size ∧ u.heap.size ≤ mb ∧ u.heap.size ≤ b5
theorem AS.keep {u : World} {mb b5 : Nat} {al : List (List Lr)} {X X' : World} (h : AS u mb b5 al X) (hb : Below X.heap.size X X') : AS u mb b5 al X' := by
  obtain ⟨A, c, h1, h2⟩ := h.box
  exact ⟨h.b.trans (hb.mono h.b.size), ⟨A, c, zaq h1 hb, Kd.zbt h2 hb⟩, h.by_.keep hb, by have := h.lt; have := hb.size; omega⟩
theorem has_calls {u : World} {mb b5 b9 : Nat} {al : List (List Lr)} {X : World} {A9 Av : Option Addr} {c9 : Nat} {L : List Lr} {x : Lr} (h : AS u mb b5 al X) (b9' : X.heap[b9]? = some (.cells #[.slice A9 L.length c9] 33 (0, 0))) (hC : Kd.C kLr X A9 L.length L) (hh : L.head? = some x) (hCv : Kd.C (Kd.int .i64) X Av (hdF x 0 al).length (hdF x 0 al)) (cv : Nat) :
    Calls Try.prog 19 #[.slice Av (hdF x 0 al).length cv, .func (.func 20) #[] #[.pointer (some ⟨b5, 0, none⟩), .pointer (some ⟨b9, 0, none⟩)]] X fun e w' => e = .returned (.bool (decide (L ∈ al))) ∧ Below X.heap.size X w' := by
  obtain ⟨A5, c5, hbx, hR⟩ := h.box
  obtain ⟨_, _, hC5⟩ := Kd.R_reads' hR
  have hc := containsI_calls 20 #[.pointer (some ⟨b5, 0, none⟩), .pointer (some ⟨b9, 0, none⟩)] (enters_of Try.func20 (by kernel_rfl) rfl) (fun k => decide (al.getD k.toNat [] = L)) Av _ cv (hdF x 0 al) X hCv
    (fun y hy W hb => by
      obtain ⟨j, rfl, l', hj, _⟩ := (hdF_mem x y 0 al).1 hy
      rw [Nat.zero_add, Int.toNat_natCast]
      exact all1_calls b5 b9 A5 c5 al A9 c9 L j W (zaq hbx hb) (zaq b9' hb) (Kd.zax hC5 hb) (Kd.zax hC hb) (List.getElem?_eq_some_iff.1 hj).1)
  rw [hdF_any hh] at hc
  exact hc
def errV (res : Option (List (List Lr))) : Int := if res.isSome = true then 0 else 15
set_option maxRecDepth 100000 in
set_option maxHeartbeats 8000000 in
theorem allF_calls (F : FG) (w : World) (hK : F.K w) (k : Nat) (em : List Bool) (Ss : List (List Int)) (hr : Rdy F k em Ss) (N : Nat) (hN : F.ts.length + F.ns.length = N) (S0 : List Lr) (hS0 : startV F.ts.length F.ps em Ss k = some S0) (hne : S0 ≠ []) (res : Option (List (List Lr))) (h : allV (gotoV F.ts.length F.ps em Ss k) N k 0 [S0] = some res) :
    Calls Try.prog 7 #[F.val] w fun e w' => ∃ v n, e = .returned (.tuple #[v, .int .i64 n]) ∧ n = errV res ∧ Kd.R kLs TLs w' w.heap.size (fun _ => True) v (res.getD []) ∧ Below w.heap.size w w' := by
  have hN6 : N ≤ 999999 := by have := hr.n6; omega
  have hl0 : F.ts.length ≤ 999999 := by omega
  have hl1 : F.ns.length ≤ 999999 := by omega
  obtain ⟨Wf, hWf⟩ : ∃ X, w.alloc (.cells #[.slice F.A0 F.ts.length F.c0, .slice F.A1 F.ns.length F.c1, .slice F.A2 F.ps.length F.c2] 25) = X := ⟨_, rfl⟩
  have bf : Wf.heap[w.heap.size]? = some (.cells #[.slice F.A0 F.ts.length F.c0, .slice F.A1 F.ns.length F.c1, .slice F.A2 F.ps.length F.c2] 25 (0, 0)) := by rw [← hWf]; exact zbe w _
  have hbf : Below w.heap.size w Wf := by rw [← hWf]; exact (Below.refl _ _).alloc (Nat.le_refl _) _
  have hly := layR_calls F Wf (hK.below hbf) k em Ss hr
  obtain ⟨r0, hr0, hS0'⟩ := Option.map_eq_some_iff.1 hS0
  have hst := fun (G : SG) W (hG : G.At em Ss W) (hF : G.F = F) => start_calls G em Ss W hG k r0 (by rw [hF]; exact hr0)
  have cf0 : Wf.cell? ⟨w.heap.size, 0, none⟩ = some (.slice F.A0 F.ts.length F.c0) := zac bf 0
  have cf1 : Wf.cell? ⟨w.heap.size, 1, none⟩ = some (.slice F.A1 F.ns.length F.c1) := zac bf 1
  have cf2 : Wf.cell? ⟨w.heap.size, 2, none⟩ = some (.slice F.A2 F.ps.length F.c2) := zac bf 2
  have HH := Lib.hid h
  have hmm := @run_makeMap Try.prog
  have hokS : ∀ x ∈ S0, lrOk x := fun x hx => by
    rw [← hS0', srtL_mem] at hx
    have := right_len (n0 := F.ts.length) hr.ps x.1
    exact fit_ok (closV_fit k _ _ _ hr0 (fun _ h => nomatch h) x hx) hr.pl (by omega) (by omega)
  have HS0 := Lib.hid hS0'
  have HR0 := Lib.hid hr0
  clear h hS0 hr0 hS0'
  obtain ⟨x0, S1, rfl⟩ : ∃ x S1, S0 = x :: S1 := by
    cases S0 with
    | nil => exact absurd rfl hne
    | cons x t => exact ⟨x, t, rfl⟩
  simp only [FG.val, FG.row] at hly ⊢
  obtain ⟨LS, hLS⟩ : ∃ LS, x0 :: S1 = LS := ⟨_, rfl⟩
  have HLS := Lib.hid hLS
  rw [hLS] at HS0 HH hokS
  clear hne hLS
  go_enter Try.func7, Try.ntmps7
  go_wp2_with (first
    | (go_at_call 16; refine hly.mono ?_; rintro e u ⟨G, rfl, hGF, hGN, hG, hBu⟩; have hst2 := hst G u hG hGF)
    | (go_at_call 17
       refine hst2.mono ?_
       rintro e W2 ⟨v2, rfl, R2, hB2⟩
       rw [HS0.out] at R2
       obtain ⟨A2, c2, rfl⟩ := Kd.zby R2
       obtain ⟨_, _, hC2⟩ := Kd.R_reads' R2
       obtain ⟨ad2, x0', rfl, hx0, f0', f1', f2'⟩ := atLr hC2 0 (by rw [← HLS.out]; simp)
       obtain rfl : x0' = x0 := by { rw [← HLS.out] at hx0; simpa using hx0.symm }
       have hl2 : LS.length ≤ 9223372036854775807 := hC2.2.1
       have hlp : 0 < LS.length := by { rw [← HLS.out]; simp }
       obtain ⟨X1, hX1⟩ : ∃ X, W2.alloc (.cells #[.slice (some ad2) LS.length c2] 33) = X := ⟨_, rfl⟩
       obtain ⟨b5, hb5⟩ : ∃ b, X1.heap.size = b := ⟨_, rfl⟩
       obtain ⟨X2, hX2⟩ : ∃ X, X1.alloc (.cells #[.slice (some ⟨W2.heap.size, 0, none⟩) 1 1] 28) = X := ⟨_, rfl⟩
       obtain ⟨mb, hmb⟩ : ∃ b, X2.heap.size = b := ⟨_, rfl⟩
       obtain ⟨X3, hX3⟩ : ∃ X, X2.alloc (.map #[] 0) = X := ⟨_, rfl⟩
       obtain ⟨X4, hX4⟩ : ∃ X, X3.alloc (.cells #[.int .i64 0] 3) = X := ⟨_, rfl⟩
       have bb1 : X1.heap[W2.heap.size]? = some (.cells #[.slice (some ad2) LS.length c2] 33 (0, 0)) := by { rw [← hX1]; exact zbe _ _ }
       have bb2 : X2.heap[b5]? = some (.cells #[.slice (some ⟨W2.heap.size, 0, none⟩) 1 1] 28 (0, 0)) := by { rw [← hX2, ← hb5]; exact zbe _ _ }
       have bb3 : MapAt keyL mb [] X3 := by { rw [← hX3, ← hmb]; exact MapAt.new _ }
       have bb4 : X4.heap[X3.heap.size]? = some (.cells #[.int .i64 0] 3 (0, 0)) := by { rw [← hX4]; exact zbe _ _ }
       have e1 : Below W2.heap.size W2 X1 := by { rw [← hX1]; exact (Below.refl _ _).alloc (Nat.le_refl _) _ }
       have e2 : Below X1.heap.size X1 X2 := by { rw [← hX2]; exact (Below.refl _ _).alloc (Nat.le_refl _) _ }
       have e3 : Below X2.heap.size X2 X3 := by { rw [← hX3]; exact (Below.refl _ _).alloc (Nat.le_refl _) _ }
       have e4 : Below X3.heap.size X3 X4 := by { rw [← hX4]; exact (Below.refl _ _).alloc (Nat.le_refl _) _ }
       have h23 := (e1.trans (e2.mono e1.size)).trans (e3.mono (e1.trans (e2.mono e1.size)).size)
       have f0 : X3.cell? ad2 = some (.int .i64 x0'.1) := by { have := zao h23 f0'; simpa [Addr.add] using this }
       have f1 : X3.cell? ⟨ad2.block, ad2.off + 1, none⟩ = some (.int .i64 x0'.2.1) := by { have := zao h23 f1'; simpa [Addr.add] using this }
       have f2 : X3.cell? ⟨ad2.block, ad2.off + 2, none⟩ = some (.int .i64 x0'.2.2) := by { have := zao h23 f2'; simpa [Addr.add] using this }
       have b53 : X3.cell? ⟨b5, 0, none⟩ = some (.slice (some ⟨W2.heap.size, 0, none⟩) 1 1) := zac (zaq bb2 e3) 0
       have b23 : X3.cell? ⟨W2.heap.size, 0, none⟩ = some (.slice (some ad2) LS.length c2) := zac (zaq (zaq bb1 e2) e3) 0
       have hx0ok : lrOk x0' := hokS x0' (by { rw [← HLS.out]; simp })
       have m4 := bb3.keep (e4.block _ bb3.lt)
       obtain ⟨X5, hup, m5, g5⟩ := MapAt.put m4 Try.underlying51 (by decide) hx0ok (.slice (some ⟨X3.heap.size, 0, none⟩) 1 1)
       have hup' : (Instr.mapUpdate 51 (.map (some mb)) (.agg #[.int .i64 x0'.1, .int .i64 x0'.2.1, .int .i64 x0'.2.2]) (.slice (some ⟨X3.heap.size, 0, none⟩) 1 1)).run Try.prog X4 = .ok () X5 := hup
       clear f0' f1' f2' hx0 hC2))
  obtain ⟨es4, cl4, hmo4⟩ := m4.block
  have hB24 : Below W2.heap.size W2 X4 := h23.trans (e4.mono h23.size)
  have hu4 : Below u.heap.size u X4 := hB2.trans (hB24.mono hB2.size)
  have hum : u.heap.size ≤ mb := by rw [← hmb]; exact (hB2.trans ((e1.trans (e2.mono e1.size)).mono hB2.size)).size
  have hub : u.heap.size ≤ b5 := by rw [← hb5]; exact (hB2.trans (e1.mono hB2.size)).size
  have hu5 : Below u.heap.size u X5 := hu4.grown g5 hu4.size (fun k hk => by cases hk; exact hum)
  have hRL : Kd.R kLs TLs X4 u.heap.size (fun _ => True) (.slice (some ⟨W2.heap.size, 0, none⟩) 1 1) [LS] := by
    have hR4 := Kd.zbt R2 hB24
    refine R_one (okp := fun k => k < W2.heap.size) (cs := [.slice (some ad2) LS.length c2]) (zaq (zaq (zaq bb1 e2) e3) e4) hB2.size ⟨_, rfl, ?_⟩ (fun k hk => by omega)
    exact Kd.zbt (Kd.zb1 (Kd.R_bound R2) (fun k hk => hk.2.2.1)) hB24
  have as5 : AS u mb b5 [LS] X5 := by
    refine ⟨hu5, ⟨_, 1, LLay.zci (zaq (zaq bb2 e3) e4) hmo4 g5, R_mapk hRL hmo4 g5⟩, BY.one m5 (by rw [← HLS.out]; rfl) ?_, m5.lt, hum, hub⟩
    refine R_mapk (R_one (okp := fun _ => False) (cs := [.int .i64 0]) bb4 ?_ ?_ (fun _ h => h.elim)) hmo4 g5
    · exact (hB2.trans (h23.mono hB2.size)).size
    · rfl
  have hok5 : OKs [LS] := by
    intro a ha
    obtain rfl := List.mem_singleton.1 ha
    refine ⟨?_, hokS⟩
    rw [← HS0.out, srtL_len]
    exact closV_len3 k _ _ _ HR0.out
  have fu0 : u.cell? ⟨w.heap.size, 0, none⟩ = some (.slice F.A0 F.ts.length F.c0) := zao hBu cf0
  have fu1 : u.cell? ⟨w.heap.size, 1, none⟩ = some (.slice F.A1 F.ns.length F.c1) := zao hBu cf1
  have hwu : Below w.heap.size w u := hbf.trans (hBu.mono hbf.size)
  have hwrN : IntKind.i64.wrap ((F.ts.length : Int) + (F.ns.length : Int)) = (N : Int) := by rw [IntKind.wrap_i64]; omega
  have HU := Lib.hid (And.intro fu0 fu1)
  clear hst hst2 hly hmm cf0 cf1 cf2 bf hWf hbf hRL hu4 hu5 hmo4 g5 m5 m4 hup hup' hx0ok b23 b53 f0 f1 f2 h23 e1 e2 e3 e4 bb1 bb2 bb3 bb4 hX1 hX2 hX3 hX4 hb5 hmb hB24 R2 hB2 HLS hokS fu0 fu1
  go_loopw [7] (fun i wr => ∃ (i' : Nat) (al : List (List Lr)) (k' : Nat), i = .int .i64 (i' : Int) ∧ i' ≤ al.length ∧ al.length ≤ 600 ∧ AS u mb b5 al wr ∧ Hid (OKs al) ∧ Hid (allV (gotoV F.ts.length F.ps em Ss k) N k' i' al = some res)) (fun i _ => 601 - (Go.RowKit.intOf i).toNat)
  case atStart => exact ⟨0, [LS], k, rfl, Nat.zero_le _, by simp, as5, Lib.hid hok5, HH⟩
  case round =>
    clear as5 hok5 HH
    obtain ⟨i', al, k', rfl, hi, hal6, has, HO, HA⟩ := hrel
    obtain ⟨A5, c5, hbx5, hR5⟩ := has.box
    have cv5 := hbx5.cell
    have hA := HA.out
    obtain ⟨kk, rfl⟩ : ∃ m, k' = m + 1 := by
      cases k' with
      | zero => cases hA
      | succ m => exact ⟨m, rfl⟩
    simp only [allV] at hA
    by_cases hlt : i' < al.length
    · rw [if_pos hlt] at hA
      obtain ⟨r1, hsy, hA⟩ := Option.bind_eq_some_iff.1 hA
      obtain ⟨row, hrow⟩ : ∃ row, al.getD i' [] = row := ⟨_, rfl⟩
      rw [hrow] at hsy
      have g0 : wr.cell? ⟨w.heap.size, 0, none⟩ = some (.slice F.A0 F.ts.length F.c0) := zao has.b HU.out.1
      have g1 : wr.cell? ⟨w.heap.size, 1, none⟩ = some (.slice F.A1 F.ns.length F.c1) := zao has.b HU.out.2
      have hrl : row.length ≤ 1000000000 := by
        rw [← hrow, List.getD_eq_getElem?_getD, List.getElem?_eq_getElem hlt]
        exact (HO.out _ (List.getElem_mem _)).1
      have HSY := Lib.hid (show symsV (gotoV F.ts.length F.ps em Ss k row) (N - 0) 0 al = some r1 from hsy)
      have HA1 := Lib.hid hA
      have HROW := Lib.hid hrow
      clear hsy hA hrow HA hR5 hbx5
      go_wp2
      go_loopw [36] (fun q wx => ∃ (q' : Nat) (al2 : List (List Lr)), q = .int .i64 (q' : Int) ∧ q' ≤ N ∧ AS u mb b5 al2 wx ∧ al2.length ≤ 600 ∧ i' < al2.length ∧ Hid (OKs al2) ∧ Hid (al2.getD i' [] = row) ∧ Hid (symsV (gotoV F.ts.length F.ps em Ss k row) (N - q') q' al2 = some r1)) (fun q _ => N - (Go.RowKit.intOf q).toNat)
      case atStart => exact ⟨0, al, rfl, Nat.zero_le _, has, hal6, hlt, HO, HROW, HSY⟩
      case round =>
        clear has HO HROW HSY hi hal6 hlt g0 g1 cv5
        obtain ⟨q, al2, rfl, hq, has, hal6, hi2, HO, HROW, HSY⟩ := hrel
        by_cases hqN : q < N
        · obtain ⟨A5, c5, hbx5, hR5⟩ := has.box
          have cv5 := hbx5.cell
          obtain ⟨_, _, hC5⟩ := Kd.R_reads' hR5
          obtain ⟨ad5, row', A1, c1, rfl, hrw, hl1, fr, hCr⟩ := atLs hC5 i' hi2
          obtain rfl : row' = row := by rw [← HROW.out, List.getD_eq_getElem?_getD, hrw]; rfl
          have hsy := HSY.out
          rw [show N - q = (N - (q + 1)) + 1 by omega] at hsy
          simp only [symsV] at hsy
          obtain ⟨L, hL, hsy⟩ := Option.bind_eq_some_iff.1 hsy
          obtain ⟨rr, hrr, hLs⟩ := Option.map_eq_some_iff.1 hL
          have hGx := hG.below has.b
          have hst := step_calls G em Ss row' A1 c1 (q : Int) wr hGx hCr hrl k rr (by rw [hGF]; exact hrr)
          have hLok : L.length ≤ 1000000000 ∧ ∀ x ∈ L, lrOk x := by
            rw [← hLs]
            refine ⟨by rw [srtL_len]; exact closV_len3 k _ _ _ hrr, fun x hx => ?_⟩
            rw [srtL_mem] at hx
            have := right_len (n0 := F.ts.length) hr.ps x.1
            exact fit_ok (closV_fit k _ _ _ hrr (fun _ h => nomatch h) x hx) hr.pl (by omega) (by omega)
          rw [hLs] at hst
          have hil : al2.length ≤ 9223372036854775807 := by omega
          have HSY2 := Lib.hid hsy
          clear hsy hL hrr hLs HSY hrw hGx hC5
          by_cases hLn : L = []
          · subst hLn
            have hsy := HSY2.out
            rw [if_pos (.inl rfl)] at hsy
            have HS := Lib.hid hsy
            clear hsy
            go_wp2_with (go_at_call 18; refine hst.mono ?_; rintro e W4 ⟨v9, rfl, R9, B9⟩; obtain ⟨A9, c9, rfl⟩ := Kd.zby R9; obtain ⟨X6, hX6⟩ : ∃ X, W4.alloc (.cells #[.slice A9 ([] : List Lr).length c9] 33) = X := ⟨_, rfl⟩; have bb9 : X6.heap[W4.heap.size]? = some (.cells #[.slice A9 ([] : List Lr).length c9] 33 (0, 0)) := (by rw [← hX6]; exact zbe _ _); have hB6 : Below W4.heap.size W4 X6 := (by rw [← hX6]; exact (Below.refl _ _).alloc (Nat.le_refl _) _); have cL9 : X6.cell? ⟨W4.heap.size, 0, none⟩ = some (.slice A9 ([] : List Lr).length c9) := zac bb9 0)
            go_roundw
            case rel => exact ⟨q + 1, al2, by first | rfl | go_num, by omega, has.keep (by have := B9.trans (hB6.mono B9.size); rw [← hX6] at this; exact this), hal6, hi2, HO, HROW, HS⟩
            case measure => simp [Go.RowKit.intOf]; omega
          · obtain ⟨x, Lt, hLx⟩ : ∃ x t, L = x :: t := by
              cases L with
              | nil => exact absurd rfl hLn
              | cons x t => exact ⟨x, t, rfl⟩
            have hLl : 0 < L.length := by rw [hLx]; simp
            have hh9 : L.head? = some x := by rw [hLx]; rfl
            have hx9 : lrOk x := hLok.2 x (by rw [hLx]; simp)
            have hL9 : L.length ≤ 1000000000 := hLok.1
            have hL0 : ((L.length : Int) == 0) = false := by simp; omega
            have HLX := Lib.hid hLx
            have HLOK := Lib.hid hLok
            clear hLx hLok
            by_cases hm : L ∈ al2
            · have hdm : decide (L ∈ al2) = true := decide_eq_true hm
              have hsy := HSY2.out
              rw [if_pos (.inr hm)] at hsy
              have HS := Lib.hid hsy
              have HDM := Lib.hid hdm
              clear hsy hm
              go_wp2_with (first
              | (go_at_call 18
                 refine hst.mono ?_
                 rintro e W4 ⟨v9, rfl, R9, B9⟩
                 obtain ⟨A9, c9, rfl⟩ := Kd.zby R9
                 obtain ⟨_, _, hC9⟩ := Kd.R_reads' R9
                 obtain ⟨ad9, x9, rfl, hx9', f0', f1', f2'⟩ := atLr hC9 0 hLl
                 obtain rfl : x = x9 := by { rw [HLX.out] at hx9'; simpa using hx9' }
                 obtain ⟨X6, hX6⟩ : ∃ X, W4.alloc (.cells #[.slice (some ad9) L.length c9] 33) = X := ⟨_, rfl⟩
                 obtain ⟨b9, hb9⟩ : ∃ b, W4.heap.size = b := ⟨_, rfl⟩
                 have bb9 : X6.heap[b9]? = some (.cells #[.slice (some ad9) L.length c9] 33 (0, 0)) := by { rw [← hX6, ← hb9]; exact zbe _ _ }
                 have hB6 : Below W4.heap.size W4 X6 := by { rw [← hX6]; exact (Below.refl _ _).alloc (Nat.le_refl _) _ }
                 have cL9 : X6.cell? ⟨b9, 0, none⟩ = some (.slice (some ad9) L.length c9) := zac bb9 0
                 have f0 : X6.cell? ad9 = some (.int .i64 x.1) := by { have := zao hB6 f0'; simpa [Addr.add] using this }
                 have f1 : X6.cell? ⟨ad9.block, ad9.off + 1, none⟩ = some (.int .i64 x.2.1) := by { have := zao hB6 f1'; simpa [Addr.add] using this }
                 have f2 : X6.cell? ⟨ad9.block, ad9.off + 2, none⟩ = some (.int .i64 x.2.2) := by { have := zao hB6 f2'; simpa [Addr.add] using this }
                 have B96 := B9.trans (hB6.mono B9.size)
                 have has6 := has.keep B96
                 obtain ⟨Av, cv, hlk, hCv⟩ := by_look has6.by_ hx9
                 have hlk' : (Instr.lookup 51 (.map (some mb)) (.agg #[.int .i64 x.1, .int .i64 x.2.1, .int .i64 x.2.2]) false).run Try.prog X6 = .ok (.slice Av (hdF x 0 al2).length cv) X6 := hlk
                 have hct := has_calls has6 bb9 (Kd.zax hC9 hB6) hh9 hCv cv
                 rw [hdm] at hct
                 clear f0' f1' f2' hx9' hlk hC9 hCv)
              | (go_at_call 19
                 refine hct.mono ?_
                 rintro e X7 ⟨rfl, hB7⟩))
              go_roundw
              case rel => exact ⟨q + 1, al2, by first | rfl | go_num, by omega, has6.keep hB7, hal6, hi2, HO, HROW, HS⟩
              case measure => simp [Go.RowKit.intOf]; omega
            · have hdm : decide (L ∈ al2) = false := decide_eq_false hm
              have hsy := HSY2.out
              rw [if_neg (fun h => h.elim hLn hm)] at hsy
              have HS := Lib.hid hsy
              clear hsy hm
              go_wp2_with (first
              | (go_at_call 18
                 refine hst.mono ?_
                 rintro e W4 ⟨v9, rfl, R9, B9⟩
                 obtain ⟨A9, c9, rfl⟩ := Kd.zby R9
                 obtain ⟨_, _, hC9⟩ := Kd.R_reads' R9
                 obtain ⟨ad9, x9, rfl, hx9', f0', f1', f2'⟩ := atLr hC9 0 hLl
                 obtain rfl : x = x9 := by { rw [HLX.out] at hx9'; simpa using hx9' }
                 obtain ⟨X6, hX6⟩ : ∃ X, W4.alloc (.cells #[.slice (some ad9) L.length c9] 33) = X := ⟨_, rfl⟩
                 obtain ⟨b9, hb9⟩ : ∃ b, W4.heap.size = b := ⟨_, rfl⟩
                 have bb9 : X6.heap[b9]? = some (.cells #[.slice (some ad9) L.length c9] 33 (0, 0)) := by { rw [← hX6, ← hb9]; exact zbe _ _ }
                 have hB6 : Below W4.heap.size W4 X6 := by { rw [← hX6]; exact (Below.refl _ _).alloc (Nat.le_refl _) _ }
                 have cL9 : X6.cell? ⟨b9, 0, none⟩ = some (.slice (some ad9) L.length c9) := zac bb9 0
                 have f0 : X6.cell? ad9 = some (.int .i64 x.1) := by { have := zao hB6 f0'; simpa [Addr.add] using this }
                 have f1 : X6.cell? ⟨ad9.block, ad9.off + 1, none⟩ = some (.int .i64 x.2.1) := by { have := zao hB6 f1'; simpa [Addr.add] using this }
                 have f2 : X6.cell? ⟨ad9.block, ad9.off + 2, none⟩ = some (.int .i64 x.2.2) := by { have := zao hB6 f2'; simpa [Addr.add] using this }
                 have B96 := B9.trans (hB6.mono B9.size)
                 have has6 := has.keep B96
                 obtain ⟨Av, cv, hlk, hCv⟩ := by_look has6.by_ hx9
                 have hlk' : (Instr.lookup 51 (.map (some mb)) (.agg #[.int .i64 x.1, .int .i64 x.2.1, .int .i64 x.2.2]) false).run Try.prog X6 = .ok (.slice Av (hdF x 0 al2).length cv) X6 := hlk
                 have hct := has_calls has6 bb9 (Kd.zax hC9 hB6) hh9 hCv cv
                 rw [hdm] at hct
                 clear f0' f1' f2' hx9' hlk hC9 hCv)
              | (go_at_call 19
                 refine hct.mono ?_
                 rintro e X7 ⟨rfl, hB7⟩))
              rename_i K12 hK12
              (try rw [hX6])
              (try rw [hb9])
              obtain ⟨Xd, hXd⟩ : ∃ X, X7.drew = X := ⟨_, rfl⟩
              have hB7d : Below X6.heap.size X6 Xd := by rw [← hXd]; exact zba hB7
              have hasd : AS u mb b5 al2 Xd := has6.keep hB7d
              have hbyd := hasd.by_
              obtain ⟨A5', c5', hbx5d, hR5d⟩ := hasd.box
              have hR9d : Kd.R kLr TL Xd u.heap.size (fun k => wr.heap.size ≤ k) (.slice (some ad9) L.length c9) L := by
                refine Kd.zbt ?_ hB7d
                refine Kd.zbt ?_ hB6
                exact Kd.zb8 (Kd.zb1 (Kd.R_bound R9) (fun k hk => hk.2.1)) has.b.size
              have b9d := zaq bb9 hB7d
              have hHeld : (fun X => X.cell? ⟨b9, 0, none⟩ = some (.slice (some ad9) L.length c9) ∧ X.cell? ad9 = some (.int .i64 x.1) ∧ X.cell? ⟨ad9.block, ad9.off + 1, none⟩ = some (.int .i64 x.2.1) ∧ X.cell? ⟨ad9.block, ad9.off + 2, none⟩ = some (.int .i64 x.2.2) ∧ X.cell? ⟨b5, 0, none⟩ = some (.slice A5' al2.length c5')) Xd := ⟨zac b9d 0, zao hB7d f0, zao hB7d f1, zao hB7d f2, hbx5d.cell⟩
              have hHeldX : (fun X => X.cell? ⟨b9, 0, none⟩ = some (.slice (some ad9) L.length c9) ∧ X.cell? ad9 = some (.int .i64 x.1) ∧ X.cell? ⟨ad9.block, ad9.off + 1, none⟩ = some (.int .i64 x.2.1) ∧ X.cell? ⟨ad9.block, ad9.off + 2, none⟩ = some (.int .i64 x.2.2) ∧ X.cell? ⟨b5, 0, none⟩ = some (.slice A5' al2.length c5')) X7.drew := by rw [hXd]; exact hHeld
              have keep12 : ∀ X Y : World, Below X.heap.size X Y → (fun X => X.cell? ⟨b9, 0, none⟩ = some (.slice (some ad9) L.length c9) ∧ X.cell? ad9 = some (.int .i64 x.1) ∧ X.cell? ⟨ad9.block, ad9.off + 1, none⟩ = some (.int .i64 x.2.1) ∧ X.cell? ⟨ad9.block, ad9.off + 2, none⟩ = some (.int .i64 x.2.2) ∧ X.cell? ⟨b5, 0, none⟩ = some (.slice A5' al2.length c5')) X → (fun X => X.cell? ⟨b9, 0, none⟩ = some (.slice (some ad9) L.length c9) ∧ X.cell? ad9 = some (.int .i64 x.1) ∧ X.cell? ⟨ad9.block, ad9.off + 1, none⟩ = some (.int .i64 x.2.1) ∧ X.cell? ⟨ad9.block, ad9.off + 2, none⟩ = some (.int .i64 x.2.2) ∧ X.cell? ⟨b5, 0, none⟩ = some (.slice A5' al2.length c5')) Y := fun X Y h hh => ⟨zao h hh.1, zao h hh.2.1, zao h hh.2.2.1, zao h hh.2.2.2.1, zao h hh.2.2.2.2⟩
              have hlw : wr.heap.size ≤ b9 := by rw [← hb9]; exact B9.size
              have hlo5 : ∀ k, (Value.slice A5' al2.length c5').ownBlock = some k → k < wr.heap.size := by
                obtain ⟨A', c', hbx', hR'⟩ := has.box
                have e1 := zaq hbx' (B96.trans (hB7d.mono B96.size))
                rw [hbx5d] at e1
                injection e1 with e1
                injection e1 with e1
                have e2 : Value.slice A5' al2.length c5' = .slice A' al2.length c' := by simpa using e1
                rw [e2]
                exact Kd.R_lt hR'
              clear R9 B9 hB6 hB7 hX6 hb9 bb9 cL9 f0 f1 f2 hct hlk' has6 has hst cv5 fr hbx5 hR5 hB7d B96 hCr
              refine Ahd.wp_qz (zbw (S := (fun X => X.cell? ⟨b9, 0, none⟩ = some (.slice (some ad9) L.length c9) ∧ X.cell? ad9 = some (.int .i64 x.1) ∧ X.cell? ⟨ad9.block, ad9.off + 1, none⟩ = some (.int .i64 x.2.1) ∧ X.cell? ⟨ad9.block, ad9.off + 2, none⟩ = some (.int .i64 x.2.2) ∧ X.cell? ⟨b5, 0, none⟩ = some (.slice A5' al2.length c5'))) (ds := [7, 9, 11]) #[Nf,Nf,Nf,Nf,Nf,Nf,Nf,Nf,Nf,Nf,Nf,Nf] (by kernel_rfl) rfl rfl hHeldX (fun h0_ => ?_))
              rw [hXd]
              clear h0_
              refine pure_ (i := 0) (N := (some 58)) (v := ?_) (a' := ?_) #[Yt,Nf,Nf,Nf,Nf,Nf,Nf,Nf,Nf,Nf,Nf,Nf] rfl rfl (by kernel_rfl) (fun _ _ _ h => h) (Or.inl ⟨by rfl, ?_⟩) ?_ ?_
              rotate_left
              · intro w'
                go_simp
                with_reducible rfl
              rotate_left
              · simp only [Act.put, Y1, Y2, Y3]
                rfl
              refine take_ (i := 1) (N := (some 59)) (v := ?_) (a' := ?_) #[Yt,Yt,Nf,Nf,Nf,Nf,Nf,Nf,Nf,Nf,Nf,Nf] rfl rfl (by kernel_rfl) (fun _ _ _ h => h) (Or.inl ⟨by rfl, ?_⟩) hHeld ?_ ?_
              rotate_left
              · rintro w' ⟨s0, s1, s2, s3, s4⟩
                go_simp
                with_reducible rfl
              rotate_left
              · simp only [Act.put, Y1, Y2, Y3]
                rfl
              refine pure_ (i := 2) (N := (some 60)) (v := ?_) (a' := ?_) #[Yt,Yt,Yt,Nf,Nf,Nf,Nf,Nf,Nf,Nf,Nf,Nf] rfl rfl (by kernel_rfl) (fun _ _ _ h => h) (Or.inl ⟨by rfl, ?_⟩) ?_ ?_
              rotate_left
              · intro w'
                go_simp
                with_reducible rfl
              rotate_left
              · simp only [Act.put, Y1, Y2, Y3]
                rfl
              refine take_ (i := 3) (N := (some 61)) (v := ?_) (a' := ?_) #[Yt,Yt,Yt,Yt,Nf,Nf,Nf,Nf,Nf,Nf,Nf,Nf] rfl rfl (by kernel_rfl) (fun _ _ _ h => h) (Or.inl ⟨by rfl, ?_⟩) hHeld ?_ ?_
              rotate_left
              · rintro w' ⟨s0, s1, s2, s3, s4⟩
                go_simp
                with_reducible rfl
              rotate_left
              · simp only [Act.put, Y1, Y2, Y3]
                rfl
              refine take_ (i := 4) (N := (some 63)) (v := ?_) (a' := ?_) #[Yt,Yt,Yt,Yt,Yt,Nf,Nf,Nf,Nf,Nf,Nf,Nf] rfl rfl (by kernel_rfl) (fun _ _ _ h => h) (Or.inl ⟨by rfl, ?_⟩) hHeld ?_ ?_
              rotate_left
              · rintro w' ⟨s0, s1, s2, s3, s4⟩
                go_simp
                with_reducible rfl
              rotate_left
              · simp only [Act.put, Y1, Y2, Y3]
                rfl
              refine pure_ (i := 5) (N := (some 64)) (v := ?_) (a' := ?_) #[Yt,Yt,Yt,Yt,Yt,Yt,Nf,Nf,Nf,Nf,Nf,Nf] rfl rfl (by kernel_rfl) (fun _ _ _ h => h) (Or.inl ⟨by rfl, ?_⟩) ?_ ?_
              rotate_left
              · intro w'
                go_simp
                with_reducible rfl
              rotate_left
              · simp only [Act.put, Y1, Y2, Y3]
                rfl
              refine one_ (i := 6) (N := (some 65)) #[Yt,Yt,Yt,Yt,Yt,Yt,Yt,Nf,Nf,Nf,Nf,Nf] rfl rfl (by kernel_rfl) (by decide) (fun K hK => ?_)
              refine zb5 (w1 := Xd.alloc (.cells #[.int .i64 (al2.length : Int)] 3)) (v := .slice (some ⟨Xd.heap.size, 0, none⟩) 1 1) (by rfl) rfl ?_ ?_
              · go_simp
              obtain ⟨X1, hX1⟩ : ∃ X, Xd.alloc (.cells #[.int .i64 (al2.length : Int)] 3) = X := ⟨_, rfl⟩
              have bi1 : X1.heap[Xd.heap.size]? = some (.cells #[.int .i64 (al2.length : Int)] 3 (0, 0)) := by rw [← hX1]; exact zbe _ _
              have hB1 : Below Xd.heap.size Xd X1 := by rw [← hX1]; exact (Below.refl _ _).alloc (Nat.le_refl _) _
              rw [hX1]
              clear hX1
              have hh1 := keep12 _ _ hB1 hHeld
              obtain ⟨es1, cl1, hmo1⟩ : ∃ es cl, X1.heap[mb]? = some (.map es cl) := by
                obtain ⟨M1, _, hM1, _⟩ := BY.keep hbyd hB1
                exact hM1.block
              obtain ⟨v0, st, W1, r1_, g1, R0, o0, hpush⟩ := BY.push (BY.keep hbyd hB1) hx9 hh9 (by simp [maxLen]; omega)
              obtain ⟨A0, c0, rfl⟩ := Kd.zby R0
              have r1' : (Instr.mapEntry 51 (.map (some mb)) (.agg #[.int .i64 x.1, .int .i64 x.2.1, .int .i64 x.2.2])).run Try.prog X1 = .ok (.tuple #[.slice A0 (hdF x 0 al2).length c0, st]) W1 := r1_
              clear r1_
              refine hK.out _ _ hh1 (fun h0_ => ?_)
              clear hK K h0_
              refine norm_ (a' := ?_) ?_ ?_
              rotate_left
              · show Act.put _ (some 65) _ = _
                simp only [Act.put, Y1, Y2, Y3]
                rfl
              refine last_ (i := 7) (N := (some 66)) #[Yt,Yt,Yt,Yt,Yt,Yt,Yt,Yt,Nf,Nf,Nf,Nf] rfl rfl (by kernel_rfl) (by decide) (fun K hK => ?_)
              refine zb5 (w1 := W1) (v := .tuple #[.slice A0 (hdF x 0 al2).length c0, st]) (by rfl) rfl ?_ ?_
              · go_simp
              refine hK.out _ _ ?_
              clear hK K
              refine norm_ (a' := ?_) ?_ ?_
              rotate_left
              · show Act.put _ (some 66) _ = _
                simp only [Act.put, Y1, Y2, Y3]
                rfl
              refine pure_ (i := 8) (N := (some 62)) (v := ?_) (a' := ?_) #[Yt,Yt,Yt,Yt,Yt,Yt,Yt,Yt,Yt,Nf,Nf,Nf] rfl rfl (by kernel_rfl) (fun _ _ _ h => h) (Or.inl ⟨by rfl, ?_⟩) ?_ ?_
              rotate_left
              · intro w'
                go_simp
                with_reducible rfl
              rotate_left
              · simp only [Act.put, Y1, Y2, Y3]
                rfl
              refine pure_ (i := 10) (N := (some 68)) (v := ?_) (a' := ?_) #[Yt,Yt,Yt,Yt,Yt,Yt,Yt,Yt,Yt,Nf,Yt,Nf] rfl rfl (by kernel_rfl) (fun _ _ _ h => h) (Or.inl ⟨by rfl, ?_⟩) ?_ ?_
              rotate_left
              · intro w'
                go_simp
                with_reducible rfl
              rotate_left
              · simp only [Act.put, Y1, Y2, Y3]
                rfl
              refine last_ (i := 9) (N := (some 67)) #[Yt,Yt,Yt,Yt,Yt,Yt,Yt,Yt,Yt,Yt,Yt,Nf] rfl rfl (by kernel_rfl) (by decide) (fun K hK => ?_)
              refine Kd.R_append_rows_step (Kd.int .i64) (Rr := fun y cs => cs = [Value.int .i64 y]) (w0 := u) u.heap.size (by rfl) (.tmp 62) (.tmp 65) 50 TI (.int .i64 0) 8 rfl Try.underlying50 infoI rfl (by decide) (by decide) _ (hdF x 0 al2) [(al2.length : Int)] (some ⟨Xd.heap.size, 0, none⟩) 1 1 (fun _ => True) (fun _ => False) rfl rfl R0 ?aR (fun y cs h => h) (fun _ h => h.elim) (fun _ _ => trivial) ?aB ?aS ?aL ?_
              rotate_right
              intro v1 W2 R2_ hB2_ g2 hat2
              obtain ⟨W3, r3, g3, hby3, es3, cl3, hmo3⟩ := hpush v1 W2 R2_ g2 hat2
              obtain ⟨Av1, cv1, rfl⟩ := Kd.zby R2_
              simp only [List.length_append, List.length_cons, List.length_nil, Nat.zero_add] at r3
              refine hK.out _ _ ?_
              clear hK K
              refine last_ (i := 11) (N := none) #[Yt,Yt,Yt,Yt,Yt,Yt,Yt,Yt,Yt,Yt,Yt,Yt] rfl rfl (by kernel_rfl) (by decide) (fun K hK0 => ?_)
              refine skip_ (w1 := W3) (by rfl) rfl ?_ ?_
              · go_simp
              refine hK0.out _ _ ?_
              refine done_ (by kernel_rfl) ?_
              case aR =>
                refine ⟨rfl, by simp, fun _ => ⟨⟨Xd.heap.size, 0, none⟩, rfl, fun j p hj => ?_⟩⟩
                obtain rfl : j = 0 := by
                  cases j with
                  | zero => rfl
                  | succ j => simp at hj
                obtain rfl : (al2.length : Int) = p := by simpa using hj
                refine ⟨[.int .i64 (al2.length : Int)], rfl, rfl, fun i v hv => ?_⟩
                have hi0 : i = 0 := by
                  cases i with
                  | zero => rfl
                  | succ i => simp at hv
                subst hi0
                have hbi := LLay.zci bi1 hmo1 g1
                have e := zac hbi 0
                show W1.cell? ((⟨Xd.heap.size, 0, none⟩ : Addr).add (0 * 1 + 0)) = _
                rw [add_plain]
                exact e.trans hv
              case aB => exact (hasd.b.trans (hB1.mono hasd.b.size)).grown g1 (hasd.b.trans (hB1.mono hasd.b.size)).size (fun k hk => by cases hk; exact hum)
              case aS => have := g1.size; have := hB1.size; have := hasd.b.size; omega
              case aL => have := hdF_len x 0 al2; omega
              refine hK12 _ _ ?_
              have o1 : ∀ k, (Value.slice A0 (hdF x 0 al2).length c0).ownBlock = some k → ∃ cs fr, W1.heap[k]? = some (.cells cs TI fr) := fun k hk => by
                obtain ⟨_, cs, hc⟩ := o0 k hk
                exact ⟨cs, (0, 0), LLay.zci hc hmo1 g1⟩
              have hbu3 : Below u.heap.size u W3 := hB2_.grown g3 hB2_.size (fun k hk => by cases hk; exact hum)
              have hb53 : Boxed W3 b5 28 (.slice A5' al2.length c5') := LLay.zci (blk_typed (LLay.zci (zaq hbx5d hB1) hmo1 g1) (fun k hk => by obtain ⟨cs, fr, hc⟩ := o1 k hk; exact ⟨cs, TI, fr, hc, by decide⟩) g2) hmo3 g3
              have hb93 := LLay.zci (blk_typed (LLay.zci (zaq b9d hB1) hmo1 g1) (fun k hk => by obtain ⟨cs, fr, hc⟩ := o1 k hk; exact ⟨cs, TI, fr, hc, by decide⟩) g2) hmo3 g3
              have R53 := R_mapk (R_typed (R_mapk (Kd.zbt hR5d hB1) hmo1 g1) (fun k hk => by obtain ⟨cs, fr, hc⟩ := o1 k hk; exact ⟨cs, TI, fr, hc, by decide⟩) g2) hmo3 g3
              have R93 := R_mapk (R_typed (R_mapk (Kd.zbt hR9d hB1) hmo1 g1) (fun k hk => by obtain ⟨cs, fr, hc⟩ := o1 k hk; exact ⟨cs, TI, fr, hc, by decide⟩) g2) hmo3 g3
              obtain ⟨in5, ho53⟩ := Kd.R_own R53
              have cb5 := hb53.cell
              have cb9 : W3.cell? ⟨b9, 0, none⟩ = some (.slice (some ad9) L.length c9) := zac hb93 0
              clear hK12 hHeld hHeldX keep12 hasd hbyd hbx5d hR5d hR9d b9d hXd hh1 bi1 hB1 hpush R0 o0 g1 r1' hmo1 R2_ hB2_ g2 hat2 r3 g3 hmo3 o1 hb93
              by_cases hmany : al2.length + 1 > 600
              · have hgt : (600 : Int) < (al2.length : Int) + 1 := by omega
                have hS := HS.out
                rw [if_pos hmany] at hS
                have HR1 := Lib.hid (Option.some.inj hS)
                clear hS HS
                go_wp2_with (first
                | (at_builtin
                   refine Kd.R_append kLs (w0 := u) u.heap.size rfl (.tmp 69) (.tmp 71) 28 33 (.slice none 0 0) 24 rfl Try.underlying28 infoLs rfl (by decide) (by decide) (.slice A5' al2.length c5') al2 L [.slice (some ad9) L.length c9] (fun _ => True) (fun k => wr.heap.size ≤ k) rfl rfl ⟨_, rfl, R93⟩ (fun k hk => ⟨trivial, fun e => by have := hlo5 k e.symm; omega⟩) (fun _ _ => trivial) R53 hbu3 hbu3.size (by omega) ?_
                   intro v1 W4' R4 hB4 g4 _
                   obtain ⟨Ax, cx, rfl⟩ := Kd.zby R4
                   have hb54 := hb53.kept g4 (own_ne ho53 hb53 (by decide))
                   have cW4 := hb54.cell
                   have fW4 := hb54.frozen
                   have hlA : (al2 ++ [L]).length = al2.length + 1 := by { simp }
                   rw [hlA] at R4
                   obtain ⟨W5, hW5⟩ : ∃ X, W4'.setCell ⟨b5, 0, none⟩ (.slice Ax (al2.length + 1) cx) = X := ⟨_, rfl⟩
                   have hb55 : Boxed W5 b5 28 (.slice Ax (al2.length + 1) cx) := by { rw [← hW5]; exact hb54.set _ }
                   have cW5 := hb55.cell))
                have hres : res = none := by
                  have := HA1.out
                  rw [← HR1.out] at this
                  simpa using this.symm
                subst hres
                go_ret2
                refine ⟨_, _, rfl, rfl, Kd.R_nil _ _ _ _ _, ?_⟩
                have h5 : Below u.heap.size u W5 := by rw [← hW5]; exact hB4.setCell (p := ⟨b5, 0, none⟩) hub _
                exact hwu.trans (h5.mono hwu.size)
              · have hgt : ¬ (600 : Int) < (al2.length : Int) + 1 := by omega
                have hS := HS.out
                rw [if_neg hmany] at hS
                have HS' := Lib.hid hS
                clear hS HS
                go_wp2_with (first
                | (at_builtin
                   refine Kd.R_append kLs (w0 := u) u.heap.size rfl (.tmp 69) (.tmp 71) 28 33 (.slice none 0 0) 24 rfl Try.underlying28 infoLs rfl (by decide) (by decide) (.slice A5' al2.length c5') al2 L [.slice (some ad9) L.length c9] (fun _ => True) (fun k => wr.heap.size ≤ k) rfl rfl ⟨_, rfl, R93⟩ (fun k hk => ⟨trivial, fun e => by have := hlo5 k e.symm; omega⟩) (fun _ _ => trivial) R53 hbu3 hbu3.size (by omega) ?_
                   intro v1 W4' R4 hB4 g4 _
                   obtain ⟨Ax, cx, rfl⟩ := Kd.zby R4
                   have hb54 := hb53.kept g4 (own_ne ho53 hb53 (by decide))
                   have cW4 := hb54.cell
                   have fW4 := hb54.frozen
                   have hlA : (al2 ++ [L]).length = al2.length + 1 := by { simp }
                   rw [hlA] at R4
                   obtain ⟨W5, hW5⟩ : ∃ X, W4'.setCell ⟨b5, 0, none⟩ (.slice Ax (al2.length + 1) cx) = X := ⟨_, rfl⟩
                   have hb55 : Boxed W5 b5 28 (.slice Ax (al2.length + 1) cx) := by { rw [← hW5]; exact hb54.set _ }
                   have cW5 := hb55.cell))
                have hg5 : W4'.grownBy W5 (some b5) := by rw [← hW5]; exact grownBy_setCell' _ _ _
                have h5 : Below u.heap.size u W5 := by rw [← hW5]; exact hB4.setCell (p := ⟨b5, 0, none⟩) hub _
                have o5 := own_cells ho53
                have hby5 : BY mb u.heap.size (al2 ++ [L]) W5 := (BY.typed (BY.typed hby3 (fun k hk => by obtain ⟨cs, hc⟩ := o5 k hk; exact ⟨cs, TLs, (0, 0), hc, by decide⟩) g4) (fun k hk => by cases hk; exact ⟨_, _, _, hb54, by decide⟩) hg5)
                have R55 : Kd.R kLs TLs W5 u.heap.size (fun _ => True) (.slice Ax (al2 ++ [L]).length cx) (al2 ++ [L]) := by
                  rw [hlA]
                  exact R_typed R4 (fun k hk => by cases hk; exact ⟨_, _, _, hb54, by decide⟩) hg5
                have hmb5 : mb < W5.heap.size := by
                  obtain ⟨_, _, h, _⟩ := hby5
                  exact h.lt
                have as5 : AS u mb b5 (al2 ++ [L]) W5 := ⟨h5, ⟨Ax, cx, by rw [hlA]; exact hb55, R55⟩, hby5, hmb5, hum, hub⟩
                have hok5 : OKs (al2 ++ [L]) := fun a ha => by
                  rcases List.mem_append.1 ha with ha | ha
                  · exact HO.out a ha
                  · obtain rfl := List.mem_singleton.1 ha
                    exact HLOK.out
                go_roundw
                case rel => exact ⟨q + 1, al2 ++ [L], by first | rfl | go_num, by omega, as5, by rw [hlA]; omega, by rw [hlA]; omega, Lib.hid hok5, Lib.hid (by rw [List.getD_eq_getElem?_getD, List.getElem?_append_left hi2, ← List.getD_eq_getElem?_getD]; exact HROW.out), HS'⟩
                case measure => simp [Go.RowKit.intOf]; omega
        · obtain rfl : q = N := by omega
          have hsy := HSY.out
          rw [Nat.sub_self] at hsy
          have HR1 := Lib.hid (Option.some.inj hsy)
          have hA := HA1.out
          rw [← HR1.out] at hA
          simp only [Bool.false_eq_true, if_false] at hA
          have HA2 := Lib.hid hA
          clear hA hsy HSY
          go_wp2
          go_roundw
          case rel => exact ⟨i' + 1, al2, kk, by first | rfl | go_num, by omega, hal6, has, HO, HA2⟩
          case measure => simp [Go.RowKit.intOf]; omega
    · rw [if_neg hlt] at hA
      obtain rfl := Option.some.inj hA
      have hil : al.length ≤ 9223372036854775807 := by omega
      have HB := Lib.hid (hwu.trans (has.b.mono hwu.size))
      have HRR := Lib.hid (Kd.zb8 hR5 hwu.size)
      clear hR5 has hbx5 HA
      go_wp2
      go_ret2
      exact ⟨.slice A5 al.length c5, 0, rfl, rfl, HRR.out, HB.out⟩
end Go.Proofs.Ytgdmjpehofdnpaa.LAll
end
section
namespace Go.Proofs.Ytgdmjpehofdnpaa.LGiv
open Go Go.RowKit Go.Shelf Go.Maps Go.Proofs.YtgdmjpehofdnpaaW.PrintWords Go.Proofs.YtgdmjpehofdnpaaW.PrintLast Go.Proofs.Ytgdmjpehofdnpaa.Fl Go.Proofs.Ytgdmjpehofdnpaa.Grow Go.Proofs.Ytgdmjpehofdnpaa.Deri Go.Proofs.Ytgdmjpehofdnpaa.Begin Go.Proofs.Ytgdmjpehofdnpaa.Begun Go.Proofs.Ytgdmjpehofdnpaa.LrK Go.Proofs.Ytgdmjpehofdnpaa.LSeq Go.Proofs.Ytgdmjpehofdnpaa.LLex Go.Proofs.Ytgdmjpehofdnpaa.LSort Go.Proofs.Ytgdmjpehofdnpaa.LFlat Go.Proofs.Ytgdmjpehofdnpaa.LClos Go.Proofs.Ytgdmjpehofdnpaa.LStep Go.Proofs.Ytgdmjpehofdnpaa.LAll
set_option linter.unusedVariables false
theorem R_map {α β : Type} {d : Kd α} {d' : Kd β} {g : α → β} {e : Nat} {w : World} {base : Nat} {ok : Nat → Prop} {v : Value} {xs : List α} (hz : d'.sz = d.sz) (hM : ∀ ok x cs, d.M w base ok x cs → d'.M w base ok (g x) cs) (h : Kd.R d e w base ok v xs) : Kd.R d' e w base ok v (xs.map g) := by
 obtain ⟨h0, inner, ho, hr⟩ := h
 refine ⟨h0, inner, by rw [List.length_map, hz]; exact ho, by rw [List.length_map, hz]; exact hr.1, fun j p hj => ?_⟩
 rw [List.getElem?_map] at hj
 cases hx : xs[j]? with
 | none => rw [hx] at hj; cases hj
 | some x =>
  rw [hx] at hj
  obtain rfl : g x = p := by simpa using hj
  rw [hz]
  exact hM _ _ _ (hr.2 j x hx)
theorem closV_mono {n0 : Nat} {ps : List P} {em : List Bool} {Ss : List (List Int)} : ∀ (k : Nat) (S T : List Lr), LeO (closV n0 ps em Ss k S T) (closV n0 ps em Ss (k + 1) S T)
 | 0, _, _ => LeO.none _
 | k + 1, S, T => by
  intro r h
  rcases snoc T with rfl | ⟨T0, x, rfl⟩
  ·obtain ⟨rfl, h1⟩ := closV_nil h
   unfold closV
   rw [if_pos (by simpa using h1)]
   rfl
  ·obtain ⟨m, hm, hlen, h'⟩ := closV_step h
   obtain rfl : m = k := by omega
   have ih := closV_mono m _ _ r h'
   have hg : (T0 ++ [x]).length + S.length ≤ 1000000000 := by
    unfold closV at h
    split at h
    ·assumption
    ·cases h
   show closV n0 ps em Ss (m + 1 + 1) S (T0 ++ [x]) = some r
   rw [closV, if_pos hg]
   simp only [List.getLast?_concat, List.dropLast_concat]
   exact ih
theorem gotoV_mono {n0 : Nat} {ps : List P} {em : List Bool} {Ss : List (List Int)} (k : Nat) (row : List Lr) (s : Int) : LeO (gotoV n0 ps em Ss k row s) (gotoV n0 ps em Ss (k + 1) row s) := by
 intro r h
 obtain ⟨q, hq, rfl⟩ := Option.map_eq_some_iff.1 h
 unfold gotoV
 rw [closV_mono k _ _ q hq]
 rfl
theorem startV_mono {n0 : Nat} {ps : List P} {em : List Bool} {Ss : List (List Int)} (k : Nat) : LeO (startV n0 ps em Ss k) (startV n0 ps em Ss (k + 1)) := by
 intro r h
 obtain ⟨q, hq, rfl⟩ := Option.map_eq_some_iff.1 h
 unfold startV
 rw [closV_mono k _ _ q hq]
 rfl
theorem symsV_mono {g g' : Int → Option (List Lr)} (hg : ∀ s, LeO (g s) (g' s)) : ∀ (d q : Nat) (all : List (List Lr)), LeO (symsV g d q all) (symsV g' d q all)
 | 0, _, _ => LeO.refl _
 | d + 1, q, all => by
  intro r h
  simp only [symsV] at h ⊢
  obtain ⟨l, hl, h⟩ := Option.bind_eq_some_iff.1 h
  rw [hg _ _ hl]
  show (if _ then _ else _) = _
  split
  ·rename_i c
   rw [if_pos c] at h
   exact symsV_mono hg d _ _ r h
  ·rename_i c
   rw [if_neg c] at h
   split
   ·rename_i c2
    rw [if_pos c2] at h
    exact h
   ·rename_i c2
    rw [if_neg c2] at h
    exact symsV_mono hg d _ _ r h
theorem allV_mono {g g' : List Lr → Int → Option (List Lr)} (hg : ∀ a s, LeO (g a s) (g' a s)) (N : Nat) : ∀ (k i : Nat) (all : List (List Lr)), LeO (allV g N k i all) (allV g' N (k + 1) i all)
 | 0, _, _ => LeO.none _
 | k + 1, i, all => by
  intro r h
  rw [allV] at h ⊢
  split
  ·rename_i c
   rw [if_pos c] at h
   obtain ⟨q, hq, h⟩ := Option.bind_eq_some_iff.1 h
   rw [symsV_mono (hg _) _ _ _ _ hq]
   show (if _ then _ else _) = _
   split
   ·rename_i c2
    rw [if_pos c2] at h
    exact h
   ·rename_i c2
    rw [if_neg c2] at h
    exact allV_mono hg N k _ _ r h
  ·rename_i c
   rw [if_neg c] at h
   exact h
end Go.Proofs.Ytgdmjpehofdnpaa.LGiv
end
section
namespace Go.Proofs.Ytgdmjpehofdnpaa.PSame
open Go.RowKit Go.Proofs.YtgdmjpehofdnpaaW.PrintWords Go.Proofs.YtgdmjpehofdnpaaW.PrintLast Go.Proofs.YtgdmjpehofdnpaaW.PrintMore
attribute [local go_sem] zcc zcb zcg zcf zb7 zb6 zcd zca
set_option linter.unusedVariables false
set_option linter.unusedSimpArgs false
def errW : Option Int → Value
 | none => .nilIface
 | some c => .iface 0 (.int .i64 c)
theorem za2 : errW none = .nilIface := rfl
theorem za3 (c : Int) : errW (some c) = .iface 0 (.int .i64 c) := rfl
structure S39 where
 f0 : Int
 f1 : Int
 f2 : Int
def z39 : S39 := ⟨(0 : Int), (0 : Int), (0 : Int)⟩
def k39 : Kd S39 := Kd.iso (Kd.pair (Kd.int .i64) (Kd.pair (Kd.int .i64) (Kd.int .i64))) (fun x : S39 => (x.f0, x.f1, x.f2))
theorem k39_open {w : World} {x : S39} {cs : List Value} (h : k39.K w x cs) : cs = [.int .i64 x.f0, .int .i64 x.f1, .int .i64 x.f2] := by
 obtain ⟨_, _, rfl, rfl, ⟨_, _, rfl, rfl, rfl⟩⟩ := h
 exact rfl
def zbc (xs : List S39) (i : Int) : S39 := xs.getD i.toNat z39
theorem at_T39 {w : World} {A : Option Addr} {n : Nat} {xs : List S39} (h : Kd.C k39 w A n xs) (i : Int) (h0 : 0 ≤ i) (h1 : i < n) : ∃ ad , A = some ad ∧ w.cell? (ad.add (i.toNat * 3)) = some (.int .i64 (zbc xs i).f0) ∧ w.cell? ⟨(ad.add (i.toNat * 3)).block, (ad.add (i.toNat * 3)).off + 1, none⟩ = some (.int .i64 (zbc xs i).f1) ∧ w.cell? ⟨(ad.add (i.toNat * 3)).block, (ad.add (i.toNat * 3)).off + 2, none⟩ = some (.int .i64 (zbc xs i).f2) := by
 obtain ⟨ad, c, e, _, hK, hc0⟩ := Kd.C_get h z39 i h0 h1
 have hc : ∀ j u, c[j]? = some u → w.cell? (ad.add (i.toNat * 3 + j)) = some u := hc0
 obtain rfl := k39_open hK
 exact ⟨ad, e, hc 0 _ rfl, by rw [← zbp _ _ 1 (by omega)]; exact hc 1 _ rfl, by rw [← zbp _ _ 2 (by omega)]; exact hc 2 _ rfl⟩
end Go.Proofs.Ytgdmjpehofdnpaa.PSame
end
section
namespace Go.Proofs.Ytgdmjpehofdnpaa.PSame
open Go.RowKit Go.Proofs.YtgdmjpehofdnpaaW.PrintWords Go.Proofs.YtgdmjpehofdnpaaW.PrintLast Go.Proofs.YtgdmjpehofdnpaaW.PrintMore
attribute [local go_sem] zcc zcb zcg zcf zb7 zb6 zcd zca
set_option linter.unusedVariables false
set_option linter.unusedSimpArgs false
theorem eqA39 (d : Nat) (w : World) (x0 y0 : Int) (x1 y1 : Int) (x2 y2 : Int) :
  (Op.equalIn (d + 2) 39 (.agg #[.int .i64 x0, .int .i64 x1, .int .i64 x2]) (.agg #[.int .i64 y0, .int .i64 y1, .int .i64 y2])).run Try.prog w = .ok (x0 == y0 && (x1 == y1 && (x2 == y2))) w := by
 refine eqA_of Try.underlying39 (by kernel_rfl) ?_
 refine eqf_cons (by rfl) (by go_simp; rfl) (by go_simp; rfl) (by go_simp) ?_
 refine eqf_cons (by rfl) (by go_simp; rfl) (by go_simp; rfl) (by go_simp) ?_
 exact eqf_last (by rfl) (by go_simp; rfl) (by go_simp; rfl) (by go_simp)
end Go.Proofs.Ytgdmjpehofdnpaa.PSame
end
section
namespace Go.Proofs.Ytgdmjpehofdnpaa.PSame
open Go.RowKit Go.Proofs.YtgdmjpehofdnpaaW.PrintWords Go.Proofs.YtgdmjpehofdnpaaW.PrintLast Go.Proofs.YtgdmjpehofdnpaaW.PrintMore
attribute [local go_sem] zcc zcb zcg zcf zb7 zb6 zcd zca
set_option linter.unusedVariables false
set_option linter.unusedSimpArgs false
attribute [local go_sem high] eqA39
def zas.l0 : Nat → List (S39) → List (S39) → Int → Option (Bool)
 | 0, _, _, _ => none
 | k + 1, x0, x1, x5 => if x5 < (x0.length : Int) then (if 0 ≤ x5 then (if x5 < (x1.length : Int) then (if (!(((zbc x0 x5).f0) == ((zbc x1 x5).f0)) || (!(((zbc x0 x5).f1) == ((zbc x1 x5).f1)) || (!(((zbc x0 x5).f2) == ((zbc x1 x5).f2))))) = true then (some false) else (zas.l0 k x0 x1 (wrap64 (x5 + 1)))) else (none)) else (none)) else (some true)
def zas.f (k : Nat) (l0 : List (S39)) (l1 : List (S39)) : Option (Bool) := if (l0.length : Int) = (l1.length : Int) then (zas.l0 k l0 l1 0) else (some false)
theorem zas.zbz : ∀ k, (∀ y0 y1 y2, LeO (zas.l0 k y0 y1 y2) (zas.l0 (k + 1) y0 y1 y2))
 | 0 => fun _ _ _ r h => by simp [zas.l0] at h
 | k + 1 => by
  have ih0 := zas.zbz k
  ·intro y0 y1 y2
   unfold zas.l0
   repeat' first
   | (with_reducible exact ih0 _ _ _)
   | (with_reducible exact LeO.refl _)
   | (with_reducible exact LeO.none _)
   | (with_reducible refine LeO.ite ?_ ?_)
   | (with_reducible refine LeO.bind ?_ (fun _ => ?_))
   | exact ih0 _ _ _
   | exact LeO.none _
   | refine LeO.ite ?_ ?_
   | refine LeO.bind ?_ (fun _ => ?_)
theorem zas.mono : ∀ a0 a1 k, LeO (zas.f k a0 a1) (zas.f (k + 1) a0 a1) := by
 intro a0 a1 k
 have ih0 := zas.zbz k
 unfold zas.f
 repeat' first
   | (with_reducible exact ih0 _ _ _)
   | (with_reducible exact LeO.refl _)
   | (with_reducible exact LeO.none _)
   | (with_reducible refine LeO.ite ?_ ?_)
   | (with_reducible refine LeO.bind ?_ (fun _ => ?_))
   | exact ih0 _ _ _
   | exact LeO.none _
   | refine LeO.ite ?_ ?_
   | refine LeO.bind ?_ (fun _ => ?_)
set_option maxHeartbeats 8000000 in
set_option maxRecDepth 100000 in
theorem zas.calls (k : Nat) (A0 : Option Addr) (c0 : Nat) (l0 : List (S39)) (A1 : Option Addr) (c1 : Nat) (l1 : List (S39)) (r : Bool) (w : World) (hr0 : Kd.C k39 w A0 l0.length l0) (hc0 : l0.length ≤ c0) (hr1 : Kd.C k39 w A1 l1.length l1) (hc1 : l1.length ≤ c1) (h : zas.f k l0 l1 = some r) :
  Calls Try.prog 8 #[.slice A0 l0.length c0, .slice A1 l1.length c1] w fun e w' => e = .returned (.bool r) ∧ za8 w w' := by
 have hu39 := Try.underlying39
 have HR0 := zaa.mk hr0
 have HC0 := zaa.mk hc0
 clear hr0 hc0
 have HR1 := zaa.mk hr1
 have HC1 := zaa.mk hc1
 clear hr1 hc1
 have H : (if (l0.length : Int) = (l1.length : Int) then (zas.l0 k l0 l1 0) else (some false)) = some r := h
 clear h
 by_cases c3 : (l0.length : Int) = (l1.length : Int)
 ·rw [if_pos c3] at H
  have c3b0 : ((l0.length : Int) == (l1.length : Int)) = true := beq_iff_eq.mpr c3
  have c3b1 : ((l0.length : Int) != (l1.length : Int)) = false := bne_eq_false_iff_eq.mpr c3
  have c3b2 : (l0.length == l1.length) = true := by first | simpa using c3 | (simp at c3 ⊢; omega)
  clear c3
  have H' := zaa.mk H
  clear H
  go_enter Try.func8, Try.ntmps8
  go_wp2
  repeat (go_quiet (fail); try go_wp2)
  go_loopg [5] k (fun kq v5 w' => ∃ (x5_1 : Int), v5 = .int .i64 x5_1 ∧ zaa (zas.l0 kq l0 l1 x5_1 = some r) ∧ zaa (kq ≤ k) ∧ za8 w w')
  case atStart => exact ⟨(0), (by first | rfl | (simp; done) | (simp [*]; done)), H', ⟨Nat.le_refl _⟩, by repeat (first | exact za8.refl _ | apply za8.step)⟩
  case round =>
   clear H'
   try clear c1
   try clear p2
   try clear c3
   try clear c3b0
   try clear c3b1
   try clear c3b2
   obtain ⟨x5_1, rfl, HA, HK1, ⟨m1, rfl⟩⟩ := hrel
   cases gk with
   | zero => exact absurd HA.out (by simp [zas.l0])
   | succ k1 =>
    have H := HA.out
    clear HA
    simp only [zas.l0] at H
    by_cases c4 : x5_1 < (l0.length : Int)
    ·rw [if_pos c4] at H
     have c4b0 : decide (x5_1 < (l0.length : Int)) = true := decide_eq_true c4
     clear c4
     by_cases c5 : 0 ≤ x5_1
     ·rw [if_pos c5] at H
      have c5b0 : decide (0 ≤ x5_1) = true := decide_eq_true c5
      clear c5
      by_cases c6 : x5_1 < (l1.length : Int)
      ·rw [if_pos c6] at H
       have c6b0 : decide (x5_1 < (l1.length : Int)) = true := decide_eq_true c6
       clear c6
       by_cases c7 : (!(((zbc l0 x5_1).f0) == ((zbc l1 x5_1).f0)) || (!(((zbc l0 x5_1).f1) == ((zbc l1 x5_1).f1)) || (!(((zbc l0 x5_1).f2) == ((zbc l1 x5_1).f2))))) = true
       ·rw [if_pos c7] at H
        have c7b0 : (!(((zbc l0 x5_1).f0) == ((zbc l1 x5_1).f0)) || (!(((zbc l0 x5_1).f1) == ((zbc l1 x5_1).f1)) || (!(((zbc l0 x5_1).f2) == ((zbc l1 x5_1).f2))))) = true := c7
        clear c7
        obtain rfl := Option.some.inj H
        have p101 : 0 ≤ (x5_1 : Int) := of_decide_eq_true (by first | (with_reducible assumption) | assumption)
        have q101 : x5_1 < (l0.length : Int) := of_decide_eq_true (by first | (with_reducible assumption) | assumption)
        obtain ⟨ad101, e101, hx101_0, hx101_1, hx101_2⟩ := at_T39 HR0.out x5_1 p101 q101
        cases e101
        replace p101 := eq_true p101
        replace q101 := eq_true q101
        have p102 : 0 ≤ (x5_1 : Int) := of_decide_eq_true (by first | (with_reducible assumption) | assumption)
        have q102 : x5_1 < (l1.length : Int) := of_decide_eq_true (by first | (with_reducible assumption) | assumption)
        obtain ⟨ad102, e102, hx102_0, hx102_1, hx102_2⟩ := at_T39 HR1.out x5_1 p102 q102
        cases e102
        replace p102 := eq_true p102
        replace q102 := eq_true q102
        go_wp2
        repeat (go_quiet (fail); try go_wp2)
        go_ret
        exact ⟨by first | rfl | (simp; done) | (simp [*]; done), by repeat (first | exact za8.refl _ | apply za8.step)⟩
       ·rw [if_neg c7] at H
        have c7b0 : (!(((zbc l0 x5_1).f0) == ((zbc l1 x5_1).f0)) || (!(((zbc l0 x5_1).f1) == ((zbc l1 x5_1).f1)) || (!(((zbc l0 x5_1).f2) == ((zbc l1 x5_1).f2))))) = false := by simpa using c7
        clear c7
        have H' := zaa.mk H
        clear H
        have p101 : 0 ≤ (x5_1 : Int) := of_decide_eq_true (by first | (with_reducible assumption) | assumption)
        have q101 : x5_1 < (l0.length : Int) := of_decide_eq_true (by first | (with_reducible assumption) | assumption)
        obtain ⟨ad101, e101, hx101_0, hx101_1, hx101_2⟩ := at_T39 HR0.out x5_1 p101 q101
        cases e101
        replace p101 := eq_true p101
        replace q101 := eq_true q101
        have p102 : 0 ≤ (x5_1 : Int) := of_decide_eq_true (by first | (with_reducible assumption) | assumption)
        have q102 : x5_1 < (l1.length : Int) := of_decide_eq_true (by first | (with_reducible assumption) | assumption)
        obtain ⟨ad102, e102, hx102_0, hx102_1, hx102_2⟩ := at_T39 HR1.out x5_1 p102 q102
        cases e102
        replace p102 := eq_true p102
        replace q102 := eq_true q102
        go_wp2
        repeat (go_quiet (fail); try go_wp2)
        go_roundg k1
        case measure => have := HK1.out; omega
        case rel => exact ⟨(wrap64 (x5_1 + 1)), (by first | rfl | (simp; done) | (simp [*]; done)), H', ⟨by have := HK1.out; omega⟩, by repeat (first | exact za8.refl _ | apply za8.step)⟩
      ·rw [if_neg c6] at H
       exact absurd H (by simp)
     ·rw [if_neg c5] at H
      exact absurd H (by simp)
    ·rw [if_neg c4] at H
     have c4b0 : decide (x5_1 < (l0.length : Int)) = false := decide_eq_false c4
     clear c4
     obtain rfl := Option.some.inj H
     go_wp2
     repeat (go_quiet (fail); try go_wp2)
     go_ret
     exact ⟨by first | rfl | (simp; done) | (simp [*]; done), by repeat (first | exact za8.refl _ | apply za8.step)⟩
 ·rw [if_neg c3] at H
  have c3b0 : ((l0.length : Int) == (l1.length : Int)) = false := beq_eq_false_iff_ne.mpr c3
  have c3b1 : ((l0.length : Int) != (l1.length : Int)) = true := bne_iff_ne.mpr c3
  have c3b2 : (l0.length == l1.length) = false := by first | simpa using c3 | (simp at c3 ⊢; omega)
  obtain rfl := Option.some.inj H
  go_enter Try.func8, Try.ntmps8
  go_wp2
  repeat (go_quiet (fail); try go_wp2)
  go_ret
  exact ⟨by first | rfl | (simp; done) | (simp [*]; done), by repeat (first | exact za8.refl _ | apply za8.step)⟩
end Go.Proofs.Ytgdmjpehofdnpaa.PSame
end
section
namespace Go.Proofs.Ytgdmjpehofdnpaa.LAwake
open Go Go.RowKit Go.Shelf Go.Maps Go.Proofs.YtgdmjpehofdnpaaW.PrintWords Go.Proofs.YtgdmjpehofdnpaaW.PrintLast Go.Proofs.Ytgdmjpehofdnpaa.Fl Go.Proofs.Ytgdmjpehofdnpaa.Grow Go.Proofs.Ytgdmjpehofdnpaa.Deri Go.Proofs.Ytgdmjpehofdnpaa.Begin Go.Proofs.Ytgdmjpehofdnpaa.Begun Go.Proofs.Ytgdmjpehofdnpaa.LrK Go.Proofs.Ytgdmjpehofdnpaa.LSeq Go.Proofs.Ytgdmjpehofdnpaa.LLex Go.Proofs.Ytgdmjpehofdnpaa.LFlat Go.Proofs.Ytgdmjpehofdnpaa.LClos Go.Proofs.Ytgdmjpehofdnpaa.LInv Go.Proofs.Ytgdmjpehofdnpaa.LStep Go.Proofs.Ytgdmjpehofdnpaa.LEq Go.Proofs.Ytgdmjpehofdnpaa.LAll
set_option linter.unusedVariables false
set_option linter.unusedSimpArgs false
def ex0 : List ByteArray := [⟨#[120]⟩, ⟨#[121]⟩]
def ex1 : List ByteArray := [⟨#[97]⟩]
def exI (n : Int) : I := (n, ⟨#[]⟩, ⟨#[]⟩)
def exP : List P := [(2, [exI 0, exI 2], 0), (2, [exI 1], 0)]
def exE : List Bool := [false, false, false]
def exF : List (List Int) := [[0], [1], [0, 1]]
def exS0 : List Lr := [(-1, 0, 2), (0, 0, 2), (1, 0, 2)]
def exC : List Lr := [(-1, 0, 2), (1, 0, 2), (0, 0, 2)]
def exA : List (List Lr) := match allV (gotoV 2 exP exE exF 20) 3 20 0 [exS0] with | some (some l) => l | _ => []
def exR : List Lr := match closV 2 exP exE exF 20 [] (stepV 2 exP 2 exS0) with | some l => l | _ => []
theorem ex_e : growV stepD exP 20 (List.replicate 3 false) = some exE := by decide +kernel
theorem ex_f : growV (stepF 3 exE) exP 20 (initV 3 2) = some exF := by decide +kernel
theorem ex_c : closV 2 exP exE exF 20 [] [(-1, 0, 2)] = some exC := by decide +kernel
theorem ex_s : srtL exC = exS0 := by decide +kernel
theorem ex_a : allV (gotoV 2 exP exE exF 20) 3 20 0 [exS0] = some (some exA) := by decide +kernel
theorem exA_len : exA.length = 5 := by decide +kernel
theorem exA_0 : exA[0]? = some exS0 := by decide +kernel
theorem ex_r : closV 2 exP exE exF 20 [] (stepV 2 exP 2 exS0) = some exR := by decide +kernel
theorem exG_len : (srtL exR).length = 1 := by decide +kernel
theorem ex_ps : ∀ p ∈ exP, PrOk 3 p ∧ p.2.1.length ≤ 1000 := by
 intro p hp
 simp only [exP, List.mem_cons, List.not_mem_nil, or_false] at hp
 rcases hp with rfl | rfl
 ·refine ⟨⟨by decide, by decide, ?_⟩, by decide⟩
  intro i hi
  simp only [exI, List.mem_cons, List.not_mem_nil, or_false] at hi
  rcases hi with rfl | rfl <;> exact ⟨by decide, by decide⟩
 ·refine ⟨⟨by decide, by decide, ?_⟩, by decide⟩
  intro i hi
  simp only [exI, List.mem_cons, List.not_mem_nil, or_false] at hi
  subst hi
  exact ⟨by decide, by decide⟩
theorem exC2 {α : Type} {d : Kd α} {W : World} {g : Nat} {t : TypeId} {cs1 cs2 : List Value} {a b : α} (hs1 : cs1.length = d.sz) (hs2 : cs2.length = d.sz) (hb : W.heap[g]? = some (.cells (cs1 ++ cs2).toArray t (0, 0))) (h1 : d.K W a cs1) (h2 : d.K W b cs2) : Kd.C d W (some ⟨g, 0, none⟩) 2 [a, b] := by
 refine ⟨rfl, by decide, fun _ => ⟨_, rfl, fun j p hj => ?_⟩⟩
 match j, hj with
 | 0, hj =>
  cases hj
  refine ⟨cs1, hs1, h1, fun i u hu => ?_⟩
  rw [add_plain, zac hb]
  have hi := (List.getElem?_eq_some_iff.1 hu).1
  rw [List.getElem?_toArray, List.getElem?_append_left (by omega)]
  simpa using hu
 | 1, hj =>
  cases hj
  refine ⟨cs2, hs2, h2, fun i u hu => ?_⟩
  rw [add_plain, zac hb, List.getElem?_toArray, List.getElem?_append_right (by omega), Nat.one_mul, hs1]
  simpa using hu
 | j + 2, hj => simp at hj
theorem exC1 {α : Type} {d : Kd α} {W : World} {g : Nat} {t : TypeId} {cs1 : List Value} {a : α} (hs1 : cs1.length = d.sz) (hb : W.heap[g]? = some (.cells cs1.toArray t (0, 0))) (h1 : d.K W a cs1) : Kd.C d W (some ⟨g, 0, none⟩) 1 [a] := by
 refine ⟨rfl, by decide, fun _ => ⟨_, rfl, fun j p hj => ?_⟩⟩
 match j, hj with
 | 0, hj =>
  cases hj
  refine ⟨cs1, hs1, h1, fun i u hu => ?_⟩
  rw [add_plain, zac hb, List.getElem?_toArray]
  simpa using hu
 | j + 1, hj => simp at hj
theorem exC3 {α : Type} {d : Kd α} {W : World} {g : Nat} {t : TypeId} {cs1 cs2 cs3 : List Value} {a b c : α} (hs1 : cs1.length = d.sz) (hs2 : cs2.length = d.sz) (hs3 : cs3.length = d.sz) (hb : W.heap[g]? = some (.cells (cs1 ++ (cs2 ++ cs3)).toArray t (0, 0))) (h1 : d.K W a cs1) (h2 : d.K W b cs2) (h3 : d.K W c cs3) : Kd.C d W (some ⟨g, 0, none⟩) 3 [a, b, c] := by
 refine ⟨rfl, by decide, fun _ => ⟨_, rfl, fun j p hj => ?_⟩⟩
 match j, hj with
 | 0, hj =>
  cases hj
  refine ⟨cs1, hs1, h1, fun i u hu => ?_⟩
  have hi := (List.getElem?_eq_some_iff.1 hu).1
  rw [add_plain, zac hb, List.getElem?_toArray, List.getElem?_append_left (by omega)]
  simpa using hu
 | 1, hj =>
  cases hj
  refine ⟨cs2, hs2, h2, fun i u hu => ?_⟩
  have hi := (List.getElem?_eq_some_iff.1 hu).1
  rw [add_plain, zac hb, List.getElem?_toArray, List.getElem?_append_right (by omega), List.getElem?_append_left (by omega), Nat.one_mul, hs1]
  simpa using hu
 | 2, hj =>
  cases hj
  refine ⟨cs3, hs3, h3, fun i u hu => ?_⟩
  rw [add_plain, zac hb, List.getElem?_toArray, List.getElem?_append_right (by omega), List.getElem?_append_right (by omega)]
  have e : 2 * d.sz + i - cs1.length - cs2.length = i := by omega
  rw [e]
  exact hu
 | j + 3, hj => simp at hj
theorem C_nine {W : World} {g : Nat} (h : W.heap[g]? = some (.cells #[.int .i64 (-1), .int .i64 0, .int .i64 2, .int .i64 0, .int .i64 0, .int .i64 2, .int .i64 1, .int .i64 0, .int .i64 2] 39 (0, 0))) : Kd.C kLr W (some ⟨g, 0, none⟩) 3 exS0 := by
 have hK : ∀ a b c : Int, kLr.K W ((a, b, c) : Lr) [.int .i64 a, .int .i64 b, .int .i64 c] := fun a b c => ⟨[.int .i64 a], [.int .i64 b, .int .i64 c], rfl, rfl, ⟨[.int .i64 b], [.int .i64 c], rfl, rfl, rfl⟩⟩
 exact exC3 (d := kLr) (cs1 := [.int .i64 (-1), .int .i64 0, .int .i64 2]) (cs2 := [.int .i64 0, .int .i64 0, .int .i64 2]) (cs3 := [.int .i64 1, .int .i64 0, .int .i64 2]) rfl rfl rfl h (hK _ _ _) (hK _ _ _) (hK _ _ _)
def smS (x : Lr) : PSame.S39 := ⟨x.1, x.2.1, x.2.2⟩
theorem ex_same : PSame.zas.f 10 (exS0.map smS) (exS0.map smS) = some true := by decide +kernel
theorem same_calls (A : Option Addr) (c : Nat) (B : Option Addr) (d : Nat) (w : World) (hA : Kd.C kLr w A exS0.length exS0) (hc : exS0.length ≤ c) (hB : Kd.C kLr w B 3 exS0) (hd : 3 ≤ d := by decide) :
  Calls Try.prog 8 #[.slice A exS0.length c, .slice B 3 d] w fun e w' => e = .returned (.bool true) ∧ Below w.heap.size w w' := by
 have h1 := C_of (e := PSame.k39) (f := smS) rfl (fun _ _ _ h => h) hA
 have h2 := C_of (e := PSame.k39) (f := smS) rfl (fun _ _ _ h => h) hB
 refine (PSame.zas.calls 10 A c (exS0.map smS) B d (exS0.map smS) true w h1 hc h2 hd ex_same).mono ?_
 rintro e w' ⟨rfl, ⟨nd, rfl⟩⟩
 exact ⟨rfl, zab (Below.refl _ _) nd⟩
set_option maxRecDepth 100000 in
set_option maxHeartbeats 8000000 in
theorem awake_calls (w : World) : Calls Try.prog 6 #[] w fun e w' => e = .returned (.bool true) ∧ Below w.heap.size w w' := by
 obtain ⟨W1, hW1⟩ : ∃ X, w.alloc (.cells #[.string ⟨#[120]⟩, .string ⟨#[121]⟩] 9) = X := ⟨_, rfl⟩
 obtain ⟨g1, hg1⟩ : ∃ b, W1.heap.size = b := ⟨_, rfl⟩
 obtain ⟨W2, hW2⟩ : ∃ X, W1.alloc (.cells #[.string ⟨#[97]⟩] 9) = X := ⟨_, rfl⟩
 obtain ⟨g2, hg2⟩ : ∃ b, W2.heap.size = b := ⟨_, rfl⟩
 obtain ⟨W3, hW3⟩ : ∃ X, W2.alloc (.cells #[.int .i64 0, .string ⟨#[]⟩, .string ⟨#[]⟩, .int .i64 2, .string ⟨#[]⟩, .string ⟨#[]⟩] 43) = X := ⟨_, rfl⟩
 obtain ⟨g3, hg3⟩ : ∃ b, W3.heap.size = b := ⟨_, rfl⟩
 obtain ⟨W4, hW4⟩ : ∃ X, W3.alloc (.cells #[.int .i64 1, .string ⟨#[]⟩, .string ⟨#[]⟩] 43) = X := ⟨_, rfl⟩
 obtain ⟨g4, hg4⟩ : ∃ b, W4.heap.size = b := ⟨_, rfl⟩
 obtain ⟨W5, hW5⟩ : ∃ X, W4.alloc (.cells #[.int .i64 2, .slice (some ⟨g2, 0, none⟩) 2 2, .int .i64 0, .int .i64 2, .slice (some ⟨g3, 0, none⟩) 1 1, .int .i64 0] 46) = X := ⟨_, rfl⟩
 obtain ⟨b5, hb5⟩ : ∃ b, W5.heap.size = b := ⟨_, rfl⟩
 obtain ⟨W6, hW6⟩ : ∃ X, W5.alloc (.cells #[.slice (some ⟨w.heap.size, 0, none⟩) 2 2, .slice (some ⟨g1, 0, none⟩) 1 1, .slice (some ⟨g4, 0, none⟩) 2 2] 25) = X := ⟨_, rfl⟩
 have k1 : W1.heap[w.heap.size]? = some (.cells #[.string ⟨#[120]⟩, .string ⟨#[121]⟩] 9 (0, 0)) := by rw [← hW1]; exact zbe _ _
 have k2 : W2.heap[g1]? = some (.cells #[.string ⟨#[97]⟩] 9 (0, 0)) := by rw [← hW2, ← hg1]; exact zbe _ _
 have k3 : W3.heap[g2]? = some (.cells #[.int .i64 0, .string ⟨#[]⟩, .string ⟨#[]⟩, .int .i64 2, .string ⟨#[]⟩, .string ⟨#[]⟩] 43 (0, 0)) := by rw [← hW3, ← hg2]; exact zbe _ _
 have k4 : W4.heap[g3]? = some (.cells #[.int .i64 1, .string ⟨#[]⟩, .string ⟨#[]⟩] 43 (0, 0)) := by rw [← hW4, ← hg3]; exact zbe _ _
 have k5 : W5.heap[g4]? = some (.cells #[.int .i64 2, .slice (some ⟨g2, 0, none⟩) 2 2, .int .i64 0, .int .i64 2, .slice (some ⟨g3, 0, none⟩) 1 1, .int .i64 0] 46 (0, 0)) := by rw [← hW5, ← hg4]; exact zbe _ _
 have k6 : W6.heap[b5]? = some (.cells #[.slice (some ⟨w.heap.size, 0, none⟩) 2 2, .slice (some ⟨g1, 0, none⟩) 1 1, .slice (some ⟨g4, 0, none⟩) 2 2] 25 (0, 0)) := by rw [← hW6, ← hb5]; exact zbe _ _
 have e1 : Below w.heap.size w W1 := by rw [← hW1]; exact (Below.refl _ _).alloc (Nat.le_refl _) _
 have e2 : Below W1.heap.size W1 W2 := by rw [← hW2]; exact (Below.refl _ _).alloc (Nat.le_refl _) _
 have e3 : Below W2.heap.size W2 W3 := by rw [← hW3]; exact (Below.refl _ _).alloc (Nat.le_refl _) _
 have e4 : Below W3.heap.size W3 W4 := by rw [← hW4]; exact (Below.refl _ _).alloc (Nat.le_refl _) _
 have e5 : Below W4.heap.size W4 W5 := by rw [← hW5]; exact (Below.refl _ _).alloc (Nat.le_refl _) _
 have e6 : Below W5.heap.size W5 W6 := by rw [← hW6]; exact (Below.refl _ _).alloc (Nat.le_refl _) _
 have kI : ∀ n : Int, ∀ W, Fl.kI.K W (exI n) [.int .i64 n, .string ⟨#[]⟩, .string ⟨#[]⟩] := fun n W => ⟨[.int .i64 n], [.string ⟨#[]⟩, .string ⟨#[]⟩], rfl, rfl, ⟨[.string ⟨#[]⟩], [.string ⟨#[]⟩], rfl, rfl, rfl⟩⟩
 have hK : (⟨some ⟨w.heap.size, 0, none⟩, some ⟨g1, 0, none⟩, some ⟨g4, 0, none⟩, 2, 1, 2, ex0, ex1, exP⟩ : FG).K W6 := by
  refine ⟨exC2 (cs1 := [.string ⟨#[120]⟩]) (cs2 := [.string ⟨#[121]⟩]) rfl rfl (zaq (zaq (zaq (zaq (zaq k1 e2) e3) e4) e5) e6) rfl rfl, Nat.le_refl _, exC1 (cs1 := [.string ⟨#[97]⟩]) rfl (zaq (zaq (zaq (zaq k2 e3) e4) e5) e6) rfl, Nat.le_refl _, ?_, Nat.le_refl _⟩
  refine exC2 (d := kP) (cs1 := [.int .i64 2, .slice (some ⟨g2, 0, none⟩) 2 2, .int .i64 0]) (cs2 := [.int .i64 2, .slice (some ⟨g3, 0, none⟩) 1 1, .int .i64 0]) rfl rfl (zaq k5 e6) ?_ ?_
  ·exact ⟨[.int .i64 2], [.slice (some ⟨g2, 0, none⟩) 2 2, .int .i64 0], rfl, rfl, ⟨[.slice (some ⟨g2, 0, none⟩) 2 2], [.int .i64 0], rfl, ⟨_, 2, rfl, Nat.le_refl _, exC2 (d := Fl.kI) (cs1 := [.int .i64 0, .string ⟨#[]⟩, .string ⟨#[]⟩]) (cs2 := [.int .i64 2, .string ⟨#[]⟩, .string ⟨#[]⟩]) rfl rfl (zaq (zaq (zaq k3 e4) e5) e6) (kI 0 _) (kI 2 _)⟩, rfl⟩⟩
  ·exact ⟨[.int .i64 2], [.slice (some ⟨g3, 0, none⟩) 1 1, .int .i64 0], rfl, rfl, ⟨[.slice (some ⟨g3, 0, none⟩) 1 1], [.int .i64 0], rfl, ⟨_, 1, rfl, Nat.le_refl _, exC1 (d := Fl.kI) (cs1 := [.int .i64 1, .string ⟨#[]⟩, .string ⟨#[]⟩]) rfl (zaq (zaq k4 e5) e6) (kI 1 _)⟩, rfl⟩⟩
 have hr : Rdy (⟨some ⟨w.heap.size, 0, none⟩, some ⟨g1, 0, none⟩, some ⟨g4, 0, none⟩, 2, 1, 2, ex0, ex1, exP⟩ : FG) 20 exE exF := ⟨by show (2 : Nat) + 1 ≤ 999999; decide, by show (1 : Nat) ≤ ex1.length; decide, by show exP.length ≤ 1000000; decide, ex_ps, ex_e, ex_f⟩
 have hs0 : startV 2 exP exE exF 20 = some exS0 := by unfold startV; rw [show ((2 : Nat) : Int) = 2 from rfl, ex_c, Option.map_some, ex_s]
 have hall := allF_calls _ W6 hK 20 exE exF hr 3 rfl exS0 hs0 (by decide) (some exA) ex_a
 have hfirst := fun W (hb : Below W6.heap.size W6 W) => firstF_calls _ W (hK.below hb) 20 exE exF hr exC ex_c
 have hgt := fun A c W (hb : Below W6.heap.size W6 W) (hC : Kd.C kLr W A exS0.length exS0) => gotoF_calls _ W (hK.below hb) 20 exE exF hr exS0 A c 2 hC (by decide) exR ex_r
 have h6w : Below w.heap.size w W6 := by
  have h2 := e1.trans (e2.mono e1.size)
  have h3 := h2.trans (e3.mono h2.size)
  have h4 := h3.trans (e4.mono h3.size)
  have h5 := h4.trans (e5.mono h4.size)
  exact h5.trans (e6.mono h5.size)
 rw [ex_s] at hfirst
 have c0 : W6.cell? ⟨b5, 0, none⟩ = some (.slice (some ⟨w.heap.size, 0, none⟩) 2 2) := zac k6 0
 have c1 : W6.cell? ⟨b5, 1, none⟩ = some (.slice (some ⟨g1, 0, none⟩) 1 1) := zac k6 1
 have c2 : W6.cell? ⟨b5, 2, none⟩ = some (.slice (some ⟨g4, 0, none⟩) 2 2) := zac k6 2
 have K6 := Lib.hid k6
 simp only [FG.val, FG.row, show ex0.length = 2 from rfl, show ex1.length = 1 from rfl, show exP.length = 2 from rfl] at hall hfirst hgt
 clear hK hr hs0 k1 k2 k3 k4 k5 k6 e1 e2 e3 e4 e5 e6 kI
 go_enter Try.func6, Try.ntmps6
 go_wp2_with (go_at_call 7; refine hall.mono ?_; rintro e W7 ⟨v7, n7, rfl, rfl, hR7, hB7⟩; obtain ⟨A7, c7, rfl⟩ := Kd.zby hR7; obtain ⟨_, _, hC7⟩ := Kd.R_reads' hR7; rw [show (some exA).getD [] = exA from rfl, exA_len] at hC7; rw [show (some exA).getD [] = exA from rfl, exA_len]; rw [show errV (some exA) = 0 from rfl])
 rename_i K3 hK3
 obtain ⟨ad7', a0, A70, c70, rfl, ha0, hl70, f70, hC70⟩ := atLs hC7 0 (by decide)
 rw [exA_0] at ha0
 obtain rfl := Option.some.inj ha0
 obtain ⟨ad7, h7⟩ : ∃ a, ad7' = a := ⟨_, rfl⟩
 subst h7
 have f7 : W7.cell? ad7' = some (.slice A70 exS0.length c70) := by simpa [Addr.add] using f70
 obtain ⟨Wd, hWd⟩ : ∃ X, W7.drew = X := ⟨_, rfl⟩
 have hb7d : Below W7.heap.size W7 Wd := by rw [← hWd]; exact zba (Below.refl _ _)
 have hbd : Below W6.heap.size W6 Wd := hB7.trans (hb7d.mono hB7.size)
 have hHeld : (fun X => X.cell? ⟨b5, 0, none⟩ = some (.slice (some ⟨w.heap.size, 0, none⟩) 2 2) ∧ X.cell? ⟨b5, 1, none⟩ = some (.slice (some ⟨g1, 0, none⟩) 1 1) ∧ X.cell? ⟨b5, 2, none⟩ = some (.slice (some ⟨g4, 0, none⟩) 2 2) ∧ X.cell? ad7' = some (.slice A70 exS0.length c70)) Wd := ⟨zao hbd c0, zao hbd c1, zao hbd c2, zao hb7d f7⟩
 have hb0 : Below Wd.heap.size Wd Wd := Below.refl _ _
 have hHeldX : (fun X => X.cell? ⟨b5, 0, none⟩ = some (.slice (some ⟨w.heap.size, 0, none⟩) 2 2) ∧ X.cell? ⟨b5, 1, none⟩ = some (.slice (some ⟨g1, 0, none⟩) 1 1) ∧ X.cell? ⟨b5, 2, none⟩ = some (.slice (some ⟨g4, 0, none⟩) 2 2) ∧ X.cell? ad7' = some (.slice A70 exS0.length c70)) W7.drew := by rw [hWd]; exact hHeld
 have keep3 : ∀ X Y : World, Below X.heap.size X Y → (fun X => X.cell? ⟨b5, 0, none⟩ = some (.slice (some ⟨w.heap.size, 0, none⟩) 2 2) ∧ X.cell? ⟨b5, 1, none⟩ = some (.slice (some ⟨g1, 0, none⟩) 1 1) ∧ X.cell? ⟨b5, 2, none⟩ = some (.slice (some ⟨g4, 0, none⟩) 2 2) ∧ X.cell? ad7' = some (.slice A70 exS0.length c70)) X → (fun X => X.cell? ⟨b5, 0, none⟩ = some (.slice (some ⟨w.heap.size, 0, none⟩) 2 2) ∧ X.cell? ⟨b5, 1, none⟩ = some (.slice (some ⟨g1, 0, none⟩) 1 1) ∧ X.cell? ⟨b5, 2, none⟩ = some (.slice (some ⟨g4, 0, none⟩) 2 2) ∧ X.cell? ad7' = some (.slice A70 exS0.length c70)) Y := fun X Y h hh => ⟨zao h hh.1, zao h hh.2.1, zao h hh.2.2.1, zao h hh.2.2.2⟩
 have hfirst := fun W (hb : Below Wd.heap.size Wd W) => hfirst W (hbd.trans (hb.mono hbd.size))
 have hgoto := fun W (hb : Below Wd.heap.size Wd W) => hgt A70 c70 W (hbd.trans (hb.mono hbd.size)) (Kd.zax (Kd.zax hC70 hb7d) hb)
 refine Ahd.wp_qz (zbw (S := (fun X => X.cell? ⟨b5, 0, none⟩ = some (.slice (some ⟨w.heap.size, 0, none⟩) 2 2) ∧ X.cell? ⟨b5, 1, none⟩ = some (.slice (some ⟨g1, 0, none⟩) 1 1) ∧ X.cell? ⟨b5, 2, none⟩ = some (.slice (some ⟨g4, 0, none⟩) 2 2) ∧ X.cell? ad7' = some (.slice A70 exS0.length c70))) (ds := []) #[Nf,Nf,Nf,Nf,Nf,Nf,Nf,Nf,Nf,Nf,Nf,Nf,Nf,Nf,Nf,Nf,Nf,Nf,Nf,Nf,Nf,Nf,Nf,Nf,Nf,Nf] (by kernel_rfl) rfl rfl hHeldX (fun h0_ => ?_))
 clear h0_
 rw [hWd]
 refine take_ (i := 0) (N := (some 20)) (v := ?_) (a' := ?_) #[Yt,Nf,Nf,Nf,Nf,Nf,Nf,Nf,Nf,Nf,Nf,Nf,Nf,Nf,Nf,Nf,Nf,Nf,Nf,Nf,Nf,Nf,Nf,Nf,Nf,Nf] rfl rfl (by kernel_rfl) (fun _ _ _ h => h) (Or.inl ⟨by rfl, ?_⟩) hHeld ?_ ?_
 rotate_left
 ·rintro w' ⟨s0, s1, s2, s3⟩
  go_simp
  with_reducible rfl
 rotate_left
 ·simp only [Act.put, Y1, Y2, Y3]
  rfl
 refine pure_ (i := 2) (N := (some 22)) (v := ?_) (a' := ?_) #[Yt,Nf,Yt,Nf,Nf,Nf,Nf,Nf,Nf,Nf,Nf,Nf,Nf,Nf,Nf,Nf,Nf,Nf,Nf,Nf,Nf,Nf,Nf,Nf,Nf,Nf] rfl rfl (by kernel_rfl) (fun _ _ _ h => h) (Or.inl ⟨by rfl, ?_⟩) ?_ ?_
 rotate_left
 ·intro w'
  go_simp
  with_reducible rfl
 rotate_left
 ·simp only [Act.put, Y1, Y2, Y3]
  rfl
 refine pure_ (i := 3) (N := (some 23)) (v := ?_) (a' := ?_) #[Yt,Nf,Yt,Yt,Nf,Nf,Nf,Nf,Nf,Nf,Nf,Nf,Nf,Nf,Nf,Nf,Nf,Nf,Nf,Nf,Nf,Nf,Nf,Nf,Nf,Nf] rfl rfl (by kernel_rfl) (fun _ _ _ h => h) (Or.inl ⟨by rfl, ?_⟩) ?_ ?_
 rotate_left
 ·intro w'
  go_simp
  with_reducible rfl
 rotate_left
 ·simp only [Act.put, Y1, Y2, Y3]
  rfl
 refine pure_ (i := 4) (N := (some 24)) (v := ?_) (a' := ?_) #[Yt,Nf,Yt,Yt,Yt,Nf,Nf,Nf,Nf,Nf,Nf,Nf,Nf,Nf,Nf,Nf,Nf,Nf,Nf,Nf,Nf,Nf,Nf,Nf,Nf,Nf] rfl rfl (by kernel_rfl) (fun _ _ _ h => h) (Or.inl ⟨by rfl, ?_⟩) ?_ ?_
 rotate_left
 ·intro w'
  go_simp
  with_reducible rfl
 rotate_left
 ·simp only [Act.put, Y1, Y2, Y3]
  rfl
 refine join_ (σ := Option Addr × Nat × Nat) 20 #[Yt,Yt,Yt,Yt,Yt,Yt,Nf,Nf,Nf,Nf,Nf,Nf,Nf,Nf,Nf,Nf,Nf,Nf,Nf,Nf,Nf,Nf,Nf,Nf,Nf,Nf] (fun s => [(21, .slice s.1 exS0.length s.2.1), (25, .slice (some ⟨s.2.2, 0, none⟩) 3 3)]) (fun s w' => Below Wd.heap.size Wd w' ∧ Kd.C kLr w' s.1 exS0.length exS0 ∧ exS0.length ≤ s.2.1 ∧ w'.heap[s.2.2]? = some (.cells #[.int .i64 (-1), .int .i64 0, .int .i64 2, .int .i64 0, .int .i64 0, .int .i64 2, .int .i64 1, .int .i64 0, .int .i64 2] 39 (0, 0)) ∧ (fun X => X.cell? ⟨b5, 0, none⟩ = some (.slice (some ⟨w.heap.size, 0, none⟩) 2 2) ∧ X.cell? ⟨b5, 1, none⟩ = some (.slice (some ⟨g1, 0, none⟩) 1 1) ∧ X.cell? ⟨b5, 2, none⟩ = some (.slice (some ⟨g4, 0, none⟩) 2 2) ∧ X.cell? ad7' = some (.slice A70 exS0.length c70)) w') ?_ ?_
 rotate_left
 ·intro hCont
  refine two_ (i := 1) (j := 5) (Ni := (some 21)) (Nj := (some 25)) #[Yt,Yt,Yt,Yt,Yt,Nf,Nf,Nf,Nf,Nf,Nf,Nf,Nf,Nf,Nf,Nf,Nf,Nf,Nf,Nf,Nf,Nf,Nf,Nf,Nf,Nf] #[Yt,Nf,Yt,Yt,Yt,Yt,Nf,Nf,Nf,Nf,Nf,Nf,Nf,Nf,Nf,Nf,Nf,Nf,Nf,Nf,Nf,Nf,Nf,Nf,Nf,Nf] rfl rfl rfl rfl (by kernel_rfl) (by decide) (by decide) (fun K hK => ?_) (fun K hK => ?_)
  ·skip
   refine goes_ Try.func9 (by kernel_rfl) rfl #[.agg #[.slice (some ⟨w.heap.size, 0, none⟩) 2 2, .slice (some ⟨g1, 0, none⟩) 1 1, .slice (some ⟨g4, 0, none⟩) 2 2]] (by rfl) rfl rfl (by first | rfl | (simp [Act.eval]; done) | (simp [go_sem]; done)) ?_
   refine (hfirst Wd hb0).mono ?_
   rintro e W8 ⟨v8, rfl, hR8, hB8⟩
   obtain ⟨A8, c8, rfl, hl8, hC8⟩ := Kd.R_reads hR8
   refine ⟨_, rfl, ?_⟩
   have hb8 := hb0.trans (hB8.mono hb0.size)
   have hh8 := keep3 _ _ hB8 hHeld
   refine hK.out _ _ hh8 (fun h0_ => ?_)
   clear hK K h0_
   refine norm_ (a' := ?_) ?_ ?_
   rotate_left
   ·show Act.put _ (some 21) _ = _
    simp only [Act.put, Y1, Y2, Y3]
    rfl
   refine one_ (i := 5) (N := (some 25)) #[Yt,Yt,Yt,Yt,Yt,Yt,Nf,Nf,Nf,Nf,Nf,Nf,Nf,Nf,Nf,Nf,Nf,Nf,Nf,Nf,Nf,Nf,Nf,Nf,Nf,Nf] rfl rfl (by kernel_rfl) (by decide) (fun K hK => ?_)
   refine zb5 (w1 := W8.alloc (.cells #[.int .i64 (-1), .int .i64 0, .int .i64 2, .int .i64 0, .int .i64 0, .int .i64 2, .int .i64 1, .int .i64 0, .int .i64 2] 39)) (v := .slice (some ⟨W8.heap.size, 0, none⟩) 3 3) (by rfl) rfl ?_ ?_
   ·go_simp
   obtain ⟨W9, hW9⟩ : ∃ X, W8.alloc (.cells #[.int .i64 (-1), .int .i64 0, .int .i64 2, .int .i64 0, .int .i64 0, .int .i64 2, .int .i64 1, .int .i64 0, .int .i64 2] 39) = X := ⟨_, rfl⟩
   have bb9 : W9.heap[W8.heap.size]? = some (.cells #[.int .i64 (-1), .int .i64 0, .int .i64 2, .int .i64 0, .int .i64 0, .int .i64 2, .int .i64 1, .int .i64 0, .int .i64 2] 39 (0, 0)) := by rw [← hW9]; exact zbe _ _
   have hB9 : Below W8.heap.size W8 W9 := by rw [← hW9]; exact (Below.refl _ _).alloc (Nat.le_refl _) _
   rw [hW9]
   clear hW9
   have hb9 := hb8.trans (hB9.mono hb8.size)
   have hh9 := keep3 _ _ hB9 hh8
   refine hK.out _ _ hh9 (fun h0_ => ?_)
   clear hK K h0_
   refine norm_ (a' := ?_) ?_ ?_
   rotate_left
   ·show Act.put _ (some 25) _ = _
    simp only [Act.put, Y1, Y2, Y3]
    rfl
   exact norm_ (by first | (simp only [putAll, Act.put, Y1, Y2, Y3]; done) | (simp only [putAll, Act.put, Y1, Y2, Y3]; rfl)) (hCont (A8, c8, W8.heap.size) _ ⟨hb9, Kd.zax hC8 hB9, hl8, bb9, hh9⟩)
  ·skip
   refine zb5 (w1 := Wd.alloc (.cells #[.int .i64 (-1), .int .i64 0, .int .i64 2, .int .i64 0, .int .i64 0, .int .i64 2, .int .i64 1, .int .i64 0, .int .i64 2] 39)) (v := .slice (some ⟨Wd.heap.size, 0, none⟩) 3 3) (by rfl) rfl ?_ ?_
   ·go_simp
   obtain ⟨W9, hW9⟩ : ∃ X, Wd.alloc (.cells #[.int .i64 (-1), .int .i64 0, .int .i64 2, .int .i64 0, .int .i64 0, .int .i64 2, .int .i64 1, .int .i64 0, .int .i64 2] 39) = X := ⟨_, rfl⟩
   have bb9 : W9.heap[Wd.heap.size]? = some (.cells #[.int .i64 (-1), .int .i64 0, .int .i64 2, .int .i64 0, .int .i64 0, .int .i64 2, .int .i64 1, .int .i64 0, .int .i64 2] 39 (0, 0)) := by rw [← hW9]; exact zbe _ _
   have hB9 : Below Wd.heap.size Wd W9 := by rw [← hW9]; exact (Below.refl _ _).alloc (Nat.le_refl _) _
   rw [hW9]
   clear hW9
   have hb9 := hb0.trans (hB9.mono hb0.size)
   have hh9 := keep3 _ _ hB9 hHeld
   refine hK.out _ _ hh9 (fun h0_ => ?_)
   clear hK K h0_
   refine norm_ (a' := ?_) ?_ ?_
   rotate_left
   ·show Act.put _ (some 25) _ = _
    simp only [Act.put, Y1, Y2, Y3]
    rfl
   refine one_ (i := 1) (N := (some 21)) #[Yt,Yt,Yt,Yt,Yt,Yt,Nf,Nf,Nf,Nf,Nf,Nf,Nf,Nf,Nf,Nf,Nf,Nf,Nf,Nf,Nf,Nf,Nf,Nf,Nf,Nf] rfl rfl (by kernel_rfl) (by decide) (fun K hK => ?_)
   refine goes_ Try.func9 (by kernel_rfl) rfl #[.agg #[.slice (some ⟨w.heap.size, 0, none⟩) 2 2, .slice (some ⟨g1, 0, none⟩) 1 1, .slice (some ⟨g4, 0, none⟩) 2 2]] (by rfl) rfl rfl (by first | rfl | (simp [Act.eval]; done) | (simp [go_sem]; done)) ?_
   refine (hfirst W9 hb9).mono ?_
   rintro e W8 ⟨v8, rfl, hR8, hB8⟩
   obtain ⟨A8, c8, rfl, hl8, hC8⟩ := Kd.R_reads hR8
   refine ⟨_, rfl, ?_⟩
   have hb8 := hb9.trans (hB8.mono hb9.size)
   have hh8 := keep3 _ _ hB8 hh9
   refine hK.out _ _ hh8 (fun h0_ => ?_)
   clear hK K h0_
   refine norm_ (a' := ?_) ?_ ?_
   rotate_left
   ·show Act.put _ (some 21) _ = _
    simp only [Act.put, Y1, Y2, Y3]
    rfl
   exact norm_ (by first | (simp only [putAll, Act.put, Y1, Y2, Y3]; done) | (simp only [putAll, Act.put, Y1, Y2, Y3]; rfl)) (hCont (A8, c8, Wd.heap.size) _ ⟨hb8, hC8, hl8, zaq bb9 hB8, hh8⟩)
 rintro ⟨A8, c8, g9⟩ W10 ⟨hb10, hC8, hl8, hg9, hh10⟩
 refine norm_ (a' := ?_) ?_ ?_
 rotate_left
 ·simp only [putAll, Act.put, Y1, Y2, Y3]
  rfl
 refine one_ (i := 6) (N := (some 26)) #[Yt,Yt,Yt,Yt,Yt,Yt,Yt,Nf,Nf,Nf,Nf,Nf,Nf,Nf,Nf,Nf,Nf,Nf,Nf,Nf,Nf,Nf,Nf,Nf,Nf,Nf] rfl rfl (by kernel_rfl) (by decide) (fun K hK => ?_)
 refine goes_ Try.func8 (by kernel_rfl) rfl #[.slice A8 exS0.length c8, .slice (some ⟨g9, 0, none⟩) 3 3] (by rfl) rfl rfl (by first | rfl | (simp [Act.eval]; done) | (simp [go_sem]; done)) ?_
 refine (same_calls A8 c8 (some ⟨g9, 0, none⟩) 3 W10 hC8 hl8 (C_nine hg9)).mono ?_
 rintro e W11 ⟨rfl, hB11⟩
 refine ⟨_, rfl, ?_⟩
 have hb11 := hb10.trans (hB11.mono hb10.size)
 have hh11 := keep3 _ _ hB11 hh10
 refine hK.out _ _ hh11 (fun h0_ => ?_)
 clear hK K h0_
 refine pure_ (i := 7) (N := (some 27)) (v := ?_) (a' := ?_) #[Yt,Yt,Yt,Yt,Yt,Yt,Yt,Yt,Nf,Nf,Nf,Nf,Nf,Nf,Nf,Nf,Nf,Nf,Nf,Nf,Nf,Nf,Nf,Nf,Nf,Nf] rfl rfl (by kernel_rfl) (fun _ _ _ h => h) (Or.inl ⟨by rfl, ?_⟩) ?_ ?_
 rotate_left
 ·intro w'
  go_simp
  with_reducible rfl
 rotate_left
 ·simp only [Act.put, Y1, Y2, Y3]
  rfl
 refine pure_ (i := 8) (N := (some 28)) (v := ?_) (a' := ?_) #[Yt,Yt,Yt,Yt,Yt,Yt,Yt,Yt,Yt,Nf,Nf,Nf,Nf,Nf,Nf,Nf,Nf,Nf,Nf,Nf,Nf,Nf,Nf,Nf,Nf,Nf] rfl rfl (by kernel_rfl) (fun _ _ _ h => h) (Or.inl ⟨by rfl, ?_⟩) ?_ ?_
 rotate_left
 ·intro w'
  go_simp
  with_reducible rfl
 rotate_left
 ·simp only [Act.put, Y1, Y2, Y3]
  rfl
 refine pure_ (i := 9) (N := (some 29)) (v := ?_) (a' := ?_) #[Yt,Yt,Yt,Yt,Yt,Yt,Yt,Yt,Yt,Yt,Nf,Nf,Nf,Nf,Nf,Nf,Nf,Nf,Nf,Nf,Nf,Nf,Nf,Nf,Nf,Nf] rfl rfl (by kernel_rfl) (fun _ _ _ h => h) (Or.inl ⟨by rfl, ?_⟩) ?_ ?_
 rotate_left
 ·intro w'
  go_simp
  with_reducible rfl
 rotate_left
 ·simp only [Act.put, Y1, Y2, Y3]
  rfl
 refine pure_ (i := 10) (N := (some 30)) (v := ?_) (a' := ?_) #[Yt,Yt,Yt,Yt,Yt,Yt,Yt,Yt,Yt,Yt,Yt,Nf,Nf,Nf,Nf,Nf,Nf,Nf,Nf,Nf,Nf,Nf,Nf,Nf,Nf,Nf] rfl rfl (by kernel_rfl) (fun _ _ _ h => h) (Or.inl ⟨by rfl, ?_⟩) ?_ ?_
 rotate_left
 ·intro w'
  go_simp
  with_reducible rfl
 rotate_left
 ·simp only [Act.put, Y1, Y2, Y3]
  rfl
 refine pure_ (i := 11) (N := (some 31)) (v := ?_) (a' := ?_) #[Yt,Yt,Yt,Yt,Yt,Yt,Yt,Yt,Yt,Yt,Yt,Yt,Nf,Nf,Nf,Nf,Nf,Nf,Nf,Nf,Nf,Nf,Nf,Nf,Nf,Nf] rfl rfl (by kernel_rfl) (fun _ _ _ h => h) (Or.inl ⟨by rfl, ?_⟩) ?_ ?_
 rotate_left
 ·intro w'
  go_simp
  with_reducible rfl
 rotate_left
 ·simp only [Act.put, Y1, Y2, Y3]
  rfl
 refine pure_ (i := 12) (N := (some 32)) (v := ?_) (a' := ?_) #[Yt,Yt,Yt,Yt,Yt,Yt,Yt,Yt,Yt,Yt,Yt,Yt,Yt,Nf,Nf,Nf,Nf,Nf,Nf,Nf,Nf,Nf,Nf,Nf,Nf,Nf] rfl rfl (by kernel_rfl) (fun _ _ _ h => h) (Or.inl ⟨by rfl, ?_⟩) ?_ ?_
 rotate_left
 ·intro w'
  go_simp
  with_reducible rfl
 rotate_left
 ·simp only [Act.put, Y1, Y2, Y3]
  rfl
 refine pure_ (i := 13) (N := (some 33)) (v := ?_) (a' := ?_) #[Yt,Yt,Yt,Yt,Yt,Yt,Yt,Yt,Yt,Yt,Yt,Yt,Yt,Yt,Nf,Nf,Nf,Nf,Nf,Nf,Nf,Nf,Nf,Nf,Nf,Nf] rfl rfl (by kernel_rfl) (fun _ _ _ h => h) (Or.inl ⟨by rfl, ?_⟩) ?_ ?_
 rotate_left
 ·intro w'
  go_simp
  with_reducible rfl
 rotate_left
 ·simp only [Act.put, Y1, Y2, Y3]
  rfl
 refine pure_ (i := 14) (N := (some 34)) (v := ?_) (a' := ?_) #[Yt,Yt,Yt,Yt,Yt,Yt,Yt,Yt,Yt,Yt,Yt,Yt,Yt,Yt,Yt,Nf,Nf,Nf,Nf,Nf,Nf,Nf,Nf,Nf,Nf,Nf] rfl rfl (by kernel_rfl) (fun _ _ _ h => h) (Or.inl ⟨by rfl, ?_⟩) ?_ ?_
 rotate_left
 ·intro w'
  go_simp
  with_reducible rfl
 rotate_left
 ·simp only [Act.put, Y1, Y2, Y3]
  rfl
 refine pure_ (i := 15) (N := (some 35)) (v := ?_) (a' := ?_) #[Yt,Yt,Yt,Yt,Yt,Yt,Yt,Yt,Yt,Yt,Yt,Yt,Yt,Yt,Yt,Yt,Nf,Nf,Nf,Nf,Nf,Nf,Nf,Nf,Nf,Nf] rfl rfl (by kernel_rfl) (fun _ _ _ h => h) (Or.inl ⟨by rfl, ?_⟩) ?_ ?_
 rotate_left
 ·intro w'
  go_simp
  with_reducible rfl
 rotate_left
 ·simp only [Act.put, Y1, Y2, Y3]
  rfl
 refine pure_ (i := 16) (N := (some 36)) (v := ?_) (a' := ?_) #[Yt,Yt,Yt,Yt,Yt,Yt,Yt,Yt,Yt,Yt,Yt,Yt,Yt,Yt,Yt,Yt,Yt,Nf,Nf,Nf,Nf,Nf,Nf,Nf,Nf,Nf] rfl rfl (by kernel_rfl) (fun _ _ _ h => h) (Or.inl ⟨by rfl, ?_⟩) ?_ ?_
 rotate_left
 ·intro w'
  go_simp
  with_reducible rfl
 rotate_left
 ·simp only [Act.put, Y1, Y2, Y3]
  rfl
 refine take_ (i := 17) (N := (some 37)) (v := ?_) (a' := ?_) #[Yt,Yt,Yt,Yt,Yt,Yt,Yt,Yt,Yt,Yt,Yt,Yt,Yt,Yt,Yt,Yt,Yt,Yt,Nf,Nf,Nf,Nf,Nf,Nf,Nf,Nf] rfl rfl (by kernel_rfl) (fun _ _ _ h => h) (Or.inl ⟨by rfl, ?_⟩) hh11 ?_ ?_
 rotate_left
 ·rintro w' ⟨s0, s1, s2, s3⟩
  go_simp
  with_reducible rfl
 rotate_left
 ·simp only [Act.put, Y1, Y2, Y3]
  rfl
 refine pure_ (i := 18) (N := (some 38)) (v := ?_) (a' := ?_) #[Yt,Yt,Yt,Yt,Yt,Yt,Yt,Yt,Yt,Yt,Yt,Yt,Yt,Yt,Yt,Yt,Yt,Yt,Yt,Nf,Nf,Nf,Nf,Nf,Nf,Nf] rfl rfl (by kernel_rfl) (fun _ _ _ h => h) (Or.inl ⟨by rfl, ?_⟩) ?_ ?_
 rotate_left
 ·intro w'
  go_simp
  with_reducible rfl
 rotate_left
 ·simp only [Act.put, Y1, Y2, Y3]
  rfl
 refine pure_ (i := 19) (N := (some 39)) (v := ?_) (a' := ?_) #[Yt,Yt,Yt,Yt,Yt,Yt,Yt,Yt,Yt,Yt,Yt,Yt,Yt,Yt,Yt,Yt,Yt,Yt,Yt,Yt,Nf,Nf,Nf,Nf,Nf,Nf] rfl rfl (by kernel_rfl) (fun _ _ _ h => h) (Or.inl ⟨by rfl, ?_⟩) ?_ ?_
 rotate_left
 ·intro w'
  go_simp
  with_reducible rfl
 rotate_left
 ·simp only [Act.put, Y1, Y2, Y3]
  rfl
 refine take_ (i := 20) (N := (some 40)) (v := ?_) (a' := ?_) #[Yt,Yt,Yt,Yt,Yt,Yt,Yt,Yt,Yt,Yt,Yt,Yt,Yt,Yt,Yt,Yt,Yt,Yt,Yt,Yt,Yt,Nf,Nf,Nf,Nf,Nf] rfl rfl (by kernel_rfl) (fun _ _ _ h => h) (Or.inl ⟨by rfl, ?_⟩) hh11 ?_ ?_
 rotate_left
 ·rintro w' ⟨s0, s1, s2, s3⟩
  go_simp
  with_reducible rfl
 rotate_left
 ·simp only [Act.put, Y1, Y2, Y3]
  rfl
 refine one_ (i := 21) (N := (some 41)) #[Yt,Yt,Yt,Yt,Yt,Yt,Yt,Yt,Yt,Yt,Yt,Yt,Yt,Yt,Yt,Yt,Yt,Yt,Yt,Yt,Yt,Yt,Nf,Nf,Nf,Nf] rfl rfl (by kernel_rfl) (by decide) (fun K hK => ?_)
 refine goes_ Try.func11 (by kernel_rfl) rfl #[.agg #[.slice (some ⟨w.heap.size, 0, none⟩) 2 2, .slice (some ⟨g1, 0, none⟩) 1 1, .slice (some ⟨g4, 0, none⟩) 2 2], .slice A70 exS0.length c70, .int .i64 2] (by rfl) rfl rfl (by first | rfl | (simp [Act.eval]; done) | (simp [go_sem]; done)) ?_
 refine (hgoto W11 hb11).mono ?_
 rintro e W12 ⟨v12, rfl, hR12, hB12⟩
 obtain ⟨A12, c12, rfl⟩ := Kd.zby hR12
 rw [exG_len]
 refine ⟨_, rfl, ?_⟩
 have hb12 := hb11.trans (hB12.mono hb11.size)
 have hh12 := keep3 _ _ hB12 hh11
 refine hK.out _ _ hh12 (fun h0_ => ?_)
 clear hK K h0_
 refine pure_ (i := 22) (N := (some 42)) (v := ?_) (a' := ?_) #[Yt,Yt,Yt,Yt,Yt,Yt,Yt,Yt,Yt,Yt,Yt,Yt,Yt,Yt,Yt,Yt,Yt,Yt,Yt,Yt,Yt,Yt,Yt,Nf,Nf,Nf] rfl rfl (by kernel_rfl) (fun _ _ _ h => h) (Or.inl ⟨by rfl, ?_⟩) ?_ ?_
 rotate_left
 ·intro w'
  go_simp
  with_reducible rfl
 rotate_left
 ·simp only [Act.put, Y1, Y2, Y3]
  rfl
 refine pure_ (i := 23) (N := (some 43)) (v := ?_) (a' := ?_) #[Yt,Yt,Yt,Yt,Yt,Yt,Yt,Yt,Yt,Yt,Yt,Yt,Yt,Yt,Yt,Yt,Yt,Yt,Yt,Yt,Yt,Yt,Yt,Yt,Nf,Nf] rfl rfl (by kernel_rfl) (fun _ _ _ h => h) (Or.inl ⟨by rfl, ?_⟩) ?_ ?_
 rotate_left
 ·intro w'
  go_simp
  with_reducible rfl
 rotate_left
 ·simp only [Act.put, Y1, Y2, Y3]
  rfl
 refine pure_ (i := 24) (N := (some 44)) (v := ?_) (a' := ?_) #[Yt,Yt,Yt,Yt,Yt,Yt,Yt,Yt,Yt,Yt,Yt,Yt,Yt,Yt,Yt,Yt,Yt,Yt,Yt,Yt,Yt,Yt,Yt,Yt,Yt,Nf] rfl rfl (by kernel_rfl) (fun _ _ _ h => h) (Or.inl ⟨by rfl, ?_⟩) ?_ ?_
 rotate_left
 ·intro w'
  go_simp
  with_reducible rfl
 rotate_left
 ·simp only [Act.put, Y1, Y2, Y3]
  rfl
 refine pure_ (i := 25) (N := (some 0)) (v := ?_) (a' := ?_) #[Yt,Yt,Yt,Yt,Yt,Yt,Yt,Yt,Yt,Yt,Yt,Yt,Yt,Yt,Yt,Yt,Yt,Yt,Yt,Yt,Yt,Yt,Yt,Yt,Yt,Yt] rfl rfl (by kernel_rfl) (fun _ _ _ h => h) (Or.inl ⟨by rfl, ?_⟩) ?_ ?_
 rotate_left
 ·intro w'
  go_simp
  with_reducible rfl
 rotate_left
 ·simp only [Act.put, Y1, Y2, Y3]
  rfl
 refine done_ (by kernel_rfl) ?_
 refine hK3 _ _ ?_
 go_wp2
 go_ret
 have h6d := h6w.trans (hbd.mono h6w.size)
 exact ⟨rfl, h6d.trans (hb12.mono h6d.size)⟩
end Go.Proofs.Ytgdmjpehofdnpaa.LAwake
end
section
namespace Go.Proofs.Ytgdmjpehofdnpaa.PItemWhole
open Go.RowKit Go.Proofs.YtgdmjpehofdnpaaW.PrintWords Go.Proofs.YtgdmjpehofdnpaaW.PrintLast Go.Proofs.YtgdmjpehofdnpaaW.PrintMore
attribute [local go_sem] zcc zcb zcg zcf zb7 zb6 zcd zca
set_option linter.unusedVariables false
set_option linter.unusedSimpArgs false
def errW : Option Int → Value
 | none => .nilIface
 | some c => .iface 0 (.int .i64 c)
theorem za2 : errW none = .nilIface := rfl
theorem za3 (c : Int) : errW (some c) = .iface 0 (.int .i64 c) := rfl
structure S43 where
 f0 : Int
 f1 : ByteArray
 f2 : ByteArray
def z43 : S43 := ⟨(0 : Int), (⟨#[]⟩ : ByteArray), (⟨#[]⟩ : ByteArray)⟩
def k43 : Kd S43 := Kd.iso (Kd.pair (Kd.int .i64) (Kd.pair Kd.string Kd.string)) (fun x : S43 => (x.f0, x.f1, x.f2))
theorem k43_open {w : World} {x : S43} {cs : List Value} (h : k43.K w x cs) : cs = [.int .i64 x.f0, .string x.f1, .string x.f2] := by
 obtain ⟨_, _, rfl, rfl, ⟨_, _, rfl, rfl, rfl⟩⟩ := h
 exact rfl
theorem k43_mkM (w : World) (base : Nat) (ok : Nat → Prop) (x : S43)  : k43.M w base ok x [.int .i64 x.f0, .string x.f1, .string x.f2] := ⟨[.int .i64 x.f0], [.string x.f1, .string x.f2], rfl, rfl, ⟨[.string x.f1], [.string x.f2], rfl, rfl, rfl⟩⟩
def zbh (xs : List S43) (i : Int) : S43 := xs.getD i.toNat z43
theorem at_T43 {w : World} {A : Option Addr} {n : Nat} {xs : List S43} (h : Kd.C k43 w A n xs) (i : Int) (h0 : 0 ≤ i) (h1 : i < n) : ∃ ad , A = some ad ∧ w.cell? (ad.add (i.toNat * 3)) = some (.int .i64 (zbh xs i).f0) ∧ w.cell? ⟨(ad.add (i.toNat * 3)).block, (ad.add (i.toNat * 3)).off + 1, none⟩ = some (.string (zbh xs i).f1) ∧ w.cell? ⟨(ad.add (i.toNat * 3)).block, (ad.add (i.toNat * 3)).off + 2, none⟩ = some (.string (zbh xs i).f2) := by
 obtain ⟨ad, c, e, _, hK, hc0⟩ := Kd.C_get h z43 i h0 h1
 have hc : ∀ j u, c[j]? = some u → w.cell? (ad.add (i.toNat * 3 + j)) = some u := hc0
 obtain rfl := k43_open hK
 exact ⟨ad, e, hc 0 _ rfl, by rw [← zbp _ _ 1 (by omega)]; exact hc 1 _ rfl, by rw [← zbp _ _ 2 (by omega)]; exact hc 2 _ rfl⟩
structure S46 where
 f0 : Int
 f1 : (List S43)
 f2 : Int
def z46 : S46 := ⟨(0 : Int), ([] : List S43), (0 : Int)⟩
def k46 : Kd S46 := Kd.iso (Kd.pair (Kd.int .i64) (Kd.pair (Kd.slice 43 k43) (Kd.int .i64))) (fun x : S46 => (x.f0, x.f1, x.f2))
theorem k46_open {w : World} {x : S46} {cs : List Value} (h : k46.K w x cs) : ∃ A1 c1, cs = [.int .i64 x.f0, .slice A1 x.f1.length c1, .int .i64 x.f2] ∧ x.f1.length ≤ c1 ∧ k43.C w A1 x.f1.length x.f1 := by
 obtain ⟨_, _, rfl, rfl, ⟨_, _, rfl, ⟨A1, c1, rfl, l1, g1⟩, rfl⟩⟩ := h
 exact ⟨A1, c1, rfl, l1, g1⟩
theorem k46_mk (w : World) (x : S46) {A1 : Option Addr} {c1 : Nat} (l1 : x.f1.length ≤ c1) (g1 : k43.C w A1 x.f1.length x.f1) : k46.K w x [.int .i64 x.f0, .slice A1 x.f1.length c1, .int .i64 x.f2] := ⟨[.int .i64 x.f0], [.slice A1 x.f1.length c1, .int .i64 x.f2], rfl, rfl, ⟨[.slice A1 x.f1.length c1], [.int .i64 x.f2], rfl, ⟨A1, c1, rfl, l1, g1⟩, rfl⟩⟩
def zal (xs : List S46) (i : Int) : S46 := xs.getD i.toNat z46
theorem at_T46 {w : World} {A : Option Addr} {n : Nat} {xs : List S46} (h : Kd.C k46 w A n xs) (i : Int) (h0 : 0 ≤ i) (h1 : i < n) : ∃ ad A1 c1, A = some ad ∧ w.cell? (ad.add (i.toNat * 3)) = some (.int .i64 (zal xs i).f0) ∧ w.cell? ⟨(ad.add (i.toNat * 3)).block, (ad.add (i.toNat * 3)).off + 1, none⟩ = some (.slice A1 (zal xs i).f1.length c1) ∧ w.cell? ⟨(ad.add (i.toNat * 3)).block, (ad.add (i.toNat * 3)).off + 2, none⟩ = some (.int .i64 (zal xs i).f2) ∧ (zal xs i).f1.length ≤ c1 ∧ k43.C w A1 (zal xs i).f1.length (zal xs i).f1 := by
 obtain ⟨ad, c, e, _, hK, hc0⟩ := Kd.C_get h z46 i h0 h1
 have hc : ∀ j u, c[j]? = some u → w.cell? (ad.add (i.toNat * 3 + j)) = some u := hc0
 obtain ⟨A1, c1, rfl, l1, g1⟩ := k46_open hK
 exact ⟨ad, A1, c1, e, hc 0 _ rfl, by rw [← zbp _ _ 1 (by omega)]; exact hc 1 _ rfl, by rw [← zbp _ _ 2 (by omega)]; exact hc 2 _ rfl, l1, g1⟩
structure S39 where
 f0 : Int
 f1 : Int
 f2 : Int
def z39 : S39 := ⟨(0 : Int), (0 : Int), (0 : Int)⟩
def k39 : Kd S39 := Kd.iso (Kd.pair (Kd.int .i64) (Kd.pair (Kd.int .i64) (Kd.int .i64))) (fun x : S39 => (x.f0, x.f1, x.f2))
theorem k39_open {w : World} {x : S39} {cs : List Value} (h : k39.K w x cs) : cs = [.int .i64 x.f0, .int .i64 x.f1, .int .i64 x.f2] := by
 obtain ⟨_, _, rfl, rfl, ⟨_, _, rfl, rfl, rfl⟩⟩ := h
 exact rfl
def zbc (xs : List S39) (i : Int) : S39 := xs.getD i.toNat z39
theorem at_T39 {w : World} {A : Option Addr} {n : Nat} {xs : List S39} (h : Kd.C k39 w A n xs) (i : Int) (h0 : 0 ≤ i) (h1 : i < n) : ∃ ad , A = some ad ∧ w.cell? (ad.add (i.toNat * 3)) = some (.int .i64 (zbc xs i).f0) ∧ w.cell? ⟨(ad.add (i.toNat * 3)).block, (ad.add (i.toNat * 3)).off + 1, none⟩ = some (.int .i64 (zbc xs i).f1) ∧ w.cell? ⟨(ad.add (i.toNat * 3)).block, (ad.add (i.toNat * 3)).off + 2, none⟩ = some (.int .i64 (zbc xs i).f2) := by
 obtain ⟨ad, c, e, _, hK, hc0⟩ := Kd.C_get h z39 i h0 h1
 have hc : ∀ j u, c[j]? = some u → w.cell? (ad.add (i.toNat * 3 + j)) = some u := hc0
 obtain rfl := k39_open hK
 exact ⟨ad, e, hc 0 _ rfl, by rw [← zbp _ _ 1 (by omega)]; exact hc 1 _ rfl, by rw [← zbp _ _ 2 (by omega)]; exact hc 2 _ rfl⟩
def rd_L7 (xs : List (List S39)) (i : Int) : (List S39) := xs.getD i.toNat ([] : List S39)
theorem at_L7 {w : World} {A : Option Addr} {n : Nat} {xs : List (List S39)} (h : Kd.C (Kd.slice 39 k39) w A n xs) (i : Int) (h0 : 0 ≤ i) (h1 : i < n) : ∃ ad A0 c0, A = some ad ∧ w.cell? (ad.add i.toNat) = some (.slice A0 (rd_L7 xs i).length c0) ∧ (rd_L7 xs i).length ≤ c0 ∧ k39.C w A0 (rd_L7 xs i).length (rd_L7 xs i) := by
 obtain ⟨ad, c, e, _, hK, hc0⟩ := Kd.C_get h ([] : List S39) i h0 h1
 have hc : ∀ j u, c[j]? = some u → w.cell? (ad.add (i.toNat * 1 + j)) = some u := hc0
 obtain ⟨A0, c0, rfl, l0, g0⟩ := hK
 exact ⟨ad, A0, c0, e, by have hq := hc 0 _ rfl; rwa [Nat.mul_one, Nat.add_zero] at hq, l0, g0⟩
structure S25 where
 f0 : (List ByteArray)
 f1 : (List ByteArray)
 f2 : (List S46)
def z25 : S25 := ⟨([] : List ByteArray), ([] : List ByteArray), ([] : List S46)⟩
end Go.Proofs.Ytgdmjpehofdnpaa.PItemWhole
end
section
namespace Go.Proofs.Ytgdmjpehofdnpaa.PItemWhole
open Go.RowKit Go.Proofs.YtgdmjpehofdnpaaW.PrintWords Go.Proofs.YtgdmjpehofdnpaaW.PrintLast Go.Proofs.YtgdmjpehofdnpaaW.PrintMore
attribute [local go_sem] zcc zcb zcg zcf zb7 zb6 zcd zca
set_option linter.unusedVariables false
set_option linter.unusedSimpArgs false
theorem eqA39 (d : Nat) (w : World) (x0 y0 : Int) (x1 y1 : Int) (x2 y2 : Int) :
  (Op.equalIn (d + 2) 39 (.agg #[.int .i64 x0, .int .i64 x1, .int .i64 x2]) (.agg #[.int .i64 y0, .int .i64 y1, .int .i64 y2])).run Try.prog w = .ok (x0 == y0 && (x1 == y1 && (x2 == y2))) w := by
 refine eqA_of Try.underlying39 (by kernel_rfl) ?_
 refine eqf_cons (by rfl) (by go_simp; rfl) (by go_simp; rfl) (by go_simp) ?_
 refine eqf_cons (by rfl) (by go_simp; rfl) (by go_simp; rfl) (by go_simp) ?_
 exact eqf_last (by rfl) (by go_simp; rfl) (by go_simp; rfl) (by go_simp)
end Go.Proofs.Ytgdmjpehofdnpaa.PItemWhole
end
section
namespace Go.Proofs.Ytgdmjpehofdnpaa.PItemWhole
open Go.RowKit Go.Proofs.YtgdmjpehofdnpaaW.PrintWords Go.Proofs.YtgdmjpehofdnpaaW.PrintLast Go.Proofs.YtgdmjpehofdnpaaW.PrintMore
attribute [local go_sem] zcc zcb zcg zcf zb7 zb6 zcd zca
set_option linter.unusedVariables false
set_option linter.unusedSimpArgs false
def za6.l0 : Nat → Int → Int → List ByteArray → List ByteArray → List (S46) → Option (Bool)
 | 0, _, _, _, _, _ => none
 | k + 1, x3, x4, x102000, x102001, x102002 => if x4 < (x102002.length : Int) then (if x3 ≥ 0 then (if 0 ≤ x4 then (za6.l0 k (wrap64 ((wrap64 (x3 - 1)) - (((zal x102002 x4).f1).length : Int))) (wrap64 (x4 + 1)) x102000 x102001 x102002) else (none)) else (some (decide (x3 ≥ 0)))) else (some (decide (x3 ≥ 0)))
def za6.f (k : Nat) (l0_0 : List ByteArray) (l0_1 : List ByteArray) (l0_2 : List (S46)) : Option (Bool) := za6.l0 k (wrap64 ((wrap64 (20000 - (l0_0.length : Int))) - (l0_1.length : Int))) 0 l0_0 l0_1 l0_2
theorem za6.zbz : ∀ k, (∀ y0 y1 y2 y3 y4, LeO (za6.l0 k y0 y1 y2 y3 y4) (za6.l0 (k + 1) y0 y1 y2 y3 y4))
 | 0 => fun _ _ _ _ _ r h => by simp [za6.l0] at h
 | k + 1 => by
  have ih0 := za6.zbz k
  ·intro y0 y1 y2 y3 y4
   unfold za6.l0
   repeat' first
   | (with_reducible exact ih0 _ _ _ _ _)
   | (with_reducible exact LeO.refl _)
   | (with_reducible exact LeO.none _)
   | (with_reducible refine LeO.ite ?_ ?_)
   | (with_reducible refine LeO.bind ?_ (fun _ => ?_))
   | exact ih0 _ _ _ _ _
   | exact LeO.none _
   | refine LeO.ite ?_ ?_
   | refine LeO.bind ?_ (fun _ => ?_)
theorem za6.mono : ∀ a0 a1 a2 k, LeO (za6.f k a0 a1 a2) (za6.f (k + 1) a0 a1 a2) := by
 intro a0 a1 a2 k
 have ih0 := za6.zbz k
 unfold za6.f
 repeat' first
   | (with_reducible exact ih0 _ _ _ _ _)
   | (with_reducible exact LeO.refl _)
   | (with_reducible exact LeO.none _)
   | (with_reducible refine LeO.ite ?_ ?_)
   | (with_reducible refine LeO.bind ?_ (fun _ => ?_))
   | exact ih0 _ _ _ _ _
   | exact LeO.none _
   | refine LeO.ite ?_ ?_
   | refine LeO.bind ?_ (fun _ => ?_)
set_option maxHeartbeats 8000000 in
set_option maxRecDepth 100000 in
theorem za6.calls (k : Nat) (A0_0 : Option Addr) (c0_0 : Nat) (l0_0 : List ByteArray) (A0_1 : Option Addr) (c0_1 : Nat) (l0_1 : List ByteArray) (A0_2 : Option Addr) (c0_2 : Nat) (l0_2 : List (S46)) (r : Bool) (w : World) (hr0_0 : Kd.C Kd.string w A0_0 l0_0.length l0_0) (hc0_0 : l0_0.length ≤ c0_0) (hr0_1 : Kd.C Kd.string w A0_1 l0_1.length l0_1) (hc0_1 : l0_1.length ≤ c0_1) (hr0_2 : Kd.C k46 w A0_2 l0_2.length l0_2) (hc0_2 : l0_2.length ≤ c0_2) (h : za6.f k l0_0 l0_1 l0_2 = some r) :
  Calls Try.prog 13 #[.agg #[.slice A0_0 l0_0.length c0_0, .slice A0_1 l0_1.length c0_1, .slice A0_2 l0_2.length c0_2]] w fun e w' => e = .returned (.bool r) ∧ Below w.heap.size w w' := by
 have hu25 := Try.underlying25
 have HR0_0 := zaa.mk hr0_0
 have HC0_0 := zaa.mk hc0_0
 clear hr0_0 hc0_0
 have HR0_1 := zaa.mk hr0_1
 have HC0_1 := zaa.mk hc0_1
 clear hr0_1 hc0_1
 have HR0_2 := zaa.mk hr0_2
 have HC0_2 := zaa.mk hc0_2
 clear hr0_2 hc0_2
 have HB := zaa.mk (Below.refl w.heap.size w)
 have H : (za6.l0 k (wrap64 ((wrap64 (20000 - (l0_0.length : Int))) - (l0_1.length : Int))) 0 l0_0 l0_1 l0_2) = some r := h
 clear h
 have H' := zaa.mk H
 clear H
 go_enter Try.func13, Try.ntmps13
 go_wp2_with (first | ((with_reducible refine zbb (N := 1) rfl ?_); refine za9 ?hg (N := 1) ?hd (cs := #[.slice A0_0 l0_0.length c0_0, .slice A0_1 l0_1.length c0_1, .slice A0_2 l0_2.length c0_2]) (t := 25) ?hr ?_; (case hd => rfl); (case hg => rfl); (case hr => first | (go_simp; done) | (go_simp; rfl)); intro gb101 hg w2 hbox hb; have n0_ := zaa.mk (zaw (by repeat (first | (with_reducible first | exact HB.out | apply zae | apply zab | apply zad) | exact HB.out)) hb); have n1_ := zaa.mk (hbox); have n2_ := zaa.mk ((by rw [hg]; exact (zat (by repeat (first | (with_reducible first | exact HB.out | apply zae | apply zab | apply zad) | exact HB.out))) : w.heap.size ≤ gb101)); have n3_ := zaa.mk ((by rw [hg]; exact (zat (by repeat (first | (with_reducible first | exact HB.out | apply zae | apply zab | apply zad) | exact HB.out))) : w.heap.size ≤ gb101)); clear HB; have HB := n0_; have BK101 := n1_; have GW101 := n2_; have GE101 := n3_; clear n0_ n1_ n2_ n3_; clear hb hbox hg; have hcz3_0 : w2.cell? ⟨gb101, 0, none⟩ = some (.slice A0_0 l0_0.length c0_0) := (zac BK101.out 0).trans rfl; have hcz3_1 : w2.cell? ⟨gb101, 1, none⟩ = some (.slice A0_1 l0_1.length c0_1) := (zac BK101.out 1).trans rfl; have hcz3_2 : w2.cell? ⟨gb101, 2, none⟩ = some (.slice A0_2 l0_2.length c0_2) := (zac BK101.out 2).trans rfl; have hfz3_0 := zak BK101.out 0; have hfz3_1 := zak BK101.out 1; have hfz3_2 := zak BK101.out 2))
 go_loopg [3, 4] k (fun kq v3 v4 w' => ∃ (x3_1 : Int) (x4_1 : Int), v3 = .int .i64 x3_1 ∧ v4 = .int .i64 x4_1 ∧ zaa (za6.l0 kq x3_1 x4_1 l0_0 l0_1 l0_2 = some r) ∧ zaa (kq ≤ k) ∧ zaa (w'.heap[gb101]? = some (.cells #[(.slice A0_0 l0_0.length c0_0), (.slice A0_1 l0_1.length c0_1), (.slice A0_2 l0_2.length c0_2)] 25 (0, 0))) ∧ zaa (Below w.heap.size w w'))
 case atStart => exact ⟨(wrap64 ((wrap64 (20000 - (l0_0.length : Int))) - (l0_1.length : Int))), (0), (by first | rfl | (simp; done) | (simp [*]; done)), (by first | rfl | (simp; done) | (simp [*]; done)), H', ⟨Nat.le_refl _⟩, ⟨by (with_reducible repeat (first | refine zaj ?_ _ | refine zaf ?_ | refine zah ?_ _)); exact BK101.out⟩, ⟨by repeat (first | (with_reducible first | exact HB.out | apply zae | apply zab | apply zad | refine zai ?_ GE101.out) | exact HB.out)⟩⟩
 case round =>
  clear H'
  try clear c1
  try clear p2
  try clear hcz3_0
  try clear hcz3_1
  try clear hcz3_2
  try clear hfz3_0
  try clear hfz3_1
  try clear hfz3_2
  obtain ⟨x3_1, x4_1, rfl, rfl, HA, HK1, BK101, HB⟩ := hrel
  cases gk with
  | zero => exact absurd HA.out (by simp [za6.l0])
  | succ k1 =>
   have H := HA.out
   clear HA
   simp only [za6.l0] at H
   by_cases c4 : x4_1 < (l0_2.length : Int)
   ·rw [if_pos c4] at H
    have c4b0 : decide (x4_1 < (l0_2.length : Int)) = true := decide_eq_true c4
    clear c4
    by_cases c5 : x3_1 ≥ 0
    ·rw [if_pos c5] at H
     have c5b0 : decide (0 ≤ x3_1) = true := decide_eq_true c5
     clear c5
     by_cases c6 : 0 ≤ x4_1
     ·rw [if_pos c6] at H
      have c6b0 : decide (0 ≤ x4_1) = true := decide_eq_true c6
      clear c6
      have H' := zaa.mk H
      clear H
      have hcz7_0 : wr.cell? ⟨gb101, 0, none⟩ = some (.slice A0_0 l0_0.length c0_0) := (zac BK101.out 0).trans rfl
      have hcz7_1 : wr.cell? ⟨gb101, 1, none⟩ = some (.slice A0_1 l0_1.length c0_1) := (zac BK101.out 1).trans rfl
      have hcz7_2 : wr.cell? ⟨gb101, 2, none⟩ = some (.slice A0_2 l0_2.length c0_2) := (zac BK101.out 2).trans rfl
      have hfz7_0 := zak BK101.out 0
      have hfz7_1 := zak BK101.out 1
      have hfz7_2 := zak BK101.out 2
      have p102 : 0 ≤ (x4_1 : Int) := of_decide_eq_true (by first | (with_reducible assumption) | assumption)
      have q102 : x4_1 < (l0_2.length : Int) := of_decide_eq_true (by first | (with_reducible assumption) | assumption)
      obtain ⟨ad102, A102_1, c102_1, e102, hx102_0, hx102_1, hx102_2, hl102_1, hi102_1⟩ := at_T46 HR0_2.out x4_1 p102 q102
      cases e102
      replace hx102_0 := (HB.out.cell (World.block_lt_of_cell? w _ hx102_0)).trans hx102_0
      replace hx102_1 := (HB.out.cell (World.block_lt_of_cell? w _ hx102_1)).trans hx102_1
      replace hx102_2 := (HB.out.cell (World.block_lt_of_cell? w _ hx102_2)).trans hx102_2
      have HR102_1 := zaa.mk hi102_1
      have HC102_1 := zaa.mk hl102_1
      clear hi102_1 hl102_1
      replace p102 := eq_true p102
      replace q102 := eq_true q102
      go_wp2
      go_roundg k1
      case measure => have := HK1.out; omega
      case rel => exact ⟨(wrap64 ((wrap64 (x3_1 - 1)) - (((zal l0_2 x4_1).f1).length : Int))), (wrap64 (x4_1 + 1)), (by first | rfl | (simp; done) | (simp [*]; done)), (by first | rfl | (simp; done) | (simp [*]; done)), H', ⟨by have := HK1.out; omega⟩, ⟨by (with_reducible repeat (first | refine zaj ?_ _ | refine zaf ?_ | refine zah ?_ _)); exact BK101.out⟩, ⟨by repeat (first | (with_reducible first | exact HB.out | apply zae | apply zab | apply zad | refine zai ?_ GE101.out) | exact HB.out)⟩⟩
     ·rw [if_neg c6] at H
      exact absurd H (by simp)
    ·rw [if_neg c5] at H
     have c5b0 : decide (0 ≤ x3_1) = false := decide_eq_false c5
     clear c5
     obtain rfl := Option.some.inj H
     have hcz8_0 : wr.cell? ⟨gb101, 0, none⟩ = some (.slice A0_0 l0_0.length c0_0) := (zac BK101.out 0).trans rfl
     have hcz8_1 : wr.cell? ⟨gb101, 1, none⟩ = some (.slice A0_1 l0_1.length c0_1) := (zac BK101.out 1).trans rfl
     have hcz8_2 : wr.cell? ⟨gb101, 2, none⟩ = some (.slice A0_2 l0_2.length c0_2) := (zac BK101.out 2).trans rfl
     have hfz8_0 := zak BK101.out 0
     have hfz8_1 := zak BK101.out 1
     have hfz8_2 := zak BK101.out 2
     go_wp2
     go_ret
     exact ⟨by first | rfl | (simp [za2, za3] <;> rfl) | (simp [*, za2, za3] <;> rfl), by repeat (first | (with_reducible first | exact HB.out | apply zae | apply zab | apply zad | refine zai ?_ GE101.out) | exact HB.out)⟩
   ·rw [if_neg c4] at H
    have c4b0 : decide (x4_1 < (l0_2.length : Int)) = false := decide_eq_false c4
    clear c4
    obtain rfl := Option.some.inj H
    have hcz9_0 : wr.cell? ⟨gb101, 0, none⟩ = some (.slice A0_0 l0_0.length c0_0) := (zac BK101.out 0).trans rfl
    have hcz9_1 : wr.cell? ⟨gb101, 1, none⟩ = some (.slice A0_1 l0_1.length c0_1) := (zac BK101.out 1).trans rfl
    have hcz9_2 : wr.cell? ⟨gb101, 2, none⟩ = some (.slice A0_2 l0_2.length c0_2) := (zac BK101.out 2).trans rfl
    have hfz9_0 := zak BK101.out 0
    have hfz9_1 := zak BK101.out 1
    have hfz9_2 := zak BK101.out 2
    go_wp2
    go_ret
    exact ⟨by first | rfl | (simp [za2, za3] <;> rfl) | (simp [*, za2, za3] <;> rfl), by repeat (first | (with_reducible first | exact HB.out | apply zae | apply zab | apply zad | refine zai ?_ GE101.out) | exact HB.out)⟩
def zau.l0 : Nat → List ByteArray → Int → Option (Bool)
 | 0, _, _ => none
 | k + 1, x0, x3 => if x3 < (x0.length : Int) then (if 0 ≤ x3 then (if (rdOf ByteArray.empty x0 x3).toList = ([] : List UInt8) then (some false) else (if ((rdOf ByteArray.empty x0 x3).size : Int) > 80 then (some false) else (zau.l0 k x0 (wrap64 (x3 + 1))))) else (none)) else (some true)
def zau.f (k : Nat) (l0 : List ByteArray) : Option (Bool) := zau.l0 k l0 0
theorem zau.zbz : ∀ k, (∀ y0 y1, LeO (zau.l0 k y0 y1) (zau.l0 (k + 1) y0 y1))
 | 0 => fun _ _ r h => by simp [zau.l0] at h
 | k + 1 => by
  have ih0 := zau.zbz k
  ·intro y0 y1
   unfold zau.l0
   repeat' first
   | (with_reducible exact ih0 _ _)
   | (with_reducible exact LeO.refl _)
   | (with_reducible exact LeO.none _)
   | (with_reducible refine LeO.ite ?_ ?_)
   | (with_reducible refine LeO.bind ?_ (fun _ => ?_))
   | exact ih0 _ _
   | exact LeO.none _
   | refine LeO.ite ?_ ?_
   | refine LeO.bind ?_ (fun _ => ?_)
theorem zau.mono : ∀ a0 k, LeO (zau.f k a0) (zau.f (k + 1) a0) := by
 intro a0 k
 have ih0 := zau.zbz k
 unfold zau.f
 repeat' first
   | (with_reducible exact ih0 _ _)
   | (with_reducible exact LeO.refl _)
   | (with_reducible exact LeO.none _)
   | (with_reducible refine LeO.ite ?_ ?_)
   | (with_reducible refine LeO.bind ?_ (fun _ => ?_))
   | exact ih0 _ _
   | exact LeO.none _
   | refine LeO.ite ?_ ?_
   | refine LeO.bind ?_ (fun _ => ?_)
set_option maxHeartbeats 8000000 in
set_option maxRecDepth 100000 in
theorem zau.calls (k : Nat) (A0 : Option Addr) (c0 : Nat) (l0 : List ByteArray) (r : Bool) (w : World) (hr0 : Kd.C Kd.string w A0 l0.length l0) (hc0 : l0.length ≤ c0) (h : zau.f k l0 = some r) :
  Calls Try.prog 23 #[.slice A0 l0.length c0] w fun e w' => e = .returned (.bool r) ∧ za8 w w' := by
 have HR0 := zaa.mk hr0
 have HC0 := zaa.mk hc0
 clear hr0 hc0
 have H : (zau.l0 k l0 0) = some r := h
 clear h
 have H' := zaa.mk H
 clear H
 go_enter Try.func23, Try.ntmps23
 go_wp2
 go_loopg [3] k (fun kq v3 w' => ∃ (x3_1 : Int), v3 = .int .i64 x3_1 ∧ zaa (zau.l0 kq l0 x3_1 = some r) ∧ zaa (kq ≤ k) ∧ za8 w w')
 case atStart => exact ⟨(0), (by first | rfl | (simp; done) | (simp [*]; done)), H', ⟨Nat.le_refl _⟩, by repeat (first | exact za8.refl _ | apply za8.step)⟩
 case round =>
  clear H'
  obtain ⟨x3_1, rfl, HA, HK1, ⟨m1, rfl⟩⟩ := hrel
  cases gk with
  | zero => exact absurd HA.out (by simp [zau.l0])
  | succ k1 =>
   have H := HA.out
   clear HA
   simp only [zau.l0] at H
   by_cases c2 : x3_1 < (l0.length : Int)
   ·rw [if_pos c2] at H
    have c2b0 : decide (x3_1 < (l0.length : Int)) = true := decide_eq_true c2
    clear c2
    by_cases c3 : 0 ≤ x3_1
    ·rw [if_pos c3] at H
     have c3b0 : decide (0 ≤ x3_1) = true := decide_eq_true c3
     clear c3
     by_cases c4 : (rdOf ByteArray.empty l0 x3_1).toList = ([] : List UInt8)
     ·rw [if_pos c4] at H
      have c4b0 : ((rdOf ByteArray.empty l0 x3_1).toList == ([] : List UInt8)) = true := beq_iff_eq.mpr c4
      have c4b1 : ((rdOf ByteArray.empty l0 x3_1).toList != ([] : List UInt8)) = false := bne_eq_false_iff_eq.mpr c4
      clear c4
      obtain rfl := Option.some.inj H
      have p103 : 0 ≤ (x3_1 : Int) := of_decide_eq_true (by first | (with_reducible assumption) | assumption)
      have q103 : x3_1 < (l0.length : Int) := of_decide_eq_true (by first | (with_reducible assumption) | assumption)
      obtain ⟨ad103, e103, hx103_0⟩ := Kd.at_string HR0.out x3_1 p103 q103
      cases e103
      replace p103 := eq_true p103
      replace q103 := eq_true q103
      go_wp2
      go_ret
      exact ⟨by first | rfl | (simp; done) | (simp [*]; done), by repeat (first | exact za8.refl _ | apply za8.step)⟩
     ·rw [if_neg c4] at H
      have c4b0 : ((rdOf ByteArray.empty l0 x3_1).toList == ([] : List UInt8)) = false := beq_eq_false_iff_ne.mpr c4
      have c4b1 : ((rdOf ByteArray.empty l0 x3_1).toList != ([] : List UInt8)) = true := bne_iff_ne.mpr c4
      by_cases c5 : ((rdOf ByteArray.empty l0 x3_1).size : Int) > 80
      ·rw [if_pos c5] at H
       have c5b0 : decide (80 < ((rdOf ByteArray.empty l0 x3_1).size : Int)) = true := decide_eq_true c5
       have c5b1 : decide (80 < (rdOf ByteArray.empty l0 x3_1).size) = true := decide_eq_true (by omega)
       clear c5
       obtain rfl := Option.some.inj H
       have p103 : 0 ≤ (x3_1 : Int) := of_decide_eq_true (by first | (with_reducible assumption) | assumption)
       have q103 : x3_1 < (l0.length : Int) := of_decide_eq_true (by first | (with_reducible assumption) | assumption)
       obtain ⟨ad103, e103, hx103_0⟩ := Kd.at_string HR0.out x3_1 p103 q103
       cases e103
       replace p103 := eq_true p103
       replace q103 := eq_true q103
       have p104 : 0 ≤ (x3_1 : Int) := of_decide_eq_true (by first | (with_reducible assumption) | assumption)
       have q104 : x3_1 < (l0.length : Int) := of_decide_eq_true (by first | (with_reducible assumption) | assumption)
       obtain ⟨ad104, e104, hx104_0⟩ := Kd.at_string HR0.out x3_1 p104 q104
       obtain rfl : ad103 = ad104 := (by injection e104)
       replace p104 := eq_true p104
       replace q104 := eq_true q104
       go_wp2
       go_ret
       exact ⟨by first | rfl | (simp; done) | (simp [*]; done), by repeat (first | exact za8.refl _ | apply za8.step)⟩
      ·rw [if_neg c5] at H
       have c5b0 : decide (80 < ((rdOf ByteArray.empty l0 x3_1).size : Int)) = false := decide_eq_false c5
       have c5b1 : decide (80 < (rdOf ByteArray.empty l0 x3_1).size) = false := decide_eq_false (by omega)
       clear c5
       have H' := zaa.mk H
       clear H
       have p103 : 0 ≤ (x3_1 : Int) := of_decide_eq_true (by first | (with_reducible assumption) | assumption)
       have q103 : x3_1 < (l0.length : Int) := of_decide_eq_true (by first | (with_reducible assumption) | assumption)
       obtain ⟨ad103, e103, hx103_0⟩ := Kd.at_string HR0.out x3_1 p103 q103
       cases e103
       replace p103 := eq_true p103
       replace q103 := eq_true q103
       have p104 : 0 ≤ (x3_1 : Int) := of_decide_eq_true (by first | (with_reducible assumption) | assumption)
       have q104 : x3_1 < (l0.length : Int) := of_decide_eq_true (by first | (with_reducible assumption) | assumption)
       obtain ⟨ad104, e104, hx104_0⟩ := Kd.at_string HR0.out x3_1 p104 q104
       obtain rfl : ad103 = ad104 := (by injection e104)
       replace p104 := eq_true p104
       replace q104 := eq_true q104
       go_wp2
       go_roundg k1
       case measure => have := HK1.out; omega
       case rel => exact ⟨(wrap64 (x3_1 + 1)), (by first | rfl | (simp; done) | (simp [*]; done)), H', ⟨by have := HK1.out; omega⟩, by repeat (first | exact za8.refl _ | apply za8.step)⟩
    ·rw [if_neg c3] at H
     exact absurd H (by simp)
   ·rw [if_neg c2] at H
    have c2b0 : decide (x3_1 < (l0.length : Int)) = false := decide_eq_false c2
    clear c2
    obtain rfl := Option.some.inj H
    go_wp2
    go_ret
    exact ⟨by first | rfl | (simp; done) | (simp [*]; done), by repeat (first | exact za8.refl _ | apply za8.step)⟩
def zbx.f (a0 : Int) : Option (Bool) := if a0 ≥ 97 then (if a0 ≤ 122 then (some true) else (if a0 ≥ 65 then (if a0 ≤ 90 then (some true) else (some (a0 == 95))) else (some (a0 == 95)))) else (if a0 ≥ 65 then (if a0 ≤ 90 then (some true) else (some (a0 == 95))) else (some (a0 == 95)))
set_option maxHeartbeats 8000000 in
set_option maxRecDepth 100000 in
theorem zbx.calls (a0 : Int) (r : Bool) (w : World) (h : zbx.f a0 = some r) :
  Calls Try.prog 48 #[.int .u8 a0] w fun e w' => e = .returned (.bool r) ∧ za8 w w' := by
 have H : (if a0 ≥ 97 then (if a0 ≤ 122 then (some true) else (if a0 ≥ 65 then (if a0 ≤ 90 then (some true) else (some (a0 == 95))) else (some (a0 == 95)))) else (if a0 ≥ 65 then (if a0 ≤ 90 then (some true) else (some (a0 == 95))) else (some (a0 == 95)))) = some r := h
 clear h
 by_cases c2 : a0 ≥ 97
 ·rw [if_pos c2] at H
  have c2b0 : decide (97 ≤ a0) = true := decide_eq_true c2
  clear c2
  by_cases c3 : a0 ≤ 122
  ·rw [if_pos c3] at H
   have c3b0 : decide (a0 ≤ 122) = true := decide_eq_true c3
   clear c3
   obtain rfl := Option.some.inj H
   go_enter Try.func48, Try.ntmps48
   go_wp2
   go_ret
   exact ⟨by first | rfl | (simp; done) | (simp [*]; done), by repeat (first | exact za8.refl _ | apply za8.step)⟩
  ·rw [if_neg c3] at H
   have c3b0 : decide (a0 ≤ 122) = false := decide_eq_false c3
   clear c3
   by_cases c4 : a0 ≥ 65
   ·rw [if_pos c4] at H
    have c4b0 : decide (65 ≤ a0) = true := decide_eq_true c4
    clear c4
    by_cases c5 : a0 ≤ 90
    ·rw [if_pos c5] at H
     have c5b0 : decide (a0 ≤ 90) = true := decide_eq_true c5
     clear c5
     obtain rfl := Option.some.inj H
     go_enter Try.func48, Try.ntmps48
     go_wp2
     go_ret
     exact ⟨by first | rfl | (simp; done) | (simp [*]; done), by repeat (first | exact za8.refl _ | apply za8.step)⟩
    ·rw [if_neg c5] at H
     have c5b0 : decide (a0 ≤ 90) = false := decide_eq_false c5
     clear c5
     obtain rfl := Option.some.inj H
     go_enter Try.func48, Try.ntmps48
     go_wp2
     go_ret
     exact ⟨by first | rfl | (simp; done) | (simp [*]; done), by repeat (first | exact za8.refl _ | apply za8.step)⟩
   ·rw [if_neg c4] at H
    have c4b0 : decide (65 ≤ a0) = false := decide_eq_false c4
    clear c4
    obtain rfl := Option.some.inj H
    go_enter Try.func48, Try.ntmps48
    go_wp2
    go_ret
    exact ⟨by first | rfl | (simp; done) | (simp [*]; done), by repeat (first | exact za8.refl _ | apply za8.step)⟩
 ·rw [if_neg c2] at H
  have c2b0 : decide (97 ≤ a0) = false := decide_eq_false c2
  clear c2
  by_cases c6 : a0 ≥ 65
  ·rw [if_pos c6] at H
   have c6b0 : decide (65 ≤ a0) = true := decide_eq_true c6
   clear c6
   by_cases c7 : a0 ≤ 90
   ·rw [if_pos c7] at H
    have c7b0 : decide (a0 ≤ 90) = true := decide_eq_true c7
    clear c7
    obtain rfl := Option.some.inj H
    go_enter Try.func48, Try.ntmps48
    go_wp2
    go_ret
    exact ⟨by first | rfl | (simp; done) | (simp [*]; done), by repeat (first | exact za8.refl _ | apply za8.step)⟩
   ·rw [if_neg c7] at H
    have c7b0 : decide (a0 ≤ 90) = false := decide_eq_false c7
    clear c7
    obtain rfl := Option.some.inj H
    go_enter Try.func48, Try.ntmps48
    go_wp2
    go_ret
    exact ⟨by first | rfl | (simp; done) | (simp [*]; done), by repeat (first | exact za8.refl _ | apply za8.step)⟩
  ·rw [if_neg c6] at H
   have c6b0 : decide (65 ≤ a0) = false := decide_eq_false c6
   clear c6
   obtain rfl := Option.some.inj H
   go_enter Try.func48, Try.ntmps48
   go_wp2
   go_ret
   exact ⟨by first | rfl | (simp; done) | (simp [*]; done), by repeat (first | exact za8.refl _ | apply za8.step)⟩
def zb0.f (a0 : Int) : Option (Bool) := if a0 ≥ 48 then (some (decide (a0 ≤ 57))) else (some false)
set_option maxHeartbeats 8000000 in
set_option maxRecDepth 100000 in
theorem zb0.calls (a0 : Int) (r : Bool) (w : World) (h : zb0.f a0 = some r) :
  Calls Try.prog 49 #[.int .u8 a0] w fun e w' => e = .returned (.bool r) ∧ za8 w w' := by
 have H : (if a0 ≥ 48 then (some (decide (a0 ≤ 57))) else (some false)) = some r := h
 clear h
 by_cases c2 : a0 ≥ 48
 ·rw [if_pos c2] at H
  have c2b0 : decide (48 ≤ a0) = true := decide_eq_true c2
  clear c2
  obtain rfl := Option.some.inj H
  go_enter Try.func49, Try.ntmps49
  go_wp2
  go_ret
  exact ⟨by first | rfl | (simp; done) | (simp [*]; done), by repeat (first | exact za8.refl _ | apply za8.step)⟩
 ·rw [if_neg c2] at H
  have c2b0 : decide (48 ≤ a0) = false := decide_eq_false c2
  clear c2
  obtain rfl := Option.some.inj H
  go_enter Try.func49, Try.ntmps49
  go_wp2
  go_ret
  exact ⟨by first | rfl | (simp; done) | (simp [*]; done), by repeat (first | exact za8.refl _ | apply za8.step)⟩
def za1.l0 : Nat → ByteArray → Int → Option (Bool)
 | 0, _, _ => none
 | k + 1, x0, x3 => if x3 < (x0.size : Int) then (if 0 ≤ x3 then ((zbx.f (bt x0 x3)).bind fun t105 => (if t105 = true then (za1.l0 k x0 (wrap64 (x3 + 1))) else (if x3 = 0 then (some false) else ((zb0.f (bt x0 x3)).bind fun t106 => (if t106 = true then (za1.l0 k x0 (wrap64 (x3 + 1))) else (some false)))))) else (none)) else (if x0.toList = ([] : List UInt8) then (some false) else (some (decide ((x0.size : Int) ≤ 32))))
def za1.f (k : Nat) (a0 : ByteArray) : Option (Bool) := za1.l0 k a0 0
theorem za1.zbz : ∀ k, (∀ y0 y1, LeO (za1.l0 k y0 y1) (za1.l0 (k + 1) y0 y1))
 | 0 => fun _ _ r h => by simp [za1.l0] at h
 | k + 1 => by
  have ih0 := za1.zbz k
  ·intro y0 y1
   unfold za1.l0
   repeat' first
   | (with_reducible exact ih0 _ _)
   | (with_reducible exact LeO.refl _)
   | (with_reducible exact LeO.none _)
   | (with_reducible refine LeO.ite ?_ ?_)
   | (with_reducible refine LeO.bind ?_ (fun _ => ?_))
   | exact ih0 _ _
   | exact LeO.none _
   | refine LeO.ite ?_ ?_
   | refine LeO.bind ?_ (fun _ => ?_)
theorem za1.mono : ∀ a0 k, LeO (za1.f k a0) (za1.f (k + 1) a0) := by
 intro a0 k
 have ih0 := za1.zbz k
 unfold za1.f
 repeat' first
   | (with_reducible exact ih0 _ _)
   | (with_reducible exact LeO.refl _)
   | (with_reducible exact LeO.none _)
   | (with_reducible refine LeO.ite ?_ ?_)
   | (with_reducible refine LeO.bind ?_ (fun _ => ?_))
   | exact ih0 _ _
   | exact LeO.none _
   | refine LeO.ite ?_ ?_
   | refine LeO.bind ?_ (fun _ => ?_)
set_option maxHeartbeats 8000000 in
set_option maxRecDepth 100000 in
theorem za1.calls (k : Nat) (a0 : ByteArray) (r : Bool) (w : World) (h : za1.f k a0 = some r) :
  Calls Try.prog 36 #[.string a0] w fun e w' => e = .returned (.bool r) ∧ za8 w w' := by
 have H : (za1.l0 k a0 0) = some r := h
 clear h
 have H' := zaa.mk H
 clear H
 go_enter Try.func36, Try.ntmps36
 go_wp2
 go_loopg [3] k (fun kq v3 w' => ∃ (x3_1 : Int), v3 = .int .i64 x3_1 ∧ zaa (za1.l0 kq a0 x3_1 = some r) ∧ zaa (kq ≤ k) ∧ za8 w w')
 case atStart => exact ⟨(0), (by first | rfl | (simp; done) | (simp [*]; done)), H', ⟨Nat.le_refl _⟩, by repeat (first | exact za8.refl _ | apply za8.step)⟩
 case round =>
  clear H'
  obtain ⟨x3_1, rfl, HA, HK1, ⟨m1, rfl⟩⟩ := hrel
  cases gk with
  | zero => exact absurd HA.out (by simp [za1.l0])
  | succ k1 =>
   have H := HA.out
   clear HA
   simp only [za1.l0] at H
   by_cases c2 : x3_1 < (a0.size : Int)
   ·rw [if_pos c2] at H
    have c2b0 : decide (x3_1 < (a0.size : Int)) = true := decide_eq_true c2
    clear c2
    by_cases c3 : 0 ≤ x3_1
    ·rw [if_pos c3] at H
     have c3b0 : decide (0 ≤ x3_1) = true := decide_eq_true c3
     clear c3
     replace H := Option.bind_eq_some_iff.mp H
     obtain ⟨t105, A50, H⟩ := H
     replace H : (if t105 = true then (za1.l0 k1 a0 (wrap64 (x3_1 + 1))) else (if x3_1 = 0 then (some false) else ((zb0.f (bt a0 x3_1)).bind fun t106 => (if t106 = true then (za1.l0 k1 a0 (wrap64 (x3_1 + 1))) else (some false))))) = some r := H
     have A5 := zaa.mk A50
     clear A50
     by_cases c6 : t105 = true
     ·subst c6
      have H1 : (za1.l0 k1 a0 (wrap64 (x3_1 + 1))) = some r := by rw [if_pos rfl] at H; exact H
      clear H
      have H := H1
      clear H1
      have H' := zaa.mk H
      clear H
      have p4 : 0 ≤ (x3_1 : Int) := of_decide_eq_true (by first | (with_reducible assumption) | assumption)
      have q4 : x3_1 < (a0.size : Int) := of_decide_eq_true (by first | (with_reducible assumption) | assumption)
      have hx4 := bt_at a0 x3_1
      replace p4 := eq_true p4
      replace q4 := eq_true q4
      go_wp2_with (first | ((with_reducible refine zbk (f := 48) rfl ?_); refine zb9 (some 13) rfl rfl Try.func48 (by kernel_rfl) rfl #[.int .u8 (bt a0 x3_1)] rfl (by (try simp only [List.map_toArray, List.map_cons, List.map_nil]); first | done | rfl | (simp only [List.length_drop, List.length_take]; rfl)) ?_; (with_reducible refine (zbx.calls (bt a0 x3_1) true _ A5.out).mono ?_); rintro e w' ⟨rfl, ⟨nd, rfl⟩⟩; refine ⟨_, rfl, ?_⟩))
      go_roundg k1
      case measure => have := HK1.out; omega
      case rel => exact ⟨(wrap64 (x3_1 + 1)), (by first | rfl | (simp; done) | (simp [*]; done)), H', ⟨by have := HK1.out; omega⟩, by repeat (first | exact za8.refl _ | apply za8.step)⟩
     ·replace c6 := Bool.eq_false_iff.mpr c6
      subst c6
      have H1 : (if x3_1 = 0 then (some false) else ((zb0.f (bt a0 x3_1)).bind fun t106 => (if t106 = true then (za1.l0 k1 a0 (wrap64 (x3_1 + 1))) else (some false)))) = some r := by rw [if_neg (show ¬ (false = true) by decide)] at H; exact H
      clear H
      have H := H1
      clear H1
      by_cases c7 : x3_1 = 0
      ·rw [if_pos c7] at H
       have c7b0 : (x3_1 == 0) = true := beq_iff_eq.mpr c7
       have c7b1 : (x3_1 != 0) = false := bne_eq_false_iff_eq.mpr c7
       clear c7
       obtain rfl := Option.some.inj H
       have p4 : 0 ≤ (x3_1 : Int) := of_decide_eq_true (by first | (with_reducible assumption) | assumption)
       have q4 : x3_1 < (a0.size : Int) := of_decide_eq_true (by first | (with_reducible assumption) | assumption)
       have hx4 := bt_at a0 x3_1
       replace p4 := eq_true p4
       replace q4 := eq_true q4
       go_wp2_with (first | ((with_reducible refine zbk (f := 48) rfl ?_); refine zb9 (some 13) rfl rfl Try.func48 (by kernel_rfl) rfl #[.int .u8 (bt a0 x3_1)] rfl (by (try simp only [List.map_toArray, List.map_cons, List.map_nil]); first | done | rfl | (simp only [List.length_drop, List.length_take]; rfl)) ?_; (with_reducible refine (zbx.calls (bt a0 x3_1) false _ A5.out).mono ?_); rintro e w' ⟨rfl, ⟨nd, rfl⟩⟩; refine ⟨_, rfl, ?_⟩))
       go_ret
       exact ⟨by first | rfl | (simp; done) | (simp [*]; done), by repeat (first | exact za8.refl _ | apply za8.step)⟩
      ·rw [if_neg c7] at H
       have c7b0 : (x3_1 == 0) = false := beq_eq_false_iff_ne.mpr c7
       have c7b1 : (x3_1 != 0) = true := bne_iff_ne.mpr c7
       replace H := Option.bind_eq_some_iff.mp H
       obtain ⟨t106, A90, H⟩ := H
       replace H : (if t106 = true then (za1.l0 k1 a0 (wrap64 (x3_1 + 1))) else (some false)) = some r := H
       have A9 := zaa.mk A90
       clear A90
       by_cases c10 : t106 = true
       ·subst c10
        have H1 : (za1.l0 k1 a0 (wrap64 (x3_1 + 1))) = some r := by rw [if_pos rfl] at H; exact H
        clear H
        have H := H1
        clear H1
        have H' := zaa.mk H
        clear H
        have p4 : 0 ≤ (x3_1 : Int) := of_decide_eq_true (by first | (with_reducible assumption) | assumption)
        have q4 : x3_1 < (a0.size : Int) := of_decide_eq_true (by first | (with_reducible assumption) | assumption)
        have hx4 := bt_at a0 x3_1
        replace p4 := eq_true p4
        replace q4 := eq_true q4
        go_wp2_with (first | ((with_reducible refine zbk (f := 48) rfl ?_); refine zb9 (some 13) rfl rfl Try.func48 (by kernel_rfl) rfl #[.int .u8 (bt a0 x3_1)] rfl (by (try simp only [List.map_toArray, List.map_cons, List.map_nil]); first | done | rfl | (simp only [List.length_drop, List.length_take]; rfl)) ?_; (with_reducible refine (zbx.calls (bt a0 x3_1) false _ A5.out).mono ?_); rintro e w' ⟨rfl, ⟨nd, rfl⟩⟩; refine ⟨_, rfl, ?_⟩; have p8 : 0 ≤ (x3_1 : Int) := of_decide_eq_true (by first | (with_reducible assumption) | assumption); have q8 : x3_1 < (a0.size : Int) := of_decide_eq_true (by first | (with_reducible assumption) | assumption); have hx8 := bt_at a0 x3_1; replace p8 := eq_true p8; replace q8 := eq_true q8) | (go_at_call 49; (with_reducible refine (zb0.calls (bt a0 x3_1) true _ A9.out).mono ?_); rintro e w' ⟨rfl, ⟨nd, rfl⟩⟩))
        go_roundg k1
        case measure => have := HK1.out; omega
        case rel => exact ⟨(wrap64 (x3_1 + 1)), (by first | rfl | (simp; done) | (simp [*]; done)), H', ⟨by have := HK1.out; omega⟩, by repeat (first | exact za8.refl _ | apply za8.step)⟩
       ·replace c10 := Bool.eq_false_iff.mpr c10
        subst c10
        have H1 : (some false) = some r := by rw [if_neg (show ¬ (false = true) by decide)] at H; exact H
        clear H
        have H := H1
        clear H1
        obtain rfl := Option.some.inj H
        have p4 : 0 ≤ (x3_1 : Int) := of_decide_eq_true (by first | (with_reducible assumption) | assumption)
        have q4 : x3_1 < (a0.size : Int) := of_decide_eq_true (by first | (with_reducible assumption) | assumption)
        have hx4 := bt_at a0 x3_1
        replace p4 := eq_true p4
        replace q4 := eq_true q4
        go_wp2_with (first | ((with_reducible refine zbk (f := 48) rfl ?_); refine zb9 (some 13) rfl rfl Try.func48 (by kernel_rfl) rfl #[.int .u8 (bt a0 x3_1)] rfl (by (try simp only [List.map_toArray, List.map_cons, List.map_nil]); first | done | rfl | (simp only [List.length_drop, List.length_take]; rfl)) ?_; (with_reducible refine (zbx.calls (bt a0 x3_1) false _ A5.out).mono ?_); rintro e w' ⟨rfl, ⟨nd, rfl⟩⟩; refine ⟨_, rfl, ?_⟩; have p8 : 0 ≤ (x3_1 : Int) := of_decide_eq_true (by first | (with_reducible assumption) | assumption); have q8 : x3_1 < (a0.size : Int) := of_decide_eq_true (by first | (with_reducible assumption) | assumption); have hx8 := bt_at a0 x3_1; replace p8 := eq_true p8; replace q8 := eq_true q8) | (go_at_call 49; (with_reducible refine (zb0.calls (bt a0 x3_1) false _ A9.out).mono ?_); rintro e w' ⟨rfl, ⟨nd, rfl⟩⟩))
        go_ret
        exact ⟨by first | rfl | (simp; done) | (simp [*]; done), by repeat (first | exact za8.refl _ | apply za8.step)⟩
    ·rw [if_neg c3] at H
     exact absurd H (by simp)
   ·rw [if_neg c2] at H
    have c2b0 : decide (x3_1 < (a0.size : Int)) = false := decide_eq_false c2
    clear c2
    by_cases c11 : a0.toList = ([] : List UInt8)
    ·rw [if_pos c11] at H
     have c11b0 : (a0.toList == ([] : List UInt8)) = true := beq_iff_eq.mpr c11
     have c11b1 : (a0.toList != ([] : List UInt8)) = false := bne_eq_false_iff_eq.mpr c11
     clear c11
     obtain rfl := Option.some.inj H
     go_wp2
     go_ret
     exact ⟨by first | rfl | (simp; done) | (simp [*]; done), by repeat (first | exact za8.refl _ | apply za8.step)⟩
    ·rw [if_neg c11] at H
     have c11b0 : (a0.toList == ([] : List UInt8)) = false := beq_eq_false_iff_ne.mpr c11
     have c11b1 : (a0.toList != ([] : List UInt8)) = true := bne_iff_ne.mpr c11
     obtain rfl := Option.some.inj H
     go_wp2
     go_ret
     exact ⟨by first | rfl | (simp; done) | (simp [*]; done), by repeat (first | exact za8.refl _ | apply za8.step)⟩
def za4.f (k : Nat) (a0 : ByteArray) : Option (Bool) := if a0.toList = ([] : List UInt8) then (some true) else ((za1.f k a0).bind fun t107 => (some t107))
theorem za4.mono : ∀ a0 k, LeO (za4.f k a0) (za4.f (k + 1) a0) := by
 intro a0 k
 unfold za4.f
 repeat' first
   | (with_reducible exact za1.mono _ _)
   | (with_reducible exact LeO.refl _)
   | (with_reducible exact LeO.none _)
   | (with_reducible refine LeO.ite ?_ ?_)
   | (with_reducible refine LeO.bind ?_ (fun _ => ?_))
   | exact za1.mono _ _
   | exact LeO.none _
   | refine LeO.ite ?_ ?_
   | refine LeO.bind ?_ (fun _ => ?_)
set_option maxHeartbeats 8000000 in
set_option maxRecDepth 100000 in
theorem za4.calls (k : Nat) (a0 : ByteArray) (r : Bool) (w : World) (h : za4.f k a0 = some r) :
  Calls Try.prog 24 #[.string a0] w fun e w' => e = .returned (.bool r) ∧ za8 w w' := by
 have H : (if a0.toList = ([] : List UInt8) then (some true) else ((za1.f k a0).bind fun t107 => (some t107))) = some r := h
 clear h
 by_cases c2 : a0.toList = ([] : List UInt8)
 ·rw [if_pos c2] at H
  have c2b0 : (a0.toList == ([] : List UInt8)) = true := beq_iff_eq.mpr c2
  have c2b1 : (a0.toList != ([] : List UInt8)) = false := bne_eq_false_iff_eq.mpr c2
  clear c2
  obtain rfl := Option.some.inj H
  go_enter Try.func24, Try.ntmps24
  go_wp2
  go_ret
  exact ⟨by first | rfl | (simp; done) | (simp [*]; done), by repeat (first | exact za8.refl _ | apply za8.step)⟩
 ·rw [if_neg c2] at H
  have c2b0 : (a0.toList == ([] : List UInt8)) = false := beq_eq_false_iff_ne.mpr c2
  have c2b1 : (a0.toList != ([] : List UInt8)) = true := bne_iff_ne.mpr c2
  replace H := Option.bind_eq_some_iff.mp H
  obtain ⟨t107, A30, H⟩ := H
  replace H : (some t107) = some r := H
  have A3 := zaa.mk A30
  clear A30
  obtain rfl := Option.some.inj H
  go_enter Try.func24, Try.ntmps24
  go_wp2_with (first | (go_at_call 36; (with_reducible refine (za1.calls k a0 t107 _ A3.out).mono ?_); rintro e w' ⟨rfl, ⟨nd, rfl⟩⟩))
  go_ret
  exact ⟨by first | rfl | (simp; done) | (simp [*]; done), by repeat (first | exact za8.refl _ | apply za8.step)⟩
end Go.Proofs.Ytgdmjpehofdnpaa.PItemWhole
end
