import Derived.Test.YtgdmjpehofdnpaaGreatProg
import Derived.Below
import Derived.Deep.Draws
import Derived.Deep.AppendLies
import Derived.Maps.AppendAt
import Derived.OwnWalk
import Derived.Laws.BytesArg
import Derived.Laws.MakeOwn
import Derived.Laws.OwnMore
import Derived.Deep.OwnRows
import Derived.Tactics
import Derived.Lib.ConvBytes
import Derived.Laws.Slices
import Derived.WalkKit
import Derived.KernelRfl
import Derived.RowKit3
import Derived.Deep.LoopGhost
import Derived.Deep.QuietTactic
import Derived.BigQuiet
import Derived.WideLaws
import Derived.Deep.DeepCutAuto
import Derived.Deep.CutBlock
import Derived.Deep.RegionHeld3
import Derived.Laws.Rows
import Derived.Lib.AppendStr
import Derived.ArgAppend
import Derived.Laws.IdiomCopy
import Derived.OrdersHeld
import Derived.Laws.BitsLemmas
import Derived.RowKit
import Derived.Lib.Strings
import Derived.Lib.Bytealg
import Derived.Lib.Slices
import Derived.Lib.Walk
import Derived.Test.YtgdmjpehofdnpaaGreatPackItemTells3
set_option linter.unusedVariables false
set_option linter.unusedSimpArgs false
set_option maxRecDepth 100000
set_option maxHeartbeats 8000000
section
namespace Go.Proofs.ZZ.PItemTells
open Go.RowKit Go.Proofs.ZW.PrintWords Go.Proofs.ZW.PrintLast Go.Proofs.ZW.PrintMore
section
end
theorem info3 : (Tryz.prog.info? 3).map (fun i => (i.zero, i.size, i.bytes)) = some (some (.int .i64 0), 1, 8) := by kernel_rfl
theorem info4 : (Tryz.prog.info? 4).map (fun i => (i.zero, i.size, i.bytes)) = some (some (.bool false), 1, 1) := by kernel_rfl
theorem info44 : (Tryz.prog.info? 44).map (fun i => (i.zero, i.size, i.bytes)) = some (some (.agg #[(.int .i64 0), (.string ⟨#[]⟩), (.string ⟨#[]⟩)]), 3, 40) := by kernel_rfl
theorem zdv : (Tryz.prog.info? 50).map (fun i => (i.zero, i.size, i.bytes)) = some (some (.agg #[(.int .i64 0), (.int .i64 0), (.int .i64 0)]), 3, 24) := by kernel_rfl
structure S44 where
 f0 : Int
 f1 : ByteArray
 f2 : ByteArray
def z44 : S44 := ⟨(0 : Int), (⟨#[]⟩ : ByteArray), (⟨#[]⟩ : ByteArray)⟩
def k44 : Kd S44 := Kd.iso (Kd.pair (Kd.int .i64) (Kd.pair Kd.string Kd.string)) (fun x : S44 => (x.f0, x.f1, x.f2))
theorem zi4 : Kd.Heap k44 := Kd.zhh _ (Kd.zd1 (Kd.ze5 .i64) (Kd.zd1 Kd.zfb Kd.zfb))
theorem zi5 {w : World} {x : S44} {cs : List Value} (h : k44.K w x cs) : cs = [.int .i64 x.f0, .string x.f1, .string x.f2] := by
 obtain ⟨_, _, rfl, rfl, ⟨_, _, rfl, rfl, rfl⟩⟩ := h
 exact rfl
theorem k44_mkM (w : World) (base : Nat) (ok : Nat → Prop) (x : S44)  : k44.M w base ok x [.int .i64 x.f0, .string x.f1, .string x.f2] := ⟨[.int .i64 x.f0], [.string x.f1, .string x.f2], rfl, rfl, ⟨[.string x.f1], [.string x.f2], rfl, rfl, rfl⟩⟩
def za3 (xs : List S44) (i : Int) : S44 := xs.getD i.toNat z44
theorem zej {w : World} {A : Option Addr} {n : Nat} {xs : List S44} (h : Kd.C k44 w A n xs) (i : Int) (h0 : 0 ≤ i) (h1 : i < n) : ∃ ad , A = some ad ∧ w.cell? (ad.add (i.toNat * 3)) = some (.int .i64 (za3 xs i).f0) ∧ w.cell? ⟨(ad.add (i.toNat * 3)).block, (ad.add (i.toNat * 3)).off + 1, none⟩ = some (.string (za3 xs i).f1) ∧ w.cell? ⟨(ad.add (i.toNat * 3)).block, (ad.add (i.toNat * 3)).off + 2, none⟩ = some (.string (za3 xs i).f2) := by
 obtain ⟨ad, c, e, _, hK, hc0⟩ := Kd.zeu h z44 i h0 h1
 have hc : ∀ j u, c[j]? = some u → w.cell? (ad.add (i.toNat * 3 + j)) = some u := hc0
 obtain rfl := zi5 hK
 exact ⟨ad, e, hc 0 _ rfl, by rw [← zb5 _ _ 1 (by omega)]; exact hc 1 _ rfl, by rw [← zb5 _ _ 2 (by omega)]; exact hc 2 _ rfl⟩
structure S42 where
 f0 : Int
 f1 : (List S44)
 f2 : Int
def z42 : S42 := ⟨(0 : Int), ([] : List S44), (0 : Int)⟩
def k42 : Kd S42 := Kd.iso (Kd.pair (Kd.int .i64) (Kd.pair (Kd.slice 44 k44) (Kd.int .i64))) (fun x : S42 => (x.f0, x.f1, x.f2))
theorem zdy : Kd.Heap k42 := Kd.zhh _ (Kd.zd1 (Kd.ze5 .i64) (Kd.zd1 (Kd.zji 44 zi4) (Kd.ze5 .i64)))
theorem zdz {w : World} {x : S42} {cs : List Value} (h : k42.K w x cs) : ∃ A1 c1, cs = [.int .i64 x.f0, .slice A1 x.f1.length c1, .int .i64 x.f2] ∧ x.f1.length ≤ c1 ∧ k44.C w A1 x.f1.length x.f1 := by
 obtain ⟨_, _, rfl, rfl, ⟨_, _, rfl, ⟨A1, c1, rfl, l1, g1⟩, rfl⟩⟩ := h
 exact ⟨A1, c1, rfl, l1, g1⟩
theorem zhw {W : World} {ok : Nat → Prop} {x : S42} {cs : List Value} (h : Kd.FK k42 W ok x cs) : ∃ A1 c1, cs = [.int .i64 x.f0, .slice A1 x.f1.length c1, .int .i64 x.f2] ∧ x.f1.length ≤ c1 ∧ Kd.F k44 W ok A1 x.f1.length x.f1 := by
 obtain ⟨A1, c1, rfl, l1, _⟩ := zdz (Kd.FK_now h)
 exact ⟨A1, c1, rfl, l1, (fun W' hW => by obtain ⟨A1_, c1_, he, l1_, g1_⟩ := zdz (h W' hW); injection (Option.some.inj (show some (Value.slice A1 x.f1.length c1) = some (Value.slice A1_ x.f1.length c1_) from congrArg (fun l => l[1]?) he)) with ha_ _ _; rw [ha_]; exact g1_)⟩
def zaf (xs : List S42) (i : Int) : S42 := xs.getD i.toNat z42
theorem zdf {w : World} {A : Option Addr} {n : Nat} {xs : List S42} (h : Kd.C k42 w A n xs) (i : Int) (h0 : 0 ≤ i) (h1 : i < n) : ∃ ad A1 c1, A = some ad ∧ w.cell? (ad.add (i.toNat * 3)) = some (.int .i64 (zaf xs i).f0) ∧ w.cell? ⟨(ad.add (i.toNat * 3)).block, (ad.add (i.toNat * 3)).off + 1, none⟩ = some (.slice A1 (zaf xs i).f1.length c1) ∧ w.cell? ⟨(ad.add (i.toNat * 3)).block, (ad.add (i.toNat * 3)).off + 2, none⟩ = some (.int .i64 (zaf xs i).f2) ∧ (zaf xs i).f1.length ≤ c1 ∧ k44.C w A1 (zaf xs i).f1.length (zaf xs i).f1 := by
 obtain ⟨ad, c, e, _, hK, hc0⟩ := Kd.zeu h z42 i h0 h1
 have hc : ∀ j u, c[j]? = some u → w.cell? (ad.add (i.toNat * 3 + j)) = some u := hc0
 obtain ⟨A1, c1, rfl, l1, g1⟩ := zdz hK
 exact ⟨ad, A1, c1, e, hc 0 _ rfl, by rw [← zb5 _ _ 1 (by omega)]; exact hc 1 _ rfl, by rw [← zb5 _ _ 2 (by omega)]; exact hc 2 _ rfl, l1, g1⟩
structure S50 where
 f0 : Int
 f1 : Int
 f2 : Int
def z50 : S50 := ⟨(0 : Int), (0 : Int), (0 : Int)⟩
def k50 : Kd S50 := Kd.iso (Kd.pair (Kd.int .i64) (Kd.pair (Kd.int .i64) (Kd.int .i64))) (fun x : S50 => (x.f0, x.f1, x.f2))
theorem zi6 {w : World} {x : S50} {cs : List Value} (h : k50.K w x cs) : cs = [.int .i64 x.f0, .int .i64 x.f1, .int .i64 x.f2] := by
 obtain ⟨_, _, rfl, rfl, ⟨_, _, rfl, rfl, rfl⟩⟩ := h
 exact rfl
theorem zg4 (w : World) (base : Nat) (ok : Nat → Prop) (x : S50)  : k50.M w base ok x [.int .i64 x.f0, .int .i64 x.f1, .int .i64 x.f2] := ⟨[.int .i64 x.f0], [.int .i64 x.f1, .int .i64 x.f2], rfl, rfl, ⟨[.int .i64 x.f1], [.int .i64 x.f2], rfl, rfl, rfl⟩⟩
def zae (xs : List S50) (i : Int) : S50 := xs.getD i.toNat z50
theorem zcv {w : World} {A : Option Addr} {n : Nat} {xs : List S50} (h : Kd.C k50 w A n xs) (i : Int) (h0 : 0 ≤ i) (h1 : i < n) : ∃ ad , A = some ad ∧ w.cell? (ad.add (i.toNat * 3)) = some (.int .i64 (zae xs i).f0) ∧ w.cell? ⟨(ad.add (i.toNat * 3)).block, (ad.add (i.toNat * 3)).off + 1, none⟩ = some (.int .i64 (zae xs i).f1) ∧ w.cell? ⟨(ad.add (i.toNat * 3)).block, (ad.add (i.toNat * 3)).off + 2, none⟩ = some (.int .i64 (zae xs i).f2) := by
 obtain ⟨ad, c, e, _, hK, hc0⟩ := Kd.zeu h z50 i h0 h1
 have hc : ∀ j u, c[j]? = some u → w.cell? (ad.add (i.toNat * 3 + j)) = some u := hc0
 obtain rfl := zi6 hK
 exact ⟨ad, e, hc 0 _ rfl, by rw [← zb5 _ _ 1 (by omega)]; exact hc 1 _ rfl, by rw [← zb5 _ _ 2 (by omega)]; exact hc 2 _ rfl⟩
def zfd (xs : List (List Int)) (i : Int) : (List Int) := xs.getD i.toNat ([] : List Int)
theorem at_L8 {w : World} {A : Option Addr} {n : Nat} {xs : List (List Int)} (h : Kd.C (Kd.slice 3 (Kd.int .i64)) w A n xs) (i : Int) (h0 : 0 ≤ i) (h1 : i < n) : ∃ ad A0 c0, A = some ad ∧ w.cell? (ad.add i.toNat) = some (.slice A0 (zfd xs i).length c0) ∧ (zfd xs i).length ≤ c0 ∧ (Kd.int .i64).C w A0 (zfd xs i).length (zfd xs i) := by
 obtain ⟨ad, c, e, _, hK, hc0⟩ := Kd.zeu h ([] : List Int) i h0 h1
 have hc : ∀ j u, c[j]? = some u → w.cell? (ad.add (i.toNat * 1 + j)) = some u := hc0
 obtain ⟨A0, c0, rfl, l0, g0⟩ := hK
 exact ⟨ad, A0, c0, e, by have hq := hc 0 _ rfl; rwa [Nat.mul_one, Nat.add_zero] at hq, l0, g0⟩
structure S25 where
 f0 : (List ByteArray)
 f1 : (List ByteArray)
 f2 : (List S42)
def z25 : S25 := ⟨([] : List ByteArray), ([] : List ByteArray), ([] : List S42)⟩
section
end
theorem eqA50 (d : Nat) (w : World) (x0 y0 : Int) (x1 y1 : Int) (x2 y2 : Int) :
  (Op.equalIn (d + 2) 50 (.agg #[.int .i64 x0, .int .i64 x1, .int .i64 x2]) (.agg #[.int .i64 y0, .int .i64 y1, .int .i64 y2])).run Tryz.prog w = .ok (x0 == y0 && (x1 == y1 && (x2 == y2))) w := by
 refine eqA_of Tryz.underlying50 (by kernel_rfl) ?_
 refine ze4 (by rfl) (by go_simp; rfl) (by go_simp; rfl) (by go_simp) ?_
 refine ze4 (by rfl) (by go_simp; rfl) (by go_simp; rfl) (by go_simp) ?_
 exact ziz (by rfl) (by go_simp; rfl) (by go_simp; rfl) (by go_simp)
section
end
theorem Yb_PItemTellsx2_0 {n : Nat} {w w' : World} (h : Below n w w' := by repeat (first | (with_reducible first | exact HB.out | apply za2 | apply zav | apply zas | refine za6 ?_ GE101.out) | exact HB.out)) : Below n w w' := h
def zbe.l0 : Nat → Int → Int → List ByteArray → List ByteArray → List (S42) → Option (Bool)
 | 0, _, _, _, _, _ => none
 | k + 1, x3, x4, x102000, x102001, x102002 => if x4 < (x102002.length : Int) then (if x3 ≥ 0 then (if 0 ≤ x4 then (zbe.l0 k (wrap64 ((wrap64 (x3 - 1)) - (((zaf x102002 x4).f1).length : Int))) (wrap64 (x4 + 1)) x102000 x102001 x102002) else (none)) else (some (decide (x3 ≥ 0)))) else (some (decide (x3 ≥ 0)))
def zbe.f (k : Nat) (l0_0 : List ByteArray) (l0_1 : List ByteArray) (l0_2 : List (S42)) : Option (Bool) := zbe.l0 k (wrap64 ((wrap64 (20000 - (l0_0.length : Int))) - (l0_1.length : Int))) 0 l0_0 l0_1 l0_2
theorem zbe.calls (k : Nat) (A0_0 : Option Addr) (c0_0 : Nat) (l0_0 : List ByteArray) (A0_1 : Option Addr) (c0_1 : Nat) (l0_1 : List ByteArray) (A0_2 : Option Addr) (c0_2 : Nat) (l0_2 : List (S42)) (r : Bool) (w : World) (hr0_0 : Kd.C Kd.string w A0_0 l0_0.length l0_0) (hc0_0 : l0_0.length ≤ c0_0) (hr0_1 : Kd.C Kd.string w A0_1 l0_1.length l0_1) (hc0_1 : l0_1.length ≤ c0_1) (hr0_2 : Kd.C k42 w A0_2 l0_2.length l0_2) (hc0_2 : l0_2.length ≤ c0_2) (h : zbe.f k l0_0 l0_1 l0_2 = some r) :
  Calls Tryz.prog 24 #[.agg #[.slice A0_0 l0_0.length c0_0, .slice A0_1 l0_1.length c0_1, .slice A0_2 l0_2.length c0_2]] w fun e w' => e = .returned (.bool r) ∧ Below w.heap.size w w' := by
 have hu25 := Tryz.underlying25
 have HR0_0 := zaa.mk hr0_0;have HC0_0 := zaa.mk hc0_0;clear hr0_0 hc0_0;have HR0_1 := zaa.mk hr0_1;have HC0_1 := zaa.mk hc0_1;clear hr0_1 hc0_1;have HR0_2 := zaa.mk hr0_2;have HC0_2 := zaa.mk hc0_2;clear hr0_2 hc0_2
 have HB := zaa.mk (Below.refl w.heap.size w)
 have H : (zbe.l0 k (wrap64 ((wrap64 (20000 - (l0_0.length : Int))) - (l0_1.length : Int))) 0 l0_0 l0_1 l0_2) = some r := h
 clear h
 have H' := zaa.mk H
 clear H
 go_enter Tryz.func24, Tryz.ntmps24
 go_wp2_with (first | ((with_reducible refine zau (N := 1) rfl ?_); refine Ybx 1 #[.slice A0_0 l0_0.length c0_0, .slice A0_1 l0_1.length c0_1, .slice A0_2 l0_2.length c0_2] 25 ?_; intro gb101 hg w2 hbox hb; obtain ⟨BK101, GW101, GE101, HB⟩ := Yb4 hbox hg hb Ybe; clear hb hbox hg; obtain ⟨hcz3_0, hfz3_0, hcz3_1, hfz3_1, hcz3_2, hfz3_2⟩ := Yc3 BK101.out))
 go_loopg [3, 4] k (fun kq v3 v4 w' => ∃ (x3_1 : Int) (x4_1 : Int), v3 = .int .i64 x3_1 ∧ v4 = .int .i64 x4_1 ∧ zaa (zbe.l0 kq x3_1 x4_1 l0_0 l0_1 l0_2 = some r) ∧ zaa (kq ≤ k) ∧ zaa (w'.heap[gb101]? = some (.cells #[(.slice A0_0 l0_0.length c0_0), (.slice A0_1 l0_1.length c0_1), (.slice A0_2 l0_2.length c0_2)] 25 (0, 0))) ∧ zaa (Below w.heap.size w w'))
 case atStart => exact ⟨(wrap64 ((wrap64 (20000 - (l0_0.length : Int))) - (l0_1.length : Int))), (0), Yfs, Yfs, H', ⟨Nat.le_refl _⟩, ⟨Yg BK101⟩, ⟨Yb_PItemTellsx2_0⟩⟩
 case round =>
  clear H'
  obtain ⟨x3_1, x4_1, rfl, rfl, HA, HK1, BK101, HB⟩ := hrel
  cases gk with
  | zero => exact absurd HA.out (by simp [zbe.l0])
  | succ k1 =>
   have H := HA.out;clear HA
   simp only [zbe.l0] at H
   by_cases c4 : x4_1 < (l0_2.length : Int)
   ·rw [if_pos c4] at H
    have c4b0 := decide_eq_true c4
    clear c4
    by_cases c5 : x3_1 ≥ 0
    ·rw [if_pos c5] at H
     have c5b0 := decide_eq_true c5
     clear c5
     by_cases c6 : 0 ≤ x4_1
     ·rw [if_pos c6] at H
      have c6b0 := decide_eq_true c6
      clear c6
      have H' := zaa.mk H
      clear H
      obtain ⟨hcz7_0, hfz7_0, hcz7_1, hfz7_1, hcz7_2, hfz7_2⟩ := Yc3 BK101.out
      have p102 : 0 ≤ (x4_1 : Int) := Yod
      have q102 : x4_1 < (l0_2.length : Int) := Yod
      obtain ⟨ad102, A102_1, c102_1, e102, hx102_0, hx102_1, hx102_2, hl102_1, hi102_1⟩ := zdf HR0_2.out x4_1 p102 q102
      cases e102
      replace hx102_0 := zad HB.out hx102_0
      replace hx102_1 := zad HB.out hx102_1
      replace hx102_2 := zad HB.out hx102_2
      have HR102_1 := zaa.mk hi102_1;have HC102_1 := zaa.mk hl102_1;clear hi102_1 hl102_1
      replace p102 := eq_true p102
      replace q102 := eq_true q102
      go_wp2
      go_roundg k1
      case measure => have := HK1.out; omega
      case rel => exact ⟨(wrap64 ((wrap64 (x3_1 - 1)) - (((zaf l0_2 x4_1).f1).length : Int))), (wrap64 (x4_1 + 1)), Yfs, Yfs, H', ⟨by have := HK1.out; omega⟩, ⟨Yg BK101⟩, ⟨Yb_PItemTellsx2_0⟩⟩
     ·rw [if_neg c6] at H
      exact absurd H (by simp)
    ·rw [if_neg c5] at H
     have c5b0 := decide_eq_false c5
     clear c5;obtain rfl := Option.some.inj H
     obtain ⟨hcz8_0, hfz8_0, hcz8_1, hfz8_1, hcz8_2, hfz8_2⟩ := Yc3 BK101.out
     go_wp2;go_ret
     exact ⟨Yfi, Yb_PItemTellsx2_0⟩
   ·rw [if_neg c4] at H
    have c4b0 := decide_eq_false c4
    clear c4;obtain rfl := Option.some.inj H
    obtain ⟨hcz9_0, hfz9_0, hcz9_1, hfz9_1, hcz9_2, hfz9_2⟩ := Yc3 BK101.out
    go_wp2;go_ret
    exact ⟨Yfi, Yb_PItemTellsx2_0⟩
def zaw.l0 : Nat → List ByteArray → Int → Option (Bool)
 | 0, _, _ => none
 | k + 1, x0, x3 => if x3 < (x0.length : Int) then (if 0 ≤ x3 then (if (rdOf ByteArray.empty x0 x3).toList = ([] : List UInt8) then (some false) else (if ((rdOf ByteArray.empty x0 x3).size : Int) > 80 then (some false) else (zaw.l0 k x0 (wrap64 (x3 + 1))))) else (none)) else (some true)
def zaw.f (k : Nat) (l0 : List ByteArray) : Option (Bool) := zaw.l0 k l0 0
theorem zaw.calls (k : Nat) (A0 : Option Addr) (c0 : Nat) (l0 : List ByteArray) (r : Bool) (w : World) (hr0 : Kd.C Kd.string w A0 l0.length l0) (hc0 : l0.length ≤ c0) (h : zaw.f k l0 = some r) :
  Calls Tryz.prog 42 #[.slice A0 l0.length c0] w fun e w' => e = .returned (.bool r) ∧ za5 w w' := by
 have HR0 := zaa.mk hr0;have HC0 := zaa.mk hc0;clear hr0 hc0
 have H : (zaw.l0 k l0 0) = some r := h
 clear h
 have H' := zaa.mk H
 clear H
 go_enter Tryz.func42, Tryz.ntmps42
 go_wp2
 go_loopg [3] k (fun kq v3 w' => ∃ (x3_1 : Int), v3 = .int .i64 x3_1 ∧ zaa (zaw.l0 kq l0 x3_1 = some r) ∧ zaa (kq ≤ k) ∧ za5 w w')
 case atStart => exact ⟨(0), Yfs, H', ⟨Nat.le_refl _⟩, by repeat (first | exact za5.refl _ | apply za5.step)⟩
 case round =>
  clear H'
  obtain ⟨x3_1, rfl, HA, HK1, ⟨m1, rfl⟩⟩ := hrel
  cases gk with
  | zero => exact absurd HA.out (by simp [zaw.l0])
  | succ k1 =>
   have H := HA.out;clear HA
   simp only [zaw.l0] at H
   by_cases c2 : x3_1 < (l0.length : Int)
   ·rw [if_pos c2] at H
    have c2b0 := decide_eq_true c2
    clear c2
    by_cases c3 : 0 ≤ x3_1
    ·rw [if_pos c3] at H
     have c3b0 := decide_eq_true c3
     clear c3
     by_cases c4 : (rdOf ByteArray.empty l0 x3_1).toList = ([] : List UInt8)
     ·rw [if_pos c4] at H
      have c4b0 : ((rdOf ByteArray.empty l0 x3_1).toList == ([] : List UInt8)) = true := beq_iff_eq.mpr c4
      have c4b1 : ((rdOf ByteArray.empty l0 x3_1).toList != ([] : List UInt8)) = false := bne_eq_false_iff_eq.mpr c4
      clear c4;obtain rfl := Option.some.inj H
      have p103 : 0 ≤ (x3_1 : Int) := Yod
      have q103 : x3_1 < (l0.length : Int) := Yod
      obtain ⟨ad103, e103, hx103_0⟩ := Kd.zff HR0.out x3_1 p103 q103
      cases e103
      replace p103 := eq_true p103
      replace q103 := eq_true q103
      go_wp2;go_ret
      exact ⟨Yfs, by repeat (first | exact za5.refl _ | apply za5.step)⟩
     ·rw [if_neg c4] at H
      have c4b0 : ((rdOf ByteArray.empty l0 x3_1).toList == ([] : List UInt8)) = false := beq_eq_false_iff_ne.mpr c4
      have c4b1 : ((rdOf ByteArray.empty l0 x3_1).toList != ([] : List UInt8)) = true := bne_iff_ne.mpr c4
      by_cases c5 : ((rdOf ByteArray.empty l0 x3_1).size : Int) > 80
      ·rw [if_pos c5] at H
       have c5b0 := decide_eq_true c5
       have c5b1 : decide (80 < (rdOf ByteArray.empty l0 x3_1).size) = true := decide_eq_true (by omega)
       clear c5;obtain rfl := Option.some.inj H
       have p103 : 0 ≤ (x3_1 : Int) := Yod
       have q103 : x3_1 < (l0.length : Int) := Yod
       obtain ⟨ad103, e103, hx103_0⟩ := Kd.zff HR0.out x3_1 p103 q103
       cases e103
       replace p103 := eq_true p103
       replace q103 := eq_true q103
       have p104 : 0 ≤ (x3_1 : Int) := Yod
       have q104 : x3_1 < (l0.length : Int) := Yod
       obtain ⟨ad104, e104, hx104_0⟩ := Kd.zff HR0.out x3_1 p104 q104
       obtain rfl : ad103 = ad104 := (by injection e104)
       replace p104 := eq_true p104
       replace q104 := eq_true q104
       go_wp2;go_ret
       exact ⟨Yfs, by repeat (first | exact za5.refl _ | apply za5.step)⟩
      ·rw [if_neg c5] at H
       have c5b0 := decide_eq_false c5
       have c5b1 : decide (80 < (rdOf ByteArray.empty l0 x3_1).size) = false := decide_eq_false (by omega)
       clear c5
       have H' := zaa.mk H
       clear H
       have p103 : 0 ≤ (x3_1 : Int) := Yod
       have q103 : x3_1 < (l0.length : Int) := Yod
       obtain ⟨ad103, e103, hx103_0⟩ := Kd.zff HR0.out x3_1 p103 q103
       cases e103
       replace p103 := eq_true p103
       replace q103 := eq_true q103
       have p104 : 0 ≤ (x3_1 : Int) := Yod
       have q104 : x3_1 < (l0.length : Int) := Yod
       obtain ⟨ad104, e104, hx104_0⟩ := Kd.zff HR0.out x3_1 p104 q104
       obtain rfl : ad103 = ad104 := (by injection e104)
       replace p104 := eq_true p104
       replace q104 := eq_true q104
       go_wp2
       go_roundg k1
       case measure => have := HK1.out; omega
       case rel => exact ⟨(wrap64 (x3_1 + 1)), Yfs, H', ⟨by have := HK1.out; omega⟩, by repeat (first | exact za5.refl _ | apply za5.step)⟩
    ·rw [if_neg c3] at H
     exact absurd H (by simp)
   ·rw [if_neg c2] at H
    have c2b0 := decide_eq_false c2
    clear c2;obtain rfl := Option.some.inj H;go_wp2;go_ret
    exact ⟨Yfs, by repeat (first | exact za5.refl _ | apply za5.step)⟩
def zcb.f (a0 : Int) : Option (Bool) := if a0 ≥ 97 then (if a0 ≤ 122 then (some true) else (if a0 ≥ 65 then (if a0 ≤ 90 then (some true) else (some (a0 == 95))) else (some (a0 == 95)))) else (if a0 ≥ 65 then (if a0 ≤ 90 then (some true) else (some (a0 == 95))) else (some (a0 == 95)))
theorem zcb.calls (a0 : Int) (r : Bool) (w : World) (h : zcb.f a0 = some r) :
  Calls Tryz.prog 66 #[.int .u8 a0] w fun e w' => e = .returned (.bool r) ∧ za5 w w' := by
 have H : (if a0 ≥ 97 then (if a0 ≤ 122 then (some true) else (if a0 ≥ 65 then (if a0 ≤ 90 then (some true) else (some (a0 == 95))) else (some (a0 == 95)))) else (if a0 ≥ 65 then (if a0 ≤ 90 then (some true) else (some (a0 == 95))) else (some (a0 == 95)))) = some r := h
 clear h
 by_cases c2 : a0 ≥ 97
 ·rw [if_pos c2] at H
  have c2b0 := decide_eq_true c2
  clear c2
  by_cases c3 : a0 ≤ 122
  ·rw [if_pos c3] at H
   have c3b0 := decide_eq_true c3
   clear c3;obtain rfl := Option.some.inj H
   go_enter Tryz.func66, Tryz.ntmps66
   go_wp2;go_ret
   exact ⟨Yfs, by repeat (first | exact za5.refl _ | apply za5.step)⟩
  ·rw [if_neg c3] at H
   have c3b0 := decide_eq_false c3
   clear c3
   by_cases c4 : a0 ≥ 65
   ·rw [if_pos c4] at H
    have c4b0 := decide_eq_true c4
    clear c4
    by_cases c5 : a0 ≤ 90
    ·rw [if_pos c5] at H
     have c5b0 := decide_eq_true c5
     clear c5;obtain rfl := Option.some.inj H
     go_enter Tryz.func66, Tryz.ntmps66
     go_wp2;go_ret
     exact ⟨Yfs, by repeat (first | exact za5.refl _ | apply za5.step)⟩
    ·rw [if_neg c5] at H
     have c5b0 := decide_eq_false c5
     clear c5;obtain rfl := Option.some.inj H
     go_enter Tryz.func66, Tryz.ntmps66
     go_wp2;go_ret
     exact ⟨Yfs, by repeat (first | exact za5.refl _ | apply za5.step)⟩
   ·rw [if_neg c4] at H
    have c4b0 := decide_eq_false c4
    clear c4;obtain rfl := Option.some.inj H
    go_enter Tryz.func66, Tryz.ntmps66
    go_wp2;go_ret
    exact ⟨Yfs, by repeat (first | exact za5.refl _ | apply za5.step)⟩
 ·rw [if_neg c2] at H
  have c2b0 := decide_eq_false c2
  clear c2
  by_cases c6 : a0 ≥ 65
  ·rw [if_pos c6] at H
   have c6b0 := decide_eq_true c6
   clear c6
   by_cases c7 : a0 ≤ 90
   ·rw [if_pos c7] at H
    have c7b0 := decide_eq_true c7
    clear c7;obtain rfl := Option.some.inj H
    go_enter Tryz.func66, Tryz.ntmps66
    go_wp2;go_ret
    exact ⟨Yfs, by repeat (first | exact za5.refl _ | apply za5.step)⟩
   ·rw [if_neg c7] at H
    have c7b0 := decide_eq_false c7
    clear c7;obtain rfl := Option.some.inj H
    go_enter Tryz.func66, Tryz.ntmps66
    go_wp2;go_ret
    exact ⟨Yfs, by repeat (first | exact za5.refl _ | apply za5.step)⟩
  ·rw [if_neg c6] at H
   have c6b0 := decide_eq_false c6
   clear c6;obtain rfl := Option.some.inj H
   go_enter Tryz.func66, Tryz.ntmps66
   go_wp2;go_ret
   exact ⟨Yfs, by repeat (first | exact za5.refl _ | apply za5.step)⟩
def zcd.f (a0 : Int) : Option (Bool) := if a0 ≥ 48 then (some (decide (a0 ≤ 57))) else (some false)
theorem zcd.calls (a0 : Int) (r : Bool) (w : World) (h : zcd.f a0 = some r) :
  Calls Tryz.prog 67 #[.int .u8 a0] w fun e w' => e = .returned (.bool r) ∧ za5 w w' := by
 have H : (if a0 ≥ 48 then (some (decide (a0 ≤ 57))) else (some false)) = some r := h
 clear h
 by_cases c2 : a0 ≥ 48
 ·rw [if_pos c2] at H
  have c2b0 := decide_eq_true c2
  clear c2;obtain rfl := Option.some.inj H
  go_enter Tryz.func67, Tryz.ntmps67
  go_wp2;go_ret
  exact ⟨Yfs, by repeat (first | exact za5.refl _ | apply za5.step)⟩
 ·rw [if_neg c2] at H
  have c2b0 := decide_eq_false c2
  clear c2;obtain rfl := Option.some.inj H
  go_enter Tryz.func67, Tryz.ntmps67
  go_wp2;go_ret
  exact ⟨Yfs, by repeat (first | exact za5.refl _ | apply za5.step)⟩
def za7.l0 : Nat → ByteArray → Int → Option (Bool)
 | 0, _, _ => none
 | k + 1, x0, x3 => if x3 < (x0.size : Int) then (if 0 ≤ x3 then ((zcb.f (bt x0 x3)).bind fun t105 => (if t105 = true then (za7.l0 k x0 (wrap64 (x3 + 1))) else (if x3 = 0 then (some false) else ((zcd.f (bt x0 x3)).bind fun t106 => (if t106 = true then (za7.l0 k x0 (wrap64 (x3 + 1))) else (some false)))))) else (none)) else (if x0.toList = ([] : List UInt8) then (some false) else (some (decide ((x0.size : Int) ≤ 32))))
def za7.f (k : Nat) (a0 : ByteArray) : Option (Bool) := za7.l0 k a0 0
theorem za7.calls (k : Nat) (a0 : ByteArray) (r : Bool) (w : World) (h : za7.f k a0 = some r) :
  Calls Tryz.prog 55 #[.string a0] w fun e w' => e = .returned (.bool r) ∧ za5 w w' := by
 have H : (za7.l0 k a0 0) = some r := h
 clear h
 have H' := zaa.mk H
 clear H
 go_enter Tryz.func55, Tryz.ntmps55
 go_wp2
 go_loopg [3] k (fun kq v3 w' => ∃ (x3_1 : Int), v3 = .int .i64 x3_1 ∧ zaa (za7.l0 kq a0 x3_1 = some r) ∧ zaa (kq ≤ k) ∧ za5 w w')
 case atStart => exact ⟨(0), Yfs, H', ⟨Nat.le_refl _⟩, by repeat (first | exact za5.refl _ | apply za5.step)⟩
 case round =>
  clear H'
  obtain ⟨x3_1, rfl, HA, HK1, ⟨m1, rfl⟩⟩ := hrel
  cases gk with
  | zero => exact absurd HA.out (by simp [za7.l0])
  | succ k1 =>
   have H := HA.out;clear HA
   simp only [za7.l0] at H
   by_cases c2 : x3_1 < (a0.size : Int)
   ·rw [if_pos c2] at H
    have c2b0 := decide_eq_true c2
    clear c2
    by_cases c3 : 0 ≤ x3_1
    ·rw [if_pos c3] at H
     have c3b0 := decide_eq_true c3
     clear c3;replace H := Option.bind_eq_some_iff.mp H
     obtain ⟨t105, A50, H⟩ := H
     replace H : (if t105 = true then (za7.l0 k1 a0 (wrap64 (x3_1 + 1))) else (if x3_1 = 0 then (some false) else ((zcd.f (bt a0 x3_1)).bind fun t106 => (if t106 = true then (za7.l0 k1 a0 (wrap64 (x3_1 + 1))) else (some false))))) = some r := H
     have A5 := zaa.mk A50;clear A50
     by_cases c6 : t105 = true
     ·subst c6
      have H1 : (za7.l0 k1 a0 (wrap64 (x3_1 + 1))) = some r := by rw [if_pos rfl] at H; exact H
      clear H;have H := H1;clear H1
      have H' := zaa.mk H
      clear H
      have p4 : 0 ≤ (x3_1 : Int) := Yod
      have q4 : x3_1 < (a0.size : Int) := Yod
      have hx4 := bt_at a0 x3_1
      replace p4 := eq_true p4
      replace q4 := eq_true q4
      go_wp2_with (first | ((with_reducible refine zbm (f := 66) rfl ?_); refine Ygl (some 13) Tryz.func66 #[.int .u8 (bt a0 x3_1)] ?_; (with_reducible refine (zcb.calls (bt a0 x3_1) true _ A5.out).mono ?_); rintro e w' ⟨rfl, ⟨nd, rfl⟩⟩; refine ⟨_, rfl, ?_⟩))
      go_roundg k1
      case measure => have := HK1.out; omega
      case rel => exact ⟨(wrap64 (x3_1 + 1)), Yfs, H', ⟨by have := HK1.out; omega⟩, by repeat (first | exact za5.refl _ | apply za5.step)⟩
     ·replace c6 := Bool.eq_false_iff.mpr c6
      subst c6
      have H1 : (if x3_1 = 0 then (some false) else ((zcd.f (bt a0 x3_1)).bind fun t106 => (if t106 = true then (za7.l0 k1 a0 (wrap64 (x3_1 + 1))) else (some false)))) = some r := by rw [if_neg (show ¬ (false = true) by decide)] at H; exact H
      clear H;have H := H1;clear H1
      by_cases c7 : x3_1 = 0
      ·rw [if_pos c7] at H
       have c7b0 : (x3_1 == 0) = true := beq_iff_eq.mpr c7
       have c7b1 : (x3_1 != 0) = false := bne_eq_false_iff_eq.mpr c7
       clear c7;obtain rfl := Option.some.inj H
       have p4 : 0 ≤ (x3_1 : Int) := Yod
       have q4 : x3_1 < (a0.size : Int) := Yod
       have hx4 := bt_at a0 x3_1
       replace p4 := eq_true p4
       replace q4 := eq_true q4
       go_wp2_with (first | ((with_reducible refine zbm (f := 66) rfl ?_); refine Ygl (some 13) Tryz.func66 #[.int .u8 (bt a0 x3_1)] ?_; (with_reducible refine (zcb.calls (bt a0 x3_1) false _ A5.out).mono ?_); rintro e w' ⟨rfl, ⟨nd, rfl⟩⟩; refine ⟨_, rfl, ?_⟩))
       go_ret
       exact ⟨Yfs, by repeat (first | exact za5.refl _ | apply za5.step)⟩
      ·rw [if_neg c7] at H
       have c7b0 : (x3_1 == 0) = false := beq_eq_false_iff_ne.mpr c7
       have c7b1 : (x3_1 != 0) = true := bne_iff_ne.mpr c7
       replace H := Option.bind_eq_some_iff.mp H
       obtain ⟨t106, A90, H⟩ := H
       replace H : (if t106 = true then (za7.l0 k1 a0 (wrap64 (x3_1 + 1))) else (some false)) = some r := H
       have A9 := zaa.mk A90;clear A90
       by_cases c10 : t106 = true
       ·subst c10
        have H1 : (za7.l0 k1 a0 (wrap64 (x3_1 + 1))) = some r := by rw [if_pos rfl] at H; exact H
        clear H;have H := H1;clear H1
        have H' := zaa.mk H
        clear H
        have p4 : 0 ≤ (x3_1 : Int) := Yod
        have q4 : x3_1 < (a0.size : Int) := Yod
        have hx4 := bt_at a0 x3_1
        replace p4 := eq_true p4
        replace q4 := eq_true q4
        go_wp2_with (first | ((with_reducible refine zbm (f := 66) rfl ?_); refine Ygl (some 13) Tryz.func66 #[.int .u8 (bt a0 x3_1)] ?_; (with_reducible refine (zcb.calls (bt a0 x3_1) false _ A5.out).mono ?_); rintro e w' ⟨rfl, ⟨nd, rfl⟩⟩; refine ⟨_, rfl, ?_⟩; have p8 : 0 ≤ (x3_1 : Int) := Yod; have q8 : x3_1 < (a0.size : Int) := Yod; have hx8 := bt_at a0 x3_1; replace p8 := eq_true p8; replace q8 := eq_true q8) | (go_at_call 67; (with_reducible refine (zcd.calls (bt a0 x3_1) true _ A9.out).mono ?_); rintro e w' ⟨rfl, ⟨nd, rfl⟩⟩))
        go_roundg k1
        case measure => have := HK1.out; omega
        case rel => exact ⟨(wrap64 (x3_1 + 1)), Yfs, H', ⟨by have := HK1.out; omega⟩, by repeat (first | exact za5.refl _ | apply za5.step)⟩
       ·replace c10 := Bool.eq_false_iff.mpr c10
        subst c10
        have H1 : (some false) = some r := by rw [if_neg (show ¬ (false = true) by decide)] at H; exact H
        clear H;have H := H1;clear H1;obtain rfl := Option.some.inj H
        have p4 : 0 ≤ (x3_1 : Int) := Yod
        have q4 : x3_1 < (a0.size : Int) := Yod
        have hx4 := bt_at a0 x3_1
        replace p4 := eq_true p4
        replace q4 := eq_true q4
        go_wp2_with (first | ((with_reducible refine zbm (f := 66) rfl ?_); refine Ygl (some 13) Tryz.func66 #[.int .u8 (bt a0 x3_1)] ?_; (with_reducible refine (zcb.calls (bt a0 x3_1) false _ A5.out).mono ?_); rintro e w' ⟨rfl, ⟨nd, rfl⟩⟩; refine ⟨_, rfl, ?_⟩; have p8 : 0 ≤ (x3_1 : Int) := Yod; have q8 : x3_1 < (a0.size : Int) := Yod; have hx8 := bt_at a0 x3_1; replace p8 := eq_true p8; replace q8 := eq_true q8) | (go_at_call 67; (with_reducible refine (zcd.calls (bt a0 x3_1) false _ A9.out).mono ?_); rintro e w' ⟨rfl, ⟨nd, rfl⟩⟩))
        go_ret
        exact ⟨Yfs, by repeat (first | exact za5.refl _ | apply za5.step)⟩
    ·rw [if_neg c3] at H
     exact absurd H (by simp)
   ·rw [if_neg c2] at H
    have c2b0 := decide_eq_false c2
    clear c2
    by_cases c11 : a0.toList = ([] : List UInt8)
    ·rw [if_pos c11] at H
     have c11b0 : (a0.toList == ([] : List UInt8)) = true := beq_iff_eq.mpr c11
     have c11b1 : (a0.toList != ([] : List UInt8)) = false := bne_eq_false_iff_eq.mpr c11
     clear c11;obtain rfl := Option.some.inj H;go_wp2;go_ret
     exact ⟨Yfs, by repeat (first | exact za5.refl _ | apply za5.step)⟩
    ·rw [if_neg c11] at H
     have c11b0 : (a0.toList == ([] : List UInt8)) = false := beq_eq_false_iff_ne.mpr c11
     have c11b1 : (a0.toList != ([] : List UInt8)) = true := bne_iff_ne.mpr c11
     obtain rfl := Option.some.inj H;go_wp2;go_ret
     exact ⟨Yfs, by repeat (first | exact za5.refl _ | apply za5.step)⟩
def zbb.f (k : Nat) (a0 : ByteArray) : Option (Bool) := if a0.toList = ([] : List UInt8) then (some true) else ((za7.f k a0).bind fun t107 => (some t107))
theorem zbb.calls (k : Nat) (a0 : ByteArray) (r : Bool) (w : World) (h : zbb.f k a0 = some r) :
  Calls Tryz.prog 43 #[.string a0] w fun e w' => e = .returned (.bool r) ∧ za5 w w' := by
 have H : (if a0.toList = ([] : List UInt8) then (some true) else ((za7.f k a0).bind fun t107 => (some t107))) = some r := h
 clear h
 by_cases c2 : a0.toList = ([] : List UInt8)
 ·rw [if_pos c2] at H
  have c2b0 : (a0.toList == ([] : List UInt8)) = true := beq_iff_eq.mpr c2
  have c2b1 : (a0.toList != ([] : List UInt8)) = false := bne_eq_false_iff_eq.mpr c2
  clear c2;obtain rfl := Option.some.inj H
  go_enter Tryz.func43, Tryz.ntmps43
  go_wp2;go_ret
  exact ⟨Yfs, by repeat (first | exact za5.refl _ | apply za5.step)⟩
 ·rw [if_neg c2] at H
  have c2b0 : (a0.toList == ([] : List UInt8)) = false := beq_eq_false_iff_ne.mpr c2
  have c2b1 : (a0.toList != ([] : List UInt8)) = true := bne_iff_ne.mpr c2
  replace H := Option.bind_eq_some_iff.mp H
  obtain ⟨t107, A30, H⟩ := H
  replace H : (some t107) = some r := H
  have A3 := zaa.mk A30;clear A30;obtain rfl := Option.some.inj H
  go_enter Tryz.func43, Tryz.ntmps43
  go_wp2_with (first | (go_at_call 55; (with_reducible refine (za7.calls k a0 t107 _ A3.out).mono ?_); rintro e w' ⟨rfl, ⟨nd, rfl⟩⟩))
  go_ret
  exact ⟨Yfs, by repeat (first | exact za5.refl _ | apply za5.step)⟩
section
end
theorem Yb_PItemTellsx3_0 {n : Nat} {w w' : World} (h : Below n w w' := by repeat (first | (with_reducible first | exact HB.out | apply za2 | apply zav | apply zas | refine za6 ?_ GE108.out) | exact HB.out)) : Below n w w' := h
theorem Yb_PItemTellsx3_1 {n : Nat} {w w' : World} (h : Below n w w' := by repeat (first | (with_reducible first | exact HB.out | apply za2 | apply zav | apply zas | refine za6 ?_ GE108.out | refine za6 ?_ GE112.out) | exact HB.out)) : Below n w w' := h
theorem Yb_PItemTellsx3_2 {n : Nat} {w w' : World} (h : Below n w w' := by repeat (first | (with_reducible first | exact HB.out | apply za2 | apply zav | apply zas | refine za6 ?_ GE108.out | refine za6 ?_ GE112.out | refine za6 ?_ GE115.out) | exact HB.out)) : Below n w w' := h
mutual
def zai.j0 : Nat → Int → Bool → List ByteArray → List ByteArray → List (S42) → Option (Bool)
 | 0, _, _, _, _, _ => none
 | k + 1, x3, x40, x109000, x109001, x109002 => if x40 = true then (some false) else (zai.l0 k x3 0 x109000 x109001 x109002)
def zai.l0 : Nat → Int → Int → List ByteArray → List ByteArray → List (S42) → Option (Bool)
 | 0, _, _, _, _, _ => none
 | k + 1, x3, x4, x109000, x109001, x109002 => if x4 < (x109002.length : Int) then (if 0 ≤ x4 then (if ((zaf x109002 x4).f0) < (x109000.length : Int) then (zai.j2 k x3 x4 true x109000 x109001 x109002 ((zaf x109002 x4).f0) ((zaf x109002 x4).f1) ((zaf x109002 x4).f2)) else (if ((zaf x109002 x4).f0) ≥ x3 then (zai.j2 k x3 x4 true x109000 x109001 x109002 ((zaf x109002 x4).f0) ((zaf x109002 x4).f1) ((zaf x109002 x4).f2)) else (if x4 > 0 then (if 0 ≤ (wrap64 (x4 - 1)) then (if (wrap64 (x4 - 1)) < (x109002.length : Int) then (if ((zaf x109002 (wrap64 (x4 - 1))).f0) > ((zaf x109002 x4).f0) then (zai.j2 k x3 x4 true x109000 x109001 x109002 ((zaf x109002 x4).f0) ((zaf x109002 x4).f1) ((zaf x109002 x4).f2)) else (if (((zaf x109002 x4).f1).length : Int) > 64 then (zai.j2 k x3 x4 true x109000 x109001 x109002 ((zaf x109002 x4).f0) ((zaf x109002 x4).f1) ((zaf x109002 x4).f2)) else (if ((zaf x109002 x4).f2) < (-10000) then (zai.j2 k x3 x4 true x109000 x109001 x109002 ((zaf x109002 x4).f0) ((zaf x109002 x4).f1) ((zaf x109002 x4).f2)) else (zai.j2 k x3 x4 (decide (((zaf x109002 x4).f2) > 10000)) x109000 x109001 x109002 ((zaf x109002 x4).f0) ((zaf x109002 x4).f1) ((zaf x109002 x4).f2))))) else (none)) else (none)) else (if (((zaf x109002 x4).f1).length : Int) > 64 then (zai.j2 k x3 x4 true x109000 x109001 x109002 ((zaf x109002 x4).f0) ((zaf x109002 x4).f1) ((zaf x109002 x4).f2)) else (if ((zaf x109002 x4).f2) < (-10000) then (zai.j2 k x3 x4 true x109000 x109001 x109002 ((zaf x109002 x4).f0) ((zaf x109002 x4).f1) ((zaf x109002 x4).f2)) else (zai.j2 k x3 x4 (decide (((zaf x109002 x4).f2) > 10000)) x109000 x109001 x109002 ((zaf x109002 x4).f0) ((zaf x109002 x4).f1) ((zaf x109002 x4).f2))))))) else (none)) else (some true)
def zai.j2 : Nat → Int → Int → Bool → List ByteArray → List ByteArray → List (S42) → Int → List (S44) → Int → Option (Bool)
 | 0, _, _, _, _, _, _, _, _, _ => none
 | k + 1, x3, x4, x96, x109000, x109001, x109002, x113000, x113001, x113002 => if x96 = true then (some false) else (zai.l1 k x3 x4 0 x109000 x109001 x109002 x113000 x113001 x113002)
def zai.l1 : Nat → Int → Int → Int → List ByteArray → List ByteArray → List (S42) → Int → List (S44) → Int → Option (Bool)
 | 0, _, _, _, _, _, _, _, _, _ => none
 | k + 1, x3, x4, x6, x109000, x109001, x109002, x113000, x113001, x113002 => if x6 < (x113001.length : Int) then (if 0 ≤ x6 then (if ((za3 x113001 x6).f0) < 0 then (some false) else (if ((za3 x113001 x6).f0) ≥ x3 then (some false) else ((zbb.f k ((za3 x113001 x6).f1)).bind fun t116 => (if t116 = true then ((zbb.f k ((za3 x113001 x6).f2)).bind fun t117 => (if t117 = true then (zai.l1 k x3 x4 (wrap64 (x6 + 1)) x109000 x109001 x109002 x113000 x113001 x113002) else (some false))) else (some false))))) else (none)) else (zai.l0 k x3 (wrap64 (x4 + 1)) x109000 x109001 x109002)
end
def zai.f (k : Nat) (l0_0 : List ByteArray) (l0_1 : List ByteArray) (l0_2 : List (S42)) : Option (Bool) := if (l0_1.length : Int) = 0 then (zai.j0 k (wrap64 ((l0_0.length : Int) + (l0_1.length : Int))) true l0_0 l0_1 l0_2) else (if (wrap64 ((l0_0.length : Int) + (l0_1.length : Int))) > 600 then (zai.j0 k (wrap64 ((l0_0.length : Int) + (l0_1.length : Int))) true l0_0 l0_1 l0_2) else (if (l0_2.length : Int) > 400 then (zai.j0 k (wrap64 ((l0_0.length : Int) + (l0_1.length : Int))) true l0_0 l0_1 l0_2) else ((zaw.f k l0_0).bind fun t109 => (if t109 = true then ((zaw.f k l0_1).bind fun t110 => (zai.j0 k (wrap64 ((l0_0.length : Int) + (l0_1.length : Int))) (!t110) l0_0 l0_1 l0_2)) else (zai.j0 k (wrap64 ((l0_0.length : Int) + (l0_1.length : Int))) true l0_0 l0_1 l0_2)))))
theorem zai.calls (k : Nat) (A0_0 : Option Addr) (c0_0 : Nat) (l0_0 : List ByteArray) (A0_1 : Option Addr) (c0_1 : Nat) (l0_1 : List ByteArray) (A0_2 : Option Addr) (c0_2 : Nat) (l0_2 : List (S42)) (r : Bool) (w : World) (hr0_0 : Kd.C Kd.string w A0_0 l0_0.length l0_0) (hc0_0 : l0_0.length ≤ c0_0) (hr0_1 : Kd.C Kd.string w A0_1 l0_1.length l0_1) (hc0_1 : l0_1.length ≤ c0_1) (hr0_2 : Kd.C k42 w A0_2 l0_2.length l0_2) (hc0_2 : l0_2.length ≤ c0_2) (h : zai.f k l0_0 l0_1 l0_2 = some r) :
  Calls Tryz.prog 25 #[.agg #[.slice A0_0 l0_0.length c0_0, .slice A0_1 l0_1.length c0_1, .slice A0_2 l0_2.length c0_2]] w fun e w' => e = .returned (.bool r) ∧ Below w.heap.size w w' := by
 have hu25 := Tryz.underlying25
 have hu42 := Tryz.underlying42
 have hu44 := Tryz.underlying44
 have HR0_0 := zaa.mk hr0_0;have HC0_0 := zaa.mk hc0_0;clear hr0_0 hc0_0;have HR0_1 := zaa.mk hr0_1;have HC0_1 := zaa.mk hc0_1;clear hr0_1 hc0_1;have HR0_2 := zaa.mk hr0_2;have HC0_2 := zaa.mk hc0_2;clear hr0_2 hc0_2
 have HB := zaa.mk (Below.refl w.heap.size w)
 have H : (if (l0_1.length : Int) = 0 then (zai.j0 k (wrap64 ((l0_0.length : Int) + (l0_1.length : Int))) true l0_0 l0_1 l0_2) else (if (wrap64 ((l0_0.length : Int) + (l0_1.length : Int))) > 600 then (zai.j0 k (wrap64 ((l0_0.length : Int) + (l0_1.length : Int))) true l0_0 l0_1 l0_2) else (if (l0_2.length : Int) > 400 then (zai.j0 k (wrap64 ((l0_0.length : Int) + (l0_1.length : Int))) true l0_0 l0_1 l0_2) else ((zaw.f k l0_0).bind fun t109 => (if t109 = true then ((zaw.f k l0_1).bind fun t110 => (zai.j0 k (wrap64 ((l0_0.length : Int) + (l0_1.length : Int))) (!t110) l0_0 l0_1 l0_2)) else (zai.j0 k (wrap64 ((l0_0.length : Int) + (l0_1.length : Int))) true l0_0 l0_1 l0_2)))))) = some r := h
 clear h;have HC2 := zaa.mk H;clear H
 go_enter Tryz.func25, Tryz.ntmps25
 go_upto_region 2 with (first | ((with_reducible refine zau (N := 1) rfl ?_); (try (refine zaz (by rfl) ?_; dsimp only)); refine Ybx 1 #[.slice A0_0 l0_0.length c0_0, .slice A0_1 l0_1.length c0_1, .slice A0_2 l0_2.length c0_2] 25 ?_; intro gb108 hg w3 hbox hb; obtain ⟨BK108, GW108, GE108, HB⟩ := Yb4 hbox hg hb Ybe; clear hb hbox hg; obtain ⟨hcz4_0, hfz4_0, hcz4_1, hfz4_1, hcz4_2, hfz4_2⟩ := Yc3 BK108.out))
 repeat (go_quiet (first | ((with_reducible refine zau (N := 1) rfl ?_); (try (refine zaz (by rfl) ?_; dsimp only)); refine Ybx 1 #[.slice A0_0 l0_0.length c0_0, .slice A0_1 l0_1.length c0_1, .slice A0_2 l0_2.length c0_2] 25 ?_; intro gb108 hg w3 hbox hb; obtain ⟨BK108, GW108, GE108, HB⟩ := Yb4 hbox hg hb Ybe; clear hb hbox hg; obtain ⟨hcz4_0, hfz4_0, hcz4_1, hfz4_1, hcz4_2, hfz4_2⟩ := Yc3 BK108.out)); go_upto_region 2 with (first | ((with_reducible refine zau (N := 1) rfl ?_); (try (refine zaz (by rfl) ?_; dsimp only)); refine Ybx 1 #[.slice A0_0 l0_0.length c0_0, .slice A0_1 l0_1.length c0_1, .slice A0_2 l0_2.length c0_2] 25 ?_; intro gb108 hg w3 hbox hb; obtain ⟨BK108, GW108, GE108, HB⟩ := Yb4 hbox hg hb Ybe; clear hb hbox hg; obtain ⟨hcz4_0, hfz4_0, hcz4_1, hfz4_1, hcz4_2, hfz4_2⟩ := Yc3 BK108.out)))
 (try simp only [Act.put, Y1, Y2, Y3])
 go_cut [40] (fun v40 wc => ∃ (kq : Nat) (x40_1 : Bool), v40 = .bool x40_1 ∧ zaa (zai.j0 kq (wrap64 ((l0_0.length : Int) + (l0_1.length : Int))) x40_1 l0_0 l0_1 l0_2 = some r) ∧ zaa (kq ≤ k) ∧ zaa (wc.heap[gb108]? = some (.cells #[(.slice A0_0 l0_0.length c0_0), (.slice A0_1 l0_1.length c0_1), (.slice A0_2 l0_2.length c0_2)] 25 (0, 0))) ∧ zaa (Below w.heap.size w wc))
 case first =>
  have H := HC2.out;clear HC2
  by_cases c5 : (l0_1.length : Int) = 0
  ·rw [if_pos c5] at H
   have c5b0 : ((l0_1.length : Int) == 0) = true := beq_iff_eq.mpr c5
   have c5b1 : ((l0_1.length : Int) != 0) = false := bne_eq_false_iff_eq.mpr c5
   clear c5
   (first | rw [c5b0] | (simp only [zd9, zeo]; rw [c5b0]) | skip)
   have H' := zaa.mk H
   clear H
   obtain ⟨hcz6_0, hfz6_0, hcz6_1, hfz6_1, hcz6_2, hfz6_2⟩ := Yc3 BK108.out
   go_wp2
   repeat (go_quiet (fail); try go_wp2)
   go_meet
   case rel => exact ⟨_, (true), Yfs, H', ⟨by first | omega | exact Nat.le_refl _⟩, ⟨Yg BK108⟩, ⟨Yb_PItemTellsx3_0⟩⟩
  ·rw [if_neg c5] at H
   have c5b0 : ((l0_1.length : Int) == 0) = false := beq_eq_false_iff_ne.mpr c5
   have c5b1 : ((l0_1.length : Int) != 0) = true := bne_iff_ne.mpr c5
   have c5b2 : ¬ (l0_1 = []) := fun h_ => c5 (by rw [h_]; rfl)
   (first | rw [c5b0] | (simp only [zd9, zeo]; rw [c5b0]) | skip)
   by_cases c7 : (wrap64 ((l0_0.length : Int) + (l0_1.length : Int))) > 600
   ·rw [if_pos c7] at H
    have c7b0 := decide_eq_true c7
    clear c7
    have H' := zaa.mk H
    clear H
    obtain ⟨hcz8_0, hfz8_0, hcz8_1, hfz8_1, hcz8_2, hfz8_2⟩ := Yc3 BK108.out
    go_wp2
    repeat (go_quiet (fail); try go_wp2)
    go_meet
    case rel => exact ⟨_, (true), Yfs, H', ⟨by first | omega | exact Nat.le_refl _⟩, ⟨Yg BK108⟩, ⟨Yb_PItemTellsx3_0⟩⟩
   ·rw [if_neg c7] at H
    have c7b0 := decide_eq_false c7
    clear c7
    by_cases c9 : (l0_2.length : Int) > 400
    ·rw [if_pos c9] at H
     have c9b0 := decide_eq_true c9
     have c9b1 : decide (400 < l0_2.length) = true := decide_eq_true (by omega)
     clear c9
     have H' := zaa.mk H
     clear H
     obtain ⟨hcz10_0, hfz10_0, hcz10_1, hfz10_1, hcz10_2, hfz10_2⟩ := Yc3 BK108.out
     go_wp2
     repeat (go_quiet (fail); try go_wp2)
     go_meet
     case rel => exact ⟨_, (true), Yfs, H', ⟨by first | omega | exact Nat.le_refl _⟩, ⟨Yg BK108⟩, ⟨Yb_PItemTellsx3_0⟩⟩
    ·rw [if_neg c9] at H
     have c9b0 := decide_eq_false c9
     have c9b1 : decide (400 < l0_2.length) = false := decide_eq_false (by omega)
     clear c9;replace H := Option.bind_eq_some_iff.mp H
     obtain ⟨t109, A110, H⟩ := H
     replace H : (if t109 = true then ((zaw.f k l0_1).bind fun t110 => (zai.j0 k (wrap64 ((l0_0.length : Int) + (l0_1.length : Int))) (!t110) l0_0 l0_1 l0_2)) else (zai.j0 k (wrap64 ((l0_0.length : Int) + (l0_1.length : Int))) true l0_0 l0_1 l0_2)) = some r := H
     have A11 := zaa.mk A110;clear A110
     by_cases c12 : t109 = true
     ·subst c12
      have H1 : ((zaw.f k l0_1).bind fun t110 => (zai.j0 k (wrap64 ((l0_0.length : Int) + (l0_1.length : Int))) (!t110) l0_0 l0_1 l0_2)) = some r := by rw [if_pos rfl] at H; exact H
      clear H;have H := H1;clear H1;replace H := Option.bind_eq_some_iff.mp H
      obtain ⟨t110, A130, H⟩ := H
      replace H : (zai.j0 k (wrap64 ((l0_0.length : Int) + (l0_1.length : Int))) (!t110) l0_0 l0_1 l0_2) = some r := H
      have A13 := zaa.mk A130;clear A130
      have H' := zaa.mk H
      clear H
      obtain ⟨hcz14_0, hfz14_0, hcz14_1, hfz14_1, hcz14_2, hfz14_2⟩ := Yc3 BK108.out
      go_wp2_with (first | (go_at_call 42; (with_reducible refine (zaw.calls k _ _ l0_0 true _ (Kd.zak HR0_0.out Ybe) HC0_0.out A11.out).mono ?_); rintro e w' ⟨rfl, ⟨nd, rfl⟩⟩; (try first | exact ⟨rfl, _, World.drewN_drewN _ _ _⟩ | exact ⟨rfl, _, Ydd⟩)) | (go_at_call 42; (with_reducible refine (zaw.calls k _ _ l0_1 t110 _ (Kd.zak HR0_1.out Yb_PItemTellsx3_0) HC0_1.out A13.out).mono ?_); rintro e w' ⟨rfl, ⟨nd, rfl⟩⟩; (try first | exact ⟨rfl, _, World.drewN_drewN _ _ _⟩ | exact ⟨rfl, _, Ydd⟩)))
      repeat (go_quiet (first | (go_at_call 42; (with_reducible refine (zaw.calls k _ _ l0_0 true _ (Kd.zak HR0_0.out Ybe) HC0_0.out A11.out).mono ?_); rintro e w' ⟨rfl, ⟨nd, rfl⟩⟩; (try first | exact ⟨rfl, _, World.drewN_drewN _ _ _⟩ | exact ⟨rfl, _, Ydd⟩)) | (go_at_call 42; (with_reducible refine (zaw.calls k _ _ l0_1 t110 _ (Kd.zak HR0_1.out Yb_PItemTellsx3_0) HC0_1.out A13.out).mono ?_); rintro e w' ⟨rfl, ⟨nd, rfl⟩⟩; (try first | exact ⟨rfl, _, World.drewN_drewN _ _ _⟩ | exact ⟨rfl, _, Ydd⟩))); try go_wp2_with (first | (go_at_call 42; (with_reducible refine (zaw.calls k _ _ l0_0 true _ (Kd.zak HR0_0.out Ybe) HC0_0.out A11.out).mono ?_); rintro e w' ⟨rfl, ⟨nd, rfl⟩⟩; (try first | exact ⟨rfl, _, World.drewN_drewN _ _ _⟩ | exact ⟨rfl, _, Ydd⟩)) | (go_at_call 42; (with_reducible refine (zaw.calls k _ _ l0_1 t110 _ (Kd.zak HR0_1.out Yb_PItemTellsx3_0) HC0_1.out A13.out).mono ?_); rintro e w' ⟨rfl, ⟨nd, rfl⟩⟩; (try first | exact ⟨rfl, _, World.drewN_drewN _ _ _⟩ | exact ⟨rfl, _, Ydd⟩))))
      go_meet
      case rel => exact ⟨_, (!t110), Yfs, H', ⟨by first | omega | exact Nat.le_refl _⟩, ⟨Yg BK108⟩, ⟨Yb_PItemTellsx3_0⟩⟩
     ·replace c12 := Bool.eq_false_iff.mpr c12
      subst c12
      have H1 : (zai.j0 k (wrap64 ((l0_0.length : Int) + (l0_1.length : Int))) true l0_0 l0_1 l0_2) = some r := by rw [if_neg (show ¬ (false = true) by decide)] at H; exact H
      clear H;have H := H1;clear H1
      have H' := zaa.mk H
      clear H
      obtain ⟨hcz15_0, hfz15_0, hcz15_1, hfz15_1, hcz15_2, hfz15_2⟩ := Yc3 BK108.out
      go_wp2_with (first | (go_at_call 42; (with_reducible refine (zaw.calls k _ _ l0_0 false _ (Kd.zak HR0_0.out Ybe) HC0_0.out A11.out).mono ?_); rintro e w' ⟨rfl, ⟨nd, rfl⟩⟩; (try first | exact ⟨rfl, _, World.drewN_drewN _ _ _⟩ | exact ⟨rfl, _, Ydd⟩)))
      repeat (go_quiet (first | (go_at_call 42; (with_reducible refine (zaw.calls k _ _ l0_0 false _ (Kd.zak HR0_0.out Ybe) HC0_0.out A11.out).mono ?_); rintro e w' ⟨rfl, ⟨nd, rfl⟩⟩; (try first | exact ⟨rfl, _, World.drewN_drewN _ _ _⟩ | exact ⟨rfl, _, Ydd⟩))); try go_wp2_with (first | (go_at_call 42; (with_reducible refine (zaw.calls k _ _ l0_0 false _ (Kd.zak HR0_0.out Ybe) HC0_0.out A11.out).mono ?_); rintro e w' ⟨rfl, ⟨nd, rfl⟩⟩; (try first | exact ⟨rfl, _, World.drewN_drewN _ _ _⟩ | exact ⟨rfl, _, Ydd⟩))))
      go_meet
      case rel => exact ⟨_, (true), Yfs, H', ⟨by first | omega | exact Nat.le_refl _⟩, ⟨Yg BK108⟩, ⟨Yb_PItemTellsx3_0⟩⟩
 case rest =>
  clear HC2
  obtain ⟨kq, x40_1, rfl, HA, HJ1, BK108, HB⟩ := hcut
  cases kq with
  | zero => exact absurd HA.out (by simp [zai.j0])
  | succ kj1 =>
   have H := HA.out;clear HA
   simp only [zai.j0] at H
   by_cases c16 : x40_1 = true
   ·subst c16
    have H1 : (some false) = some r := by rw [if_pos rfl] at H; exact H
    clear H;have H := H1;clear H1;obtain rfl := Option.some.inj H;go_wp2
    repeat (go_quiet (fail); try go_wp2)
    go_ret
    exact ⟨Yfi, Yb_PItemTellsx3_0⟩
   ·replace c16 := Bool.eq_false_iff.mpr c16
    subst c16
    have H1 : (zai.l0 kj1 (wrap64 ((l0_0.length : Int) + (l0_1.length : Int))) 0 l0_0 l0_1 l0_2) = some r := by rw [if_neg (show ¬ (false = true) by decide)] at H; exact H
    clear H;have H := H1;clear H1
    have H' := zaa.mk H
    clear H;go_wp2
    repeat (go_quiet (fail); try go_wp2)
    go_loopg [4] kj1 (fun kq v4 w' => ∃ (x4_2 : Int), v4 = .int .i64 x4_2 ∧ zaa (zai.l0 kq (wrap64 ((l0_0.length : Int) + (l0_1.length : Int))) x4_2 l0_0 l0_1 l0_2 = some r) ∧ zaa (kq ≤ kj1) ∧ zaa (w'.heap[gb108]? = some (.cells #[(.slice A0_0 l0_0.length c0_0), (.slice A0_1 l0_1.length c0_1), (.slice A0_2 l0_2.length c0_2)] 25 (0, 0))) ∧ zaa (Below w.heap.size w w'))
    case atStart => exact ⟨(0), Yfs, H', ⟨Nat.le_refl _⟩, ⟨Yg BK108⟩, ⟨Yb_PItemTellsx3_0⟩⟩
    case round =>
     clear H'
     obtain ⟨x4_2, rfl, HA, HK2, BK108, HB⟩ := hrel
     cases gk with
     | zero => exact absurd HA.out (by simp [zai.l0])
     | succ k2 =>
      have H := HA.out;clear HA
      simp only [zai.l0] at H
      by_cases c17 : x4_2 < (l0_2.length : Int)
      ·rw [if_pos c17] at H
       have c17b0 := decide_eq_true c17
       clear c17
       by_cases c18 : 0 ≤ x4_2
       ·rw [if_pos c18] at H
        have c18b0 := decide_eq_true c18
        clear c18;have HC19 := zaa.mk H;clear H
        obtain ⟨hcz20_0, hfz20_0, hcz20_1, hfz20_1, hcz20_2, hfz20_2⟩ := Yc3 BK108.out
        have p111 : 0 ≤ (x4_2 : Int) := Yod
        have q111 : x4_2 < (l0_2.length : Int) := Yod
        obtain ⟨ad111, A111_1, c111_1, e111, hx111_0, hx111_1, hx111_2, hl111_1, hi111_1⟩ := zdf HR0_2.out x4_2 p111 q111
        cases e111
        replace hx111_0 := zad HB.out hx111_0
        replace hx111_1 := zad HB.out hx111_1
        replace hx111_2 := zad HB.out hx111_2
        have HR111_1 := zaa.mk hi111_1;have HC111_1 := zaa.mk hl111_1;clear hi111_1 hl111_1
        replace p111 := eq_true p111
        replace q111 := eq_true q111
        go_upto_region 8 with (first | ((with_reducible refine zau (N := 5) rfl ?_); (try (refine zaz (by rfl) ?_; dsimp only)); refine Ybx 5 #[.int .i64 0, .slice none 0 0, .int .i64 0] 42 ?_; intro gb112 hg w21 hbox hb; obtain ⟨BK112, GW112, GE112, HB⟩ := Yb4 hbox hg hb Yb_PItemTellsx3_0; have NB108_112 := Ynl BK108 hg; have NB112_108 := Yng BK108 hg; replace BK108 := Ykb BK108 hb; clear hb hbox hg; have hnb22 := NB112_108.out; have hnc22 := NB108_112.out; obtain ⟨hcz23_0, hfz23_0, hcz23_1, hfz23_1, hcz23_2, hfz23_2⟩ := Yc3 BK112.out))
        repeat (go_quiet (first | ((with_reducible refine zau (N := 5) rfl ?_); (try (refine zaz (by rfl) ?_; dsimp only)); refine Ybx 5 #[.int .i64 0, .slice none 0 0, .int .i64 0] 42 ?_; intro gb112 hg w21 hbox hb; obtain ⟨BK112, GW112, GE112, HB⟩ := Yb4 hbox hg hb Yb_PItemTellsx3_0; have NB108_112 := Ynl BK108 hg; have NB112_108 := Yng BK108 hg; replace BK108 := Ykb BK108 hb; clear hb hbox hg; have hnb22 := NB112_108.out; have hnc22 := NB108_112.out; obtain ⟨hcz23_0, hfz23_0, hcz23_1, hfz23_1, hcz23_2, hfz23_2⟩ := Yc3 BK112.out)); go_upto_region 8 with (first | ((with_reducible refine zau (N := 5) rfl ?_); (try (refine zaz (by rfl) ?_; dsimp only)); refine Ybx 5 #[.int .i64 0, .slice none 0 0, .int .i64 0] 42 ?_; intro gb112 hg w21 hbox hb; obtain ⟨BK112, GW112, GE112, HB⟩ := Yb4 hbox hg hb Yb_PItemTellsx3_0; have NB108_112 := Ynl BK108 hg; have NB112_108 := Yng BK108 hg; replace BK108 := Ykb BK108 hb; clear hb hbox hg; have hnb22 := NB112_108.out; have hnc22 := NB108_112.out; obtain ⟨hcz23_0, hfz23_0, hcz23_1, hfz23_1, hcz23_2, hfz23_2⟩ := Yc3 BK112.out)))
        (try simp only [Act.put, Y1, Y2, Y3])
        go_cut [96] (fun v96 wc => ∃ (kq : Nat) (x96_18 : Bool), v96 = .bool x96_18 ∧ zaa (zai.j2 kq (wrap64 ((l0_0.length : Int) + (l0_1.length : Int))) x4_2 x96_18 l0_0 l0_1 l0_2 ((zaf l0_2 x4_2).f0) ((zaf l0_2 x4_2).f1) ((zaf l0_2 x4_2).f2) = some r) ∧ zaa (kq ≤ k2) ∧ zaa (wc.heap[gb108]? = some (.cells #[(.slice A0_0 l0_0.length c0_0), (.slice A0_1 l0_1.length c0_1), (.slice (some ad111) l0_2.length c0_2)] 25 (0, 0))) ∧ zaa (wc.heap[gb112]? = some (.cells #[.int .i64 ((zaf l0_2 x4_2).f0), (.slice A111_1 ((zaf l0_2 x4_2).f1).length c111_1), .int .i64 ((zaf l0_2 x4_2).f2)] 42 (0, 0))) ∧ zaa (Below w.heap.size w wc))
        case first =>
         have H := HC19.out;clear HC19
         by_cases c24 : ((zaf l0_2 x4_2).f0) < (l0_0.length : Int)
         ·rw [if_pos c24] at H
          have c24b0 := decide_eq_true c24
          clear c24
          (first | rw [c24b0] | (simp only [zd9, zeo]; rw [c24b0]) | skip)
          have H' := zaa.mk H
          clear H
          have hnb25 := NB112_108.out
          have hnc25 := NB108_112.out
          obtain ⟨hcz26_0, hfz26_0, hcz26_1, hfz26_1, hcz26_2, hfz26_2⟩ := Yc3 BK112.out
          obtain ⟨hcz27_0, hfz27_0, hcz27_1, hfz27_1, hcz27_2, hfz27_2⟩ := Yc3 BK108.out
          go_wp2
          repeat (go_quiet (fail); try go_wp2)
          go_meet
          case rel => exact ⟨_, (true), Yfs, H', ⟨by have := HJ1.out; have := HK2.out; first | omega | exact Nat.le_refl _⟩, ⟨by (with_reducible repeat (first | refine zam ?_ _ | refine zah ?_ | refine zaj ?_ _)); refine zbg ?_ NB108_112.out _; (with_reducible repeat (first | refine zam ?_ _ | refine zah ?_ | refine zaj ?_ _)); refine zbg ?_ NB108_112.out _; (with_reducible repeat (first | refine zam ?_ _ | refine zah ?_ | refine zaj ?_ _)); refine zbg ?_ NB108_112.out _; (with_reducible repeat (first | refine zam ?_ _ | refine zah ?_ | refine zaj ?_ _)); exact BK108.out⟩, ⟨by (with_reducible repeat (first | refine zam ?_ _ | refine zah ?_ | refine zaj ?_ _)); refine zbu (cs := #[.int .i64 ((zaf l0_2 x4_2).f0), .slice A111_1 ((zaf l0_2 x4_2).f1).length c111_1, .int .i64 0]) ?_ 2 _ rfl; (with_reducible repeat (first | refine zam ?_ _ | refine zah ?_ | refine zaj ?_ _)); refine zbu (cs := #[.int .i64 ((zaf l0_2 x4_2).f0), .slice none 0 0, .int .i64 0]) ?_ 1 _ rfl; (with_reducible repeat (first | refine zam ?_ _ | refine zah ?_ | refine zaj ?_ _)); refine zbu (cs := #[.int .i64 0, .slice none 0 0, .int .i64 0]) ?_ 0 _ rfl; (with_reducible repeat (first | refine zam ?_ _ | refine zah ?_ | refine zaj ?_ _)); exact BK112.out⟩, ⟨Yb_PItemTellsx3_1⟩⟩
         ·rw [if_neg c24] at H
          have c24b0 := decide_eq_false c24
          clear c24
          (first | rw [c24b0] | (simp only [zd9, zeo]; rw [c24b0]) | skip)
          by_cases c28 : ((zaf l0_2 x4_2).f0) ≥ (wrap64 ((l0_0.length : Int) + (l0_1.length : Int)))
          ·rw [if_pos c28] at H
           have c28b0 := decide_eq_true c28
           clear c28
           have H' := zaa.mk H
           clear H
           have hnb29 := NB112_108.out
           have hnc29 := NB108_112.out
           obtain ⟨hcz30_0, hfz30_0, hcz30_1, hfz30_1, hcz30_2, hfz30_2⟩ := Yc3 BK112.out
           obtain ⟨hcz31_0, hfz31_0, hcz31_1, hfz31_1, hcz31_2, hfz31_2⟩ := Yc3 BK108.out
           go_wp2
           repeat (go_quiet (fail); try go_wp2)
           go_meet
           case rel => exact ⟨_, (true), Yfs, H', ⟨by have := HJ1.out; have := HK2.out; first | omega | exact Nat.le_refl _⟩, ⟨by (with_reducible repeat (first | refine zam ?_ _ | refine zah ?_ | refine zaj ?_ _)); refine zbg ?_ NB108_112.out _; (with_reducible repeat (first | refine zam ?_ _ | refine zah ?_ | refine zaj ?_ _)); refine zbg ?_ NB108_112.out _; (with_reducible repeat (first | refine zam ?_ _ | refine zah ?_ | refine zaj ?_ _)); refine zbg ?_ NB108_112.out _; (with_reducible repeat (first | refine zam ?_ _ | refine zah ?_ | refine zaj ?_ _)); exact BK108.out⟩, ⟨by (with_reducible repeat (first | refine zam ?_ _ | refine zah ?_ | refine zaj ?_ _)); refine zbu (cs := #[.int .i64 ((zaf l0_2 x4_2).f0), .slice A111_1 ((zaf l0_2 x4_2).f1).length c111_1, .int .i64 0]) ?_ 2 _ rfl; (with_reducible repeat (first | refine zam ?_ _ | refine zah ?_ | refine zaj ?_ _)); refine zbu (cs := #[.int .i64 ((zaf l0_2 x4_2).f0), .slice none 0 0, .int .i64 0]) ?_ 1 _ rfl; (with_reducible repeat (first | refine zam ?_ _ | refine zah ?_ | refine zaj ?_ _)); refine zbu (cs := #[.int .i64 0, .slice none 0 0, .int .i64 0]) ?_ 0 _ rfl; (with_reducible repeat (first | refine zam ?_ _ | refine zah ?_ | refine zaj ?_ _)); exact BK112.out⟩, ⟨Yb_PItemTellsx3_1⟩⟩
          ·rw [if_neg c28] at H
           have c28b0 := decide_eq_false c28
           clear c28
           by_cases c32 : x4_2 > 0
           ·rw [if_pos c32] at H
            have c32b0 := decide_eq_true c32
            clear c32
            obtain ⟨ji33, hji33⟩ : ∃ j_ : Int, (wrap64 (x4_2 - 1)) = j_ := ⟨_, rfl⟩
            replace H : (if 0 ≤ (ji33) then (if (ji33) < (l0_2.length : Int) then (if ((zaf l0_2 (ji33)).f0) > ((zaf l0_2 x4_2).f0) then (zai.j2 k2 (wrap64 ((l0_0.length : Int) + (l0_1.length : Int))) x4_2 true l0_0 l0_1 l0_2 ((zaf l0_2 x4_2).f0) ((zaf l0_2 x4_2).f1) ((zaf l0_2 x4_2).f2)) else (if (((zaf l0_2 x4_2).f1).length : Int) > 64 then (zai.j2 k2 (wrap64 ((l0_0.length : Int) + (l0_1.length : Int))) x4_2 true l0_0 l0_1 l0_2 ((zaf l0_2 x4_2).f0) ((zaf l0_2 x4_2).f1) ((zaf l0_2 x4_2).f2)) else (if ((zaf l0_2 x4_2).f2) < (-10000) then (zai.j2 k2 (wrap64 ((l0_0.length : Int) + (l0_1.length : Int))) x4_2 true l0_0 l0_1 l0_2 ((zaf l0_2 x4_2).f0) ((zaf l0_2 x4_2).f1) ((zaf l0_2 x4_2).f2)) else (zai.j2 k2 (wrap64 ((l0_0.length : Int) + (l0_1.length : Int))) x4_2 (decide (((zaf l0_2 x4_2).f2) > 10000)) l0_0 l0_1 l0_2 ((zaf l0_2 x4_2).f0) ((zaf l0_2 x4_2).f1) ((zaf l0_2 x4_2).f2))))) else (none)) else (none)) = some r := by first | (rw [hji33] at H; exact H) | (simp only [hji33] at H ⊢; exact H)
            have hji33w : (IntKind.i64.wrap (x4_2 - 1)) = ji33 := (zd9 _).trans hji33
            by_cases c34 : 0 ≤ (ji33)
            ·rw [if_pos c34] at H
             have c34b0 := decide_eq_true c34
             clear c34
             by_cases c35 : (ji33) < (l0_2.length : Int)
             ·rw [if_pos c35] at H
              have c35b0 := decide_eq_true c35
              clear c35
              by_cases c36 : ((zaf l0_2 (ji33)).f0) > ((zaf l0_2 x4_2).f0)
              ·rw [if_pos c36] at H
               have c36b0 := decide_eq_true c36
               clear c36
               have H' := zaa.mk H
               clear H
               have hnb37 := NB112_108.out
               have hnc37 := NB108_112.out
               obtain ⟨hcz38_0, hfz38_0, hcz38_1, hfz38_1, hcz38_2, hfz38_2⟩ := Yc3 BK112.out
               obtain ⟨hcz39_0, hfz39_0, hcz39_1, hfz39_1, hcz39_2, hfz39_2⟩ := Yc3 BK108.out
               have p113 : 0 ≤ ((ji33) : Int) := Yod
               have q113 : (ji33) < (l0_2.length : Int) := Yod
               obtain ⟨ad113, A113_1, c113_1, e113, hx113_0, hx113_1, hx113_2, hl113_1, hi113_1⟩ := zdf HR0_2.out (ji33) p113 q113
               obtain rfl : ad111 = ad113 := (by injection e113)
               have hn113_0 : ad111.block ≠ gb112 := Nat.ne_of_lt (Nat.lt_of_lt_of_le (by have := World.block_lt_of_cell? _ _ hx113_0; first | rwa [add_block] at this | exact this) GW112.out)
               have hn113_1 : ad111.block ≠ gb112 := Nat.ne_of_lt (Nat.lt_of_lt_of_le (by have := World.block_lt_of_cell? _ _ hx113_0; first | rwa [add_block] at this | exact this) GW112.out)
               have hn113_2 : ad111.block ≠ gb112 := Nat.ne_of_lt (Nat.lt_of_lt_of_le (by have := World.block_lt_of_cell? _ _ hx113_0; first | rwa [add_block] at this | exact this) GW112.out)
               replace hx113_0 := zad HB.out hx113_0
               replace hx113_1 := zad HB.out hx113_1
               replace hx113_2 := zad HB.out hx113_2
               have HR113_1 := zaa.mk hi113_1;have HC113_1 := zaa.mk hl113_1;clear hi113_1 hl113_1
               replace hx113_0 := Ycf ⟨gb112, 0, none⟩ (.int .i64 ((zaf l0_2 x4_2).f0)) hn113_0 hx113_0
               replace hx113_1 := Ycf ⟨gb112, 0, none⟩ (.int .i64 ((zaf l0_2 x4_2).f0)) hn113_0 hx113_1
               replace hx113_2 := Ycf ⟨gb112, 0, none⟩ (.int .i64 ((zaf l0_2 x4_2).f0)) hn113_0 hx113_2
               replace hx113_0 := Ycf ⟨gb112, 1, none⟩ (.slice A111_1 ((zaf l0_2 x4_2).f1).length c111_1) hn113_1 hx113_0
               replace hx113_1 := Ycf ⟨gb112, 1, none⟩ (.slice A111_1 ((zaf l0_2 x4_2).f1).length c111_1) hn113_1 hx113_1
               replace hx113_2 := Ycf ⟨gb112, 1, none⟩ (.slice A111_1 ((zaf l0_2 x4_2).f1).length c111_1) hn113_1 hx113_2
               replace hx113_0 := Ycf ⟨gb112, 2, none⟩ (.int .i64 ((zaf l0_2 x4_2).f2)) hn113_2 hx113_0
               replace hx113_1 := Ycf ⟨gb112, 2, none⟩ (.int .i64 ((zaf l0_2 x4_2).f2)) hn113_2 hx113_1
               replace hx113_2 := Ycf ⟨gb112, 2, none⟩ (.int .i64 ((zaf l0_2 x4_2).f2)) hn113_2 hx113_2
               (try have hy113_0 := fun (n_ : Nat) => (show (((((w21.drewN n_).setCell ⟨gb112, 0, none⟩ (.int .i64 ((zaf l0_2 x4_2).f0))).setCell ⟨gb112, 1, none⟩ (.slice A111_1 ((zaf l0_2 x4_2).f1).length c111_1)).setCell ⟨gb112, 2, none⟩ (.int .i64 ((zaf l0_2 x4_2).f2)))).cell? _ = some _ from hx113_0))
               (try have hy113_1 := fun (n_ : Nat) => (show (((((w21.drewN n_).setCell ⟨gb112, 0, none⟩ (.int .i64 ((zaf l0_2 x4_2).f0))).setCell ⟨gb112, 1, none⟩ (.slice A111_1 ((zaf l0_2 x4_2).f1).length c111_1)).setCell ⟨gb112, 2, none⟩ (.int .i64 ((zaf l0_2 x4_2).f2)))).cell? _ = some _ from hx113_1))
               (try have hy113_2 := fun (n_ : Nat) => (show (((((w21.drewN n_).setCell ⟨gb112, 0, none⟩ (.int .i64 ((zaf l0_2 x4_2).f0))).setCell ⟨gb112, 1, none⟩ (.slice A111_1 ((zaf l0_2 x4_2).f1).length c111_1)).setCell ⟨gb112, 2, none⟩ (.int .i64 ((zaf l0_2 x4_2).f2)))).cell? _ = some _ from hx113_2))
               clear hn113_0;clear hn113_1;clear hn113_2
               replace p113 := eq_true p113
               replace q113 := eq_true q113
               go_wp2
               repeat (go_quiet (fail); try go_wp2)
               go_meet
               case rel => exact ⟨_, (true), Yfs, H', ⟨by have := HJ1.out; have := HK2.out; first | omega | exact Nat.le_refl _⟩, ⟨by (with_reducible repeat (first | refine zam ?_ _ | refine zah ?_ | refine zaj ?_ _)); refine zbg ?_ NB108_112.out _; (with_reducible repeat (first | refine zam ?_ _ | refine zah ?_ | refine zaj ?_ _)); refine zbg ?_ NB108_112.out _; (with_reducible repeat (first | refine zam ?_ _ | refine zah ?_ | refine zaj ?_ _)); refine zbg ?_ NB108_112.out _; (with_reducible repeat (first | refine zam ?_ _ | refine zah ?_ | refine zaj ?_ _)); exact BK108.out⟩, ⟨by (with_reducible repeat (first | refine zam ?_ _ | refine zah ?_ | refine zaj ?_ _)); refine zbu (cs := #[.int .i64 ((zaf l0_2 x4_2).f0), .slice A111_1 ((zaf l0_2 x4_2).f1).length c111_1, .int .i64 0]) ?_ 2 _ rfl; (with_reducible repeat (first | refine zam ?_ _ | refine zah ?_ | refine zaj ?_ _)); refine zbu (cs := #[.int .i64 ((zaf l0_2 x4_2).f0), .slice none 0 0, .int .i64 0]) ?_ 1 _ rfl; (with_reducible repeat (first | refine zam ?_ _ | refine zah ?_ | refine zaj ?_ _)); refine zbu (cs := #[.int .i64 0, .slice none 0 0, .int .i64 0]) ?_ 0 _ rfl; (with_reducible repeat (first | refine zam ?_ _ | refine zah ?_ | refine zaj ?_ _)); exact BK112.out⟩, ⟨Yb_PItemTellsx3_1⟩⟩
              ·rw [if_neg c36] at H
               have c36b0 := decide_eq_false c36
               clear c36
               by_cases c40 : (((zaf l0_2 x4_2).f1).length : Int) > 64
               ·rw [if_pos c40] at H
                have c40b0 := decide_eq_true c40
                have c40b1 : decide (64 < ((zaf l0_2 x4_2).f1).length) = true := decide_eq_true (by omega)
                clear c40
                have H' := zaa.mk H
                clear H
                have hnb41 := NB112_108.out
                have hnc41 := NB108_112.out
                obtain ⟨hcz42_0, hfz42_0, hcz42_1, hfz42_1, hcz42_2, hfz42_2⟩ := Yc3 BK112.out
                obtain ⟨hcz43_0, hfz43_0, hcz43_1, hfz43_1, hcz43_2, hfz43_2⟩ := Yc3 BK108.out
                have p113 : 0 ≤ ((ji33) : Int) := Yod
                have q113 : (ji33) < (l0_2.length : Int) := Yod
                obtain ⟨ad113, A113_1, c113_1, e113, hx113_0, hx113_1, hx113_2, hl113_1, hi113_1⟩ := zdf HR0_2.out (ji33) p113 q113
                obtain rfl : ad111 = ad113 := (by injection e113)
                have hn113_0 : ad111.block ≠ gb112 := Nat.ne_of_lt (Nat.lt_of_lt_of_le (by have := World.block_lt_of_cell? _ _ hx113_0; first | rwa [add_block] at this | exact this) GW112.out)
                have hn113_1 : ad111.block ≠ gb112 := Nat.ne_of_lt (Nat.lt_of_lt_of_le (by have := World.block_lt_of_cell? _ _ hx113_0; first | rwa [add_block] at this | exact this) GW112.out)
                have hn113_2 : ad111.block ≠ gb112 := Nat.ne_of_lt (Nat.lt_of_lt_of_le (by have := World.block_lt_of_cell? _ _ hx113_0; first | rwa [add_block] at this | exact this) GW112.out)
                replace hx113_0 := zad HB.out hx113_0
                replace hx113_1 := zad HB.out hx113_1
                replace hx113_2 := zad HB.out hx113_2
                have HR113_1 := zaa.mk hi113_1;have HC113_1 := zaa.mk hl113_1;clear hi113_1 hl113_1
                replace hx113_0 := Ycf ⟨gb112, 0, none⟩ (.int .i64 ((zaf l0_2 x4_2).f0)) hn113_0 hx113_0
                replace hx113_1 := Ycf ⟨gb112, 0, none⟩ (.int .i64 ((zaf l0_2 x4_2).f0)) hn113_0 hx113_1
                replace hx113_2 := Ycf ⟨gb112, 0, none⟩ (.int .i64 ((zaf l0_2 x4_2).f0)) hn113_0 hx113_2
                replace hx113_0 := Ycf ⟨gb112, 1, none⟩ (.slice A111_1 ((zaf l0_2 x4_2).f1).length c111_1) hn113_1 hx113_0
                replace hx113_1 := Ycf ⟨gb112, 1, none⟩ (.slice A111_1 ((zaf l0_2 x4_2).f1).length c111_1) hn113_1 hx113_1
                replace hx113_2 := Ycf ⟨gb112, 1, none⟩ (.slice A111_1 ((zaf l0_2 x4_2).f1).length c111_1) hn113_1 hx113_2
                replace hx113_0 := Ycf ⟨gb112, 2, none⟩ (.int .i64 ((zaf l0_2 x4_2).f2)) hn113_2 hx113_0
                replace hx113_1 := Ycf ⟨gb112, 2, none⟩ (.int .i64 ((zaf l0_2 x4_2).f2)) hn113_2 hx113_1
                replace hx113_2 := Ycf ⟨gb112, 2, none⟩ (.int .i64 ((zaf l0_2 x4_2).f2)) hn113_2 hx113_2
                (try have hy113_0 := fun (n_ : Nat) => (show (((((w21.drewN n_).setCell ⟨gb112, 0, none⟩ (.int .i64 ((zaf l0_2 x4_2).f0))).setCell ⟨gb112, 1, none⟩ (.slice A111_1 ((zaf l0_2 x4_2).f1).length c111_1)).setCell ⟨gb112, 2, none⟩ (.int .i64 ((zaf l0_2 x4_2).f2)))).cell? _ = some _ from hx113_0))
                (try have hy113_1 := fun (n_ : Nat) => (show (((((w21.drewN n_).setCell ⟨gb112, 0, none⟩ (.int .i64 ((zaf l0_2 x4_2).f0))).setCell ⟨gb112, 1, none⟩ (.slice A111_1 ((zaf l0_2 x4_2).f1).length c111_1)).setCell ⟨gb112, 2, none⟩ (.int .i64 ((zaf l0_2 x4_2).f2)))).cell? _ = some _ from hx113_1))
                (try have hy113_2 := fun (n_ : Nat) => (show (((((w21.drewN n_).setCell ⟨gb112, 0, none⟩ (.int .i64 ((zaf l0_2 x4_2).f0))).setCell ⟨gb112, 1, none⟩ (.slice A111_1 ((zaf l0_2 x4_2).f1).length c111_1)).setCell ⟨gb112, 2, none⟩ (.int .i64 ((zaf l0_2 x4_2).f2)))).cell? _ = some _ from hx113_2))
                clear hn113_0;clear hn113_1;clear hn113_2
                replace p113 := eq_true p113
                replace q113 := eq_true q113
                go_wp2
                repeat (go_quiet (fail); try go_wp2)
                go_meet
                case rel => exact ⟨_, (true), Yfs, H', ⟨by have := HJ1.out; have := HK2.out; first | omega | exact Nat.le_refl _⟩, ⟨by (with_reducible repeat (first | refine zam ?_ _ | refine zah ?_ | refine zaj ?_ _)); refine zbg ?_ NB108_112.out _; (with_reducible repeat (first | refine zam ?_ _ | refine zah ?_ | refine zaj ?_ _)); refine zbg ?_ NB108_112.out _; (with_reducible repeat (first | refine zam ?_ _ | refine zah ?_ | refine zaj ?_ _)); refine zbg ?_ NB108_112.out _; (with_reducible repeat (first | refine zam ?_ _ | refine zah ?_ | refine zaj ?_ _)); exact BK108.out⟩, ⟨by (with_reducible repeat (first | refine zam ?_ _ | refine zah ?_ | refine zaj ?_ _)); refine zbu (cs := #[.int .i64 ((zaf l0_2 x4_2).f0), .slice A111_1 ((zaf l0_2 x4_2).f1).length c111_1, .int .i64 0]) ?_ 2 _ rfl; (with_reducible repeat (first | refine zam ?_ _ | refine zah ?_ | refine zaj ?_ _)); refine zbu (cs := #[.int .i64 ((zaf l0_2 x4_2).f0), .slice none 0 0, .int .i64 0]) ?_ 1 _ rfl; (with_reducible repeat (first | refine zam ?_ _ | refine zah ?_ | refine zaj ?_ _)); refine zbu (cs := #[.int .i64 0, .slice none 0 0, .int .i64 0]) ?_ 0 _ rfl; (with_reducible repeat (first | refine zam ?_ _ | refine zah ?_ | refine zaj ?_ _)); exact BK112.out⟩, ⟨Yb_PItemTellsx3_1⟩⟩
               ·rw [if_neg c40] at H
                have c40b0 := decide_eq_false c40
                have c40b1 : decide (64 < ((zaf l0_2 x4_2).f1).length) = false := decide_eq_false (by omega)
                clear c40
                by_cases c44 : ((zaf l0_2 x4_2).f2) < (-10000)
                ·rw [if_pos c44] at H
                 have c44b0 := decide_eq_true c44
                 clear c44
                 have H' := zaa.mk H
                 clear H
                 have hnb45 := NB112_108.out
                 have hnc45 := NB108_112.out
                 obtain ⟨hcz46_0, hfz46_0, hcz46_1, hfz46_1, hcz46_2, hfz46_2⟩ := Yc3 BK112.out
                 obtain ⟨hcz47_0, hfz47_0, hcz47_1, hfz47_1, hcz47_2, hfz47_2⟩ := Yc3 BK108.out
                 have p113 : 0 ≤ ((ji33) : Int) := Yod
                 have q113 : (ji33) < (l0_2.length : Int) := Yod
                 obtain ⟨ad113, A113_1, c113_1, e113, hx113_0, hx113_1, hx113_2, hl113_1, hi113_1⟩ := zdf HR0_2.out (ji33) p113 q113
                 obtain rfl : ad111 = ad113 := (by injection e113)
                 have hn113_0 : ad111.block ≠ gb112 := Nat.ne_of_lt (Nat.lt_of_lt_of_le (by have := World.block_lt_of_cell? _ _ hx113_0; first | rwa [add_block] at this | exact this) GW112.out)
                 have hn113_1 : ad111.block ≠ gb112 := Nat.ne_of_lt (Nat.lt_of_lt_of_le (by have := World.block_lt_of_cell? _ _ hx113_0; first | rwa [add_block] at this | exact this) GW112.out)
                 have hn113_2 : ad111.block ≠ gb112 := Nat.ne_of_lt (Nat.lt_of_lt_of_le (by have := World.block_lt_of_cell? _ _ hx113_0; first | rwa [add_block] at this | exact this) GW112.out)
                 replace hx113_0 := zad HB.out hx113_0
                 replace hx113_1 := zad HB.out hx113_1
                 replace hx113_2 := zad HB.out hx113_2
                 have HR113_1 := zaa.mk hi113_1;have HC113_1 := zaa.mk hl113_1;clear hi113_1 hl113_1
                 replace hx113_0 := Ycf ⟨gb112, 0, none⟩ (.int .i64 ((zaf l0_2 x4_2).f0)) hn113_0 hx113_0
                 replace hx113_1 := Ycf ⟨gb112, 0, none⟩ (.int .i64 ((zaf l0_2 x4_2).f0)) hn113_0 hx113_1
                 replace hx113_2 := Ycf ⟨gb112, 0, none⟩ (.int .i64 ((zaf l0_2 x4_2).f0)) hn113_0 hx113_2
                 replace hx113_0 := Ycf ⟨gb112, 1, none⟩ (.slice A111_1 ((zaf l0_2 x4_2).f1).length c111_1) hn113_1 hx113_0
                 replace hx113_1 := Ycf ⟨gb112, 1, none⟩ (.slice A111_1 ((zaf l0_2 x4_2).f1).length c111_1) hn113_1 hx113_1
                 replace hx113_2 := Ycf ⟨gb112, 1, none⟩ (.slice A111_1 ((zaf l0_2 x4_2).f1).length c111_1) hn113_1 hx113_2
                 replace hx113_0 := Ycf ⟨gb112, 2, none⟩ (.int .i64 ((zaf l0_2 x4_2).f2)) hn113_2 hx113_0
                 replace hx113_1 := Ycf ⟨gb112, 2, none⟩ (.int .i64 ((zaf l0_2 x4_2).f2)) hn113_2 hx113_1
                 replace hx113_2 := Ycf ⟨gb112, 2, none⟩ (.int .i64 ((zaf l0_2 x4_2).f2)) hn113_2 hx113_2
                 (try have hy113_0 := fun (n_ : Nat) => (show (((((w21.drewN n_).setCell ⟨gb112, 0, none⟩ (.int .i64 ((zaf l0_2 x4_2).f0))).setCell ⟨gb112, 1, none⟩ (.slice A111_1 ((zaf l0_2 x4_2).f1).length c111_1)).setCell ⟨gb112, 2, none⟩ (.int .i64 ((zaf l0_2 x4_2).f2)))).cell? _ = some _ from hx113_0))
                 (try have hy113_1 := fun (n_ : Nat) => (show (((((w21.drewN n_).setCell ⟨gb112, 0, none⟩ (.int .i64 ((zaf l0_2 x4_2).f0))).setCell ⟨gb112, 1, none⟩ (.slice A111_1 ((zaf l0_2 x4_2).f1).length c111_1)).setCell ⟨gb112, 2, none⟩ (.int .i64 ((zaf l0_2 x4_2).f2)))).cell? _ = some _ from hx113_1))
                 (try have hy113_2 := fun (n_ : Nat) => (show (((((w21.drewN n_).setCell ⟨gb112, 0, none⟩ (.int .i64 ((zaf l0_2 x4_2).f0))).setCell ⟨gb112, 1, none⟩ (.slice A111_1 ((zaf l0_2 x4_2).f1).length c111_1)).setCell ⟨gb112, 2, none⟩ (.int .i64 ((zaf l0_2 x4_2).f2)))).cell? _ = some _ from hx113_2))
                 clear hn113_0;clear hn113_1;clear hn113_2
                 replace p113 := eq_true p113
                 replace q113 := eq_true q113
                 go_wp2
                 repeat (go_quiet (fail); try go_wp2)
                 go_meet
                 case rel => exact ⟨_, (true), Yfs, H', ⟨by have := HJ1.out; have := HK2.out; first | omega | exact Nat.le_refl _⟩, ⟨by (with_reducible repeat (first | refine zam ?_ _ | refine zah ?_ | refine zaj ?_ _)); refine zbg ?_ NB108_112.out _; (with_reducible repeat (first | refine zam ?_ _ | refine zah ?_ | refine zaj ?_ _)); refine zbg ?_ NB108_112.out _; (with_reducible repeat (first | refine zam ?_ _ | refine zah ?_ | refine zaj ?_ _)); refine zbg ?_ NB108_112.out _; (with_reducible repeat (first | refine zam ?_ _ | refine zah ?_ | refine zaj ?_ _)); exact BK108.out⟩, ⟨by (with_reducible repeat (first | refine zam ?_ _ | refine zah ?_ | refine zaj ?_ _)); refine zbu (cs := #[.int .i64 ((zaf l0_2 x4_2).f0), .slice A111_1 ((zaf l0_2 x4_2).f1).length c111_1, .int .i64 0]) ?_ 2 _ rfl; (with_reducible repeat (first | refine zam ?_ _ | refine zah ?_ | refine zaj ?_ _)); refine zbu (cs := #[.int .i64 ((zaf l0_2 x4_2).f0), .slice none 0 0, .int .i64 0]) ?_ 1 _ rfl; (with_reducible repeat (first | refine zam ?_ _ | refine zah ?_ | refine zaj ?_ _)); refine zbu (cs := #[.int .i64 0, .slice none 0 0, .int .i64 0]) ?_ 0 _ rfl; (with_reducible repeat (first | refine zam ?_ _ | refine zah ?_ | refine zaj ?_ _)); exact BK112.out⟩, ⟨Yb_PItemTellsx3_1⟩⟩
                ·rw [if_neg c44] at H
                 have c44b0 := decide_eq_false c44
                 clear c44
                 have H' := zaa.mk H
                 clear H
                 have hnb48 := NB112_108.out
                 have hnc48 := NB108_112.out
                 obtain ⟨hcz49_0, hfz49_0, hcz49_1, hfz49_1, hcz49_2, hfz49_2⟩ := Yc3 BK112.out
                 obtain ⟨hcz50_0, hfz50_0, hcz50_1, hfz50_1, hcz50_2, hfz50_2⟩ := Yc3 BK108.out
                 have p113 : 0 ≤ ((ji33) : Int) := Yod
                 have q113 : (ji33) < (l0_2.length : Int) := Yod
                 obtain ⟨ad113, A113_1, c113_1, e113, hx113_0, hx113_1, hx113_2, hl113_1, hi113_1⟩ := zdf HR0_2.out (ji33) p113 q113
                 obtain rfl : ad111 = ad113 := (by injection e113)
                 have hn113_0 : ad111.block ≠ gb112 := Nat.ne_of_lt (Nat.lt_of_lt_of_le (by have := World.block_lt_of_cell? _ _ hx113_0; first | rwa [add_block] at this | exact this) GW112.out)
                 have hn113_1 : ad111.block ≠ gb112 := Nat.ne_of_lt (Nat.lt_of_lt_of_le (by have := World.block_lt_of_cell? _ _ hx113_0; first | rwa [add_block] at this | exact this) GW112.out)
                 have hn113_2 : ad111.block ≠ gb112 := Nat.ne_of_lt (Nat.lt_of_lt_of_le (by have := World.block_lt_of_cell? _ _ hx113_0; first | rwa [add_block] at this | exact this) GW112.out)
                 replace hx113_0 := zad HB.out hx113_0
                 replace hx113_1 := zad HB.out hx113_1
                 replace hx113_2 := zad HB.out hx113_2
                 have HR113_1 := zaa.mk hi113_1;have HC113_1 := zaa.mk hl113_1;clear hi113_1 hl113_1
                 replace hx113_0 := Ycf ⟨gb112, 0, none⟩ (.int .i64 ((zaf l0_2 x4_2).f0)) hn113_0 hx113_0
                 replace hx113_1 := Ycf ⟨gb112, 0, none⟩ (.int .i64 ((zaf l0_2 x4_2).f0)) hn113_0 hx113_1
                 replace hx113_2 := Ycf ⟨gb112, 0, none⟩ (.int .i64 ((zaf l0_2 x4_2).f0)) hn113_0 hx113_2
                 replace hx113_0 := Ycf ⟨gb112, 1, none⟩ (.slice A111_1 ((zaf l0_2 x4_2).f1).length c111_1) hn113_1 hx113_0
                 replace hx113_1 := Ycf ⟨gb112, 1, none⟩ (.slice A111_1 ((zaf l0_2 x4_2).f1).length c111_1) hn113_1 hx113_1
                 replace hx113_2 := Ycf ⟨gb112, 1, none⟩ (.slice A111_1 ((zaf l0_2 x4_2).f1).length c111_1) hn113_1 hx113_2
                 replace hx113_0 := Ycf ⟨gb112, 2, none⟩ (.int .i64 ((zaf l0_2 x4_2).f2)) hn113_2 hx113_0
                 replace hx113_1 := Ycf ⟨gb112, 2, none⟩ (.int .i64 ((zaf l0_2 x4_2).f2)) hn113_2 hx113_1
                 replace hx113_2 := Ycf ⟨gb112, 2, none⟩ (.int .i64 ((zaf l0_2 x4_2).f2)) hn113_2 hx113_2
                 (try have hy113_0 := fun (n_ : Nat) => (show (((((w21.drewN n_).setCell ⟨gb112, 0, none⟩ (.int .i64 ((zaf l0_2 x4_2).f0))).setCell ⟨gb112, 1, none⟩ (.slice A111_1 ((zaf l0_2 x4_2).f1).length c111_1)).setCell ⟨gb112, 2, none⟩ (.int .i64 ((zaf l0_2 x4_2).f2)))).cell? _ = some _ from hx113_0))
                 (try have hy113_1 := fun (n_ : Nat) => (show (((((w21.drewN n_).setCell ⟨gb112, 0, none⟩ (.int .i64 ((zaf l0_2 x4_2).f0))).setCell ⟨gb112, 1, none⟩ (.slice A111_1 ((zaf l0_2 x4_2).f1).length c111_1)).setCell ⟨gb112, 2, none⟩ (.int .i64 ((zaf l0_2 x4_2).f2)))).cell? _ = some _ from hx113_1))
                 (try have hy113_2 := fun (n_ : Nat) => (show (((((w21.drewN n_).setCell ⟨gb112, 0, none⟩ (.int .i64 ((zaf l0_2 x4_2).f0))).setCell ⟨gb112, 1, none⟩ (.slice A111_1 ((zaf l0_2 x4_2).f1).length c111_1)).setCell ⟨gb112, 2, none⟩ (.int .i64 ((zaf l0_2 x4_2).f2)))).cell? _ = some _ from hx113_2))
                 clear hn113_0;clear hn113_1;clear hn113_2
                 replace p113 := eq_true p113
                 replace q113 := eq_true q113
                 go_wp2
                 repeat (go_quiet (fail); try go_wp2)
                 go_meet
                 case rel => exact ⟨_, (decide (((zaf l0_2 x4_2).f2) > 10000)), Yfs, H', ⟨by have := HJ1.out; have := HK2.out; first | omega | exact Nat.le_refl _⟩, ⟨by (with_reducible repeat (first | refine zam ?_ _ | refine zah ?_ | refine zaj ?_ _)); refine zbg ?_ NB108_112.out _; (with_reducible repeat (first | refine zam ?_ _ | refine zah ?_ | refine zaj ?_ _)); refine zbg ?_ NB108_112.out _; (with_reducible repeat (first | refine zam ?_ _ | refine zah ?_ | refine zaj ?_ _)); refine zbg ?_ NB108_112.out _; (with_reducible repeat (first | refine zam ?_ _ | refine zah ?_ | refine zaj ?_ _)); exact BK108.out⟩, ⟨by (with_reducible repeat (first | refine zam ?_ _ | refine zah ?_ | refine zaj ?_ _)); refine zbu (cs := #[.int .i64 ((zaf l0_2 x4_2).f0), .slice A111_1 ((zaf l0_2 x4_2).f1).length c111_1, .int .i64 0]) ?_ 2 _ rfl; (with_reducible repeat (first | refine zam ?_ _ | refine zah ?_ | refine zaj ?_ _)); refine zbu (cs := #[.int .i64 ((zaf l0_2 x4_2).f0), .slice none 0 0, .int .i64 0]) ?_ 1 _ rfl; (with_reducible repeat (first | refine zam ?_ _ | refine zah ?_ | refine zaj ?_ _)); refine zbu (cs := #[.int .i64 0, .slice none 0 0, .int .i64 0]) ?_ 0 _ rfl; (with_reducible repeat (first | refine zam ?_ _ | refine zah ?_ | refine zaj ?_ _)); exact BK112.out⟩, ⟨Yb_PItemTellsx3_1⟩⟩
             ·rw [if_neg c35] at H
              exact absurd H (by simp)
            ·rw [if_neg c34] at H
             exact absurd H (by simp)
           ·rw [if_neg c32] at H
            have c32b0 := decide_eq_false c32
            clear c32
            by_cases c51 : (((zaf l0_2 x4_2).f1).length : Int) > 64
            ·rw [if_pos c51] at H
             have c51b0 := decide_eq_true c51
             have c51b1 : decide (64 < ((zaf l0_2 x4_2).f1).length) = true := decide_eq_true (by omega)
             clear c51
             have H' := zaa.mk H
             clear H
             have hnb52 := NB112_108.out
             have hnc52 := NB108_112.out
             obtain ⟨hcz53_0, hfz53_0, hcz53_1, hfz53_1, hcz53_2, hfz53_2⟩ := Yc3 BK112.out
             obtain ⟨hcz54_0, hfz54_0, hcz54_1, hfz54_1, hcz54_2, hfz54_2⟩ := Yc3 BK108.out
             go_wp2
             repeat (go_quiet (fail); try go_wp2)
             go_meet
             case rel => exact ⟨_, (true), Yfs, H', ⟨by have := HJ1.out; have := HK2.out; first | omega | exact Nat.le_refl _⟩, ⟨by (with_reducible repeat (first | refine zam ?_ _ | refine zah ?_ | refine zaj ?_ _)); refine zbg ?_ NB108_112.out _; (with_reducible repeat (first | refine zam ?_ _ | refine zah ?_ | refine zaj ?_ _)); refine zbg ?_ NB108_112.out _; (with_reducible repeat (first | refine zam ?_ _ | refine zah ?_ | refine zaj ?_ _)); refine zbg ?_ NB108_112.out _; (with_reducible repeat (first | refine zam ?_ _ | refine zah ?_ | refine zaj ?_ _)); exact BK108.out⟩, ⟨by (with_reducible repeat (first | refine zam ?_ _ | refine zah ?_ | refine zaj ?_ _)); refine zbu (cs := #[.int .i64 ((zaf l0_2 x4_2).f0), .slice A111_1 ((zaf l0_2 x4_2).f1).length c111_1, .int .i64 0]) ?_ 2 _ rfl; (with_reducible repeat (first | refine zam ?_ _ | refine zah ?_ | refine zaj ?_ _)); refine zbu (cs := #[.int .i64 ((zaf l0_2 x4_2).f0), .slice none 0 0, .int .i64 0]) ?_ 1 _ rfl; (with_reducible repeat (first | refine zam ?_ _ | refine zah ?_ | refine zaj ?_ _)); refine zbu (cs := #[.int .i64 0, .slice none 0 0, .int .i64 0]) ?_ 0 _ rfl; (with_reducible repeat (first | refine zam ?_ _ | refine zah ?_ | refine zaj ?_ _)); exact BK112.out⟩, ⟨Yb_PItemTellsx3_1⟩⟩
            ·rw [if_neg c51] at H
             have c51b0 := decide_eq_false c51
             have c51b1 : decide (64 < ((zaf l0_2 x4_2).f1).length) = false := decide_eq_false (by omega)
             clear c51
             by_cases c55 : ((zaf l0_2 x4_2).f2) < (-10000)
             ·rw [if_pos c55] at H
              have c55b0 := decide_eq_true c55
              clear c55
              have H' := zaa.mk H
              clear H
              have hnb56 := NB112_108.out
              have hnc56 := NB108_112.out
              obtain ⟨hcz57_0, hfz57_0, hcz57_1, hfz57_1, hcz57_2, hfz57_2⟩ := Yc3 BK112.out
              obtain ⟨hcz58_0, hfz58_0, hcz58_1, hfz58_1, hcz58_2, hfz58_2⟩ := Yc3 BK108.out
              go_wp2
              repeat (go_quiet (fail); try go_wp2)
              go_meet
              case rel => exact ⟨_, (true), Yfs, H', ⟨by have := HJ1.out; have := HK2.out; first | omega | exact Nat.le_refl _⟩, ⟨by (with_reducible repeat (first | refine zam ?_ _ | refine zah ?_ | refine zaj ?_ _)); refine zbg ?_ NB108_112.out _; (with_reducible repeat (first | refine zam ?_ _ | refine zah ?_ | refine zaj ?_ _)); refine zbg ?_ NB108_112.out _; (with_reducible repeat (first | refine zam ?_ _ | refine zah ?_ | refine zaj ?_ _)); refine zbg ?_ NB108_112.out _; (with_reducible repeat (first | refine zam ?_ _ | refine zah ?_ | refine zaj ?_ _)); exact BK108.out⟩, ⟨by (with_reducible repeat (first | refine zam ?_ _ | refine zah ?_ | refine zaj ?_ _)); refine zbu (cs := #[.int .i64 ((zaf l0_2 x4_2).f0), .slice A111_1 ((zaf l0_2 x4_2).f1).length c111_1, .int .i64 0]) ?_ 2 _ rfl; (with_reducible repeat (first | refine zam ?_ _ | refine zah ?_ | refine zaj ?_ _)); refine zbu (cs := #[.int .i64 ((zaf l0_2 x4_2).f0), .slice none 0 0, .int .i64 0]) ?_ 1 _ rfl; (with_reducible repeat (first | refine zam ?_ _ | refine zah ?_ | refine zaj ?_ _)); refine zbu (cs := #[.int .i64 0, .slice none 0 0, .int .i64 0]) ?_ 0 _ rfl; (with_reducible repeat (first | refine zam ?_ _ | refine zah ?_ | refine zaj ?_ _)); exact BK112.out⟩, ⟨Yb_PItemTellsx3_1⟩⟩
             ·rw [if_neg c55] at H
              have c55b0 := decide_eq_false c55
              clear c55
              have H' := zaa.mk H
              clear H
              have hnb59 := NB112_108.out
              have hnc59 := NB108_112.out
              obtain ⟨hcz60_0, hfz60_0, hcz60_1, hfz60_1, hcz60_2, hfz60_2⟩ := Yc3 BK112.out
              obtain ⟨hcz61_0, hfz61_0, hcz61_1, hfz61_1, hcz61_2, hfz61_2⟩ := Yc3 BK108.out
              go_wp2
              repeat (go_quiet (fail); try go_wp2)
              go_meet
              case rel => exact ⟨_, (decide (((zaf l0_2 x4_2).f2) > 10000)), Yfs, H', ⟨by have := HJ1.out; have := HK2.out; first | omega | exact Nat.le_refl _⟩, ⟨by (with_reducible repeat (first | refine zam ?_ _ | refine zah ?_ | refine zaj ?_ _)); refine zbg ?_ NB108_112.out _; (with_reducible repeat (first | refine zam ?_ _ | refine zah ?_ | refine zaj ?_ _)); refine zbg ?_ NB108_112.out _; (with_reducible repeat (first | refine zam ?_ _ | refine zah ?_ | refine zaj ?_ _)); refine zbg ?_ NB108_112.out _; (with_reducible repeat (first | refine zam ?_ _ | refine zah ?_ | refine zaj ?_ _)); exact BK108.out⟩, ⟨by (with_reducible repeat (first | refine zam ?_ _ | refine zah ?_ | refine zaj ?_ _)); refine zbu (cs := #[.int .i64 ((zaf l0_2 x4_2).f0), .slice A111_1 ((zaf l0_2 x4_2).f1).length c111_1, .int .i64 0]) ?_ 2 _ rfl; (with_reducible repeat (first | refine zam ?_ _ | refine zah ?_ | refine zaj ?_ _)); refine zbu (cs := #[.int .i64 ((zaf l0_2 x4_2).f0), .slice none 0 0, .int .i64 0]) ?_ 1 _ rfl; (with_reducible repeat (first | refine zam ?_ _ | refine zah ?_ | refine zaj ?_ _)); refine zbu (cs := #[.int .i64 0, .slice none 0 0, .int .i64 0]) ?_ 0 _ rfl; (with_reducible repeat (first | refine zam ?_ _ | refine zah ?_ | refine zaj ?_ _)); exact BK112.out⟩, ⟨Yb_PItemTellsx3_1⟩⟩
        case rest =>
         clear HC19
         obtain ⟨kq, x96_18, rfl, HA, HJ18, BK108, BK112, HB⟩ := hcut
         cases kq with
         | zero => exact absurd HA.out (by simp [zai.j2])
         | succ kj18 =>
          have H := HA.out;clear HA
          simp only [zai.j2] at H
          by_cases c62 : x96_18 = true
          ·subst c62
           have H1 : (some false) = some r := by rw [if_pos rfl] at H; exact H
           clear H;have H := H1;clear H1;obtain rfl := Option.some.inj H;go_wp2
           repeat (go_quiet (fail); try go_wp2)
           go_ret
           exact ⟨Yfi, Yb_PItemTellsx3_1⟩
          ·replace c62 := Bool.eq_false_iff.mpr c62
           subst c62
           have H1 : (zai.l1 kj18 (wrap64 ((l0_0.length : Int) + (l0_1.length : Int))) x4_2 0 l0_0 l0_1 l0_2 ((zaf l0_2 x4_2).f0) ((zaf l0_2 x4_2).f1) ((zaf l0_2 x4_2).f2)) = some r := by rw [if_neg (show ¬ (false = true) by decide)] at H; exact H
           clear H;have H := H1;clear H1
           have H' := zaa.mk H
           clear H;go_wp2
           repeat (go_quiet (fail); try go_wp2)
           go_loopg [6] kj18 (fun kq v6 w' => ∃ (x6_4 : Int), v6 = .int .i64 x6_4 ∧ zaa (zai.l1 kq (wrap64 ((l0_0.length : Int) + (l0_1.length : Int))) x4_2 x6_4 l0_0 l0_1 l0_2 ((zaf l0_2 x4_2).f0) ((zaf l0_2 x4_2).f1) ((zaf l0_2 x4_2).f2) = some r) ∧ zaa (kq ≤ kj18) ∧ zaa (w'.heap[gb108]? = some (.cells #[(.slice A0_0 l0_0.length c0_0), (.slice A0_1 l0_1.length c0_1), (.slice (some ad111) l0_2.length c0_2)] 25 (0, 0))) ∧ zaa (w'.heap[gb112]? = some (.cells #[.int .i64 ((zaf l0_2 x4_2).f0), (.slice A111_1 ((zaf l0_2 x4_2).f1).length c111_1), .int .i64 ((zaf l0_2 x4_2).f2)] 42 (0, 0))) ∧ zaa (Below w.heap.size w w'))
           case atStart => exact ⟨(0), Yfs, H', ⟨Nat.le_refl _⟩, ⟨Yg BK108⟩, ⟨Yg BK112⟩, ⟨Yb_PItemTellsx3_1⟩⟩
           case round =>
            clear H'
            obtain ⟨x6_4, rfl, HA, HK4, BK108, BK112, HB⟩ := hrel
            cases gk with
            | zero => exact absurd HA.out (by simp [zai.l1])
            | succ k4 =>
             have H := HA.out;clear HA
             simp only [zai.l1] at H
             by_cases c63 : x6_4 < (((zaf l0_2 x4_2).f1).length : Int)
             ·rw [if_pos c63] at H
              have c63b0 := decide_eq_true c63
              clear c63
              by_cases c64 : 0 ≤ x6_4
              ·rw [if_pos c64] at H
               have c64b0 := decide_eq_true c64
               clear c64
               by_cases c65 : ((za3 ((zaf l0_2 x4_2).f1) x6_4).f0) < 0
               ·rw [if_pos c65] at H
                have c65b0 := decide_eq_true c65
                clear c65;obtain rfl := Option.some.inj H
                have hnb66 := NB112_108.out
                have hnc66 := NB108_112.out
                obtain ⟨hcz67_0, hfz67_0, hcz67_1, hfz67_1, hcz67_2, hfz67_2⟩ := Yc3 BK112.out
                have p114 : 0 ≤ (x6_4 : Int) := Yod
                have q114 : x6_4 < (((zaf l0_2 x4_2).f1).length : Int) := Yod
                obtain ⟨ad114, e114, hx114_0, hx114_1, hx114_2⟩ := zej HR111_1.out x6_4 p114 q114
                cases e114
                replace hx114_0 := zad HB.out hx114_0
                replace hx114_1 := zad HB.out hx114_1
                replace hx114_2 := zad HB.out hx114_2
                replace p114 := eq_true p114
                replace q114 := eq_true q114
                go_wp2_with (first | ((with_reducible refine zau (N := 7) rfl ?_); (try (refine zaz (by rfl) ?_; dsimp only)); refine Ybx 7 #[.int .i64 0, .string (⟨#[]⟩ : ByteArray), .string (⟨#[]⟩ : ByteArray)] 44 ?_; intro gb115 hg w68 hbox hb; obtain ⟨BK115, GW115, GE115, HB⟩ := Yb4 hbox hg hb Yb_PItemTellsx3_1; have NB108_115 := Ynl BK108 hg; have NB115_108 := Yng BK108 hg; replace BK108 := Ykb BK108 hb; have NB112_115 := Ynl BK112 hg; have NB115_112 := Yng BK112 hg; replace BK112 := Ykb BK112 hb; clear hb hbox hg; have hnb69 := NB115_108.out; have hnc69 := NB108_115.out; have hnb70 := NB115_112.out; have hnc70 := NB112_115.out; obtain ⟨hcz71_0, hfz71_0, hcz71_1, hfz71_1, hcz71_2, hfz71_2⟩ := Yc3 BK115.out))
                repeat (go_quiet (first | ((with_reducible refine zau (N := 7) rfl ?_); (try (refine zaz (by rfl) ?_; dsimp only)); refine Ybx 7 #[.int .i64 0, .string (⟨#[]⟩ : ByteArray), .string (⟨#[]⟩ : ByteArray)] 44 ?_; intro gb115 hg w68 hbox hb; obtain ⟨BK115, GW115, GE115, HB⟩ := Yb4 hbox hg hb Yb_PItemTellsx3_1; have NB108_115 := Ynl BK108 hg; have NB115_108 := Yng BK108 hg; replace BK108 := Ykb BK108 hb; have NB112_115 := Ynl BK112 hg; have NB115_112 := Yng BK112 hg; replace BK112 := Ykb BK112 hb; clear hb hbox hg; have hnb69 := NB115_108.out; have hnc69 := NB108_115.out; have hnb70 := NB115_112.out; have hnc70 := NB112_115.out; obtain ⟨hcz71_0, hfz71_0, hcz71_1, hfz71_1, hcz71_2, hfz71_2⟩ := Yc3 BK115.out)); try go_wp2_with (first | ((with_reducible refine zau (N := 7) rfl ?_); (try (refine zaz (by rfl) ?_; dsimp only)); refine Ybx 7 #[.int .i64 0, .string (⟨#[]⟩ : ByteArray), .string (⟨#[]⟩ : ByteArray)] 44 ?_; intro gb115 hg w68 hbox hb; obtain ⟨BK115, GW115, GE115, HB⟩ := Yb4 hbox hg hb Yb_PItemTellsx3_1; have NB108_115 := Ynl BK108 hg; have NB115_108 := Yng BK108 hg; replace BK108 := Ykb BK108 hb; have NB112_115 := Ynl BK112 hg; have NB115_112 := Yng BK112 hg; replace BK112 := Ykb BK112 hb; clear hb hbox hg; have hnb69 := NB115_108.out; have hnc69 := NB108_115.out; have hnb70 := NB115_112.out; have hnc70 := NB112_115.out; obtain ⟨hcz71_0, hfz71_0, hcz71_1, hfz71_1, hcz71_2, hfz71_2⟩ := Yc3 BK115.out)))
                go_ret
                exact ⟨Yfi, Yb_PItemTellsx3_2⟩
               ·rw [if_neg c65] at H
                have c65b0 := decide_eq_false c65
                clear c65
                by_cases c72 : ((za3 ((zaf l0_2 x4_2).f1) x6_4).f0) ≥ (wrap64 ((l0_0.length : Int) + (l0_1.length : Int)))
                ·rw [if_pos c72] at H
                 have c72b0 := decide_eq_true c72
                 clear c72;obtain rfl := Option.some.inj H
                 have hnb73 := NB112_108.out
                 have hnc73 := NB108_112.out
                 obtain ⟨hcz74_0, hfz74_0, hcz74_1, hfz74_1, hcz74_2, hfz74_2⟩ := Yc3 BK112.out
                 have p114 : 0 ≤ (x6_4 : Int) := Yod
                 have q114 : x6_4 < (((zaf l0_2 x4_2).f1).length : Int) := Yod
                 obtain ⟨ad114, e114, hx114_0, hx114_1, hx114_2⟩ := zej HR111_1.out x6_4 p114 q114
                 cases e114
                 replace hx114_0 := zad HB.out hx114_0
                 replace hx114_1 := zad HB.out hx114_1
                 replace hx114_2 := zad HB.out hx114_2
                 replace p114 := eq_true p114
                 replace q114 := eq_true q114
                 go_wp2_with (first | ((with_reducible refine zau (N := 7) rfl ?_); (try (refine zaz (by rfl) ?_; dsimp only)); refine Ybx 7 #[.int .i64 0, .string (⟨#[]⟩ : ByteArray), .string (⟨#[]⟩ : ByteArray)] 44 ?_; intro gb115 hg w75 hbox hb; obtain ⟨BK115, GW115, GE115, HB⟩ := Yb4 hbox hg hb Yb_PItemTellsx3_1; have NB108_115 := Ynl BK108 hg; have NB115_108 := Yng BK108 hg; replace BK108 := Ykb BK108 hb; have NB112_115 := Ynl BK112 hg; have NB115_112 := Yng BK112 hg; replace BK112 := Ykb BK112 hb; clear hb hbox hg; have hnb76 := NB115_108.out; have hnc76 := NB108_115.out; have hnb77 := NB115_112.out; have hnc77 := NB112_115.out; obtain ⟨hcz78_0, hfz78_0, hcz78_1, hfz78_1, hcz78_2, hfz78_2⟩ := Yc3 BK115.out))
                 repeat (go_quiet (first | ((with_reducible refine zau (N := 7) rfl ?_); (try (refine zaz (by rfl) ?_; dsimp only)); refine Ybx 7 #[.int .i64 0, .string (⟨#[]⟩ : ByteArray), .string (⟨#[]⟩ : ByteArray)] 44 ?_; intro gb115 hg w75 hbox hb; obtain ⟨BK115, GW115, GE115, HB⟩ := Yb4 hbox hg hb Yb_PItemTellsx3_1; have NB108_115 := Ynl BK108 hg; have NB115_108 := Yng BK108 hg; replace BK108 := Ykb BK108 hb; have NB112_115 := Ynl BK112 hg; have NB115_112 := Yng BK112 hg; replace BK112 := Ykb BK112 hb; clear hb hbox hg; have hnb76 := NB115_108.out; have hnc76 := NB108_115.out; have hnb77 := NB115_112.out; have hnc77 := NB112_115.out; obtain ⟨hcz78_0, hfz78_0, hcz78_1, hfz78_1, hcz78_2, hfz78_2⟩ := Yc3 BK115.out)); try go_wp2_with (first | ((with_reducible refine zau (N := 7) rfl ?_); (try (refine zaz (by rfl) ?_; dsimp only)); refine Ybx 7 #[.int .i64 0, .string (⟨#[]⟩ : ByteArray), .string (⟨#[]⟩ : ByteArray)] 44 ?_; intro gb115 hg w75 hbox hb; obtain ⟨BK115, GW115, GE115, HB⟩ := Yb4 hbox hg hb Yb_PItemTellsx3_1; have NB108_115 := Ynl BK108 hg; have NB115_108 := Yng BK108 hg; replace BK108 := Ykb BK108 hb; have NB112_115 := Ynl BK112 hg; have NB115_112 := Yng BK112 hg; replace BK112 := Ykb BK112 hb; clear hb hbox hg; have hnb76 := NB115_108.out; have hnc76 := NB108_115.out; have hnb77 := NB115_112.out; have hnc77 := NB112_115.out; obtain ⟨hcz78_0, hfz78_0, hcz78_1, hfz78_1, hcz78_2, hfz78_2⟩ := Yc3 BK115.out)))
                 go_ret
                 exact ⟨Yfi, Yb_PItemTellsx3_2⟩
                ·rw [if_neg c72] at H
                 have c72b0 := decide_eq_false c72
                 clear c72;replace H := Option.bind_eq_some_iff.mp H
                 obtain ⟨t116, A790, H⟩ := H
                 replace H : (if t116 = true then ((zbb.f k4 ((za3 ((zaf l0_2 x4_2).f1) x6_4).f2)).bind fun t117 => (if t117 = true then (zai.l1 k4 (wrap64 ((l0_0.length : Int) + (l0_1.length : Int))) x4_2 (wrap64 (x6_4 + 1)) l0_0 l0_1 l0_2 ((zaf l0_2 x4_2).f0) ((zaf l0_2 x4_2).f1) ((zaf l0_2 x4_2).f2)) else (some false))) else (some false)) = some r := H
                 have A79 := zaa.mk A790;clear A790
                 by_cases c80 : t116 = true
                 ·subst c80
                  have H1 : ((zbb.f k4 ((za3 ((zaf l0_2 x4_2).f1) x6_4).f2)).bind fun t117 => (if t117 = true then (zai.l1 k4 (wrap64 ((l0_0.length : Int) + (l0_1.length : Int))) x4_2 (wrap64 (x6_4 + 1)) l0_0 l0_1 l0_2 ((zaf l0_2 x4_2).f0) ((zaf l0_2 x4_2).f1) ((zaf l0_2 x4_2).f2)) else (some false))) = some r := by rw [if_pos rfl] at H; exact H
                  clear H;have H := H1;clear H1;replace H := Option.bind_eq_some_iff.mp H
                  obtain ⟨t117, A810, H⟩ := H
                  replace H : (if t117 = true then (zai.l1 k4 (wrap64 ((l0_0.length : Int) + (l0_1.length : Int))) x4_2 (wrap64 (x6_4 + 1)) l0_0 l0_1 l0_2 ((zaf l0_2 x4_2).f0) ((zaf l0_2 x4_2).f1) ((zaf l0_2 x4_2).f2)) else (some false)) = some r := H
                  have A81 := zaa.mk A810;clear A810
                  by_cases c82 : t117 = true
                  ·subst c82
                   have H1 : (zai.l1 k4 (wrap64 ((l0_0.length : Int) + (l0_1.length : Int))) x4_2 (wrap64 (x6_4 + 1)) l0_0 l0_1 l0_2 ((zaf l0_2 x4_2).f0) ((zaf l0_2 x4_2).f1) ((zaf l0_2 x4_2).f2)) = some r := by rw [if_pos rfl] at H; exact H
                   clear H;have H := H1;clear H1
                   have H' := zaa.mk H
                   clear H
                   have hnb83 := NB112_108.out
                   have hnc83 := NB108_112.out
                   obtain ⟨hcz84_0, hfz84_0, hcz84_1, hfz84_1, hcz84_2, hfz84_2⟩ := Yc3 BK112.out
                   have p114 : 0 ≤ (x6_4 : Int) := Yod
                   have q114 : x6_4 < (((zaf l0_2 x4_2).f1).length : Int) := Yod
                   obtain ⟨ad114, e114, hx114_0, hx114_1, hx114_2⟩ := zej HR111_1.out x6_4 p114 q114
                   cases e114
                   replace hx114_0 := zad HB.out hx114_0
                   replace hx114_1 := zad HB.out hx114_1
                   replace hx114_2 := zad HB.out hx114_2
                   replace p114 := eq_true p114
                   replace q114 := eq_true q114
                   go_wp2_with (first | ((with_reducible refine zau (N := 7) rfl ?_); (try (refine zaz (by rfl) ?_; dsimp only)); refine Ybx 7 #[.int .i64 0, .string (⟨#[]⟩ : ByteArray), .string (⟨#[]⟩ : ByteArray)] 44 ?_; intro gb115 hg w85 hbox hb; obtain ⟨BK115, GW115, GE115, HB⟩ := Yb4 hbox hg hb Yb_PItemTellsx3_1; have NB108_115 := Ynl BK108 hg; have NB115_108 := Yng BK108 hg; replace BK108 := Ykb BK108 hb; have NB112_115 := Ynl BK112 hg; have NB115_112 := Yng BK112 hg; replace BK112 := Ykb BK112 hb; clear hb hbox hg; have hnb86 := NB115_108.out; have hnc86 := NB108_115.out; have hnb87 := NB115_112.out; have hnc87 := NB112_115.out; obtain ⟨hcz88_0, hfz88_0, hcz88_1, hfz88_1, hcz88_2, hfz88_2⟩ := Yc3 BK115.out) | (go_at_call 43; (with_reducible refine (zbb.calls k4 ((za3 ((zaf l0_2 x4_2).f1) x6_4).f1) true _ A79.out).mono ?_); rintro e w' ⟨rfl, ⟨nd, rfl⟩⟩; (try first | exact ⟨rfl, _, World.drewN_drewN _ _ _⟩ | exact ⟨rfl, _, Ydd⟩)) | (go_at_call 43; (with_reducible refine (zbb.calls k4 ((za3 ((zaf l0_2 x4_2).f1) x6_4).f2) true _ A81.out).mono ?_); rintro e w' ⟨rfl, ⟨nd, rfl⟩⟩; (try first | exact ⟨rfl, _, World.drewN_drewN _ _ _⟩ | exact ⟨rfl, _, Ydd⟩)))
                   repeat (go_quiet (first | ((with_reducible refine zau (N := 7) rfl ?_); (try (refine zaz (by rfl) ?_; dsimp only)); refine Ybx 7 #[.int .i64 0, .string (⟨#[]⟩ : ByteArray), .string (⟨#[]⟩ : ByteArray)] 44 ?_; intro gb115 hg w85 hbox hb; obtain ⟨BK115, GW115, GE115, HB⟩ := Yb4 hbox hg hb Yb_PItemTellsx3_1; have NB108_115 := Ynl BK108 hg; have NB115_108 := Yng BK108 hg; replace BK108 := Ykb BK108 hb; have NB112_115 := Ynl BK112 hg; have NB115_112 := Yng BK112 hg; replace BK112 := Ykb BK112 hb; clear hb hbox hg; have hnb86 := NB115_108.out; have hnc86 := NB108_115.out; have hnb87 := NB115_112.out; have hnc87 := NB112_115.out; obtain ⟨hcz88_0, hfz88_0, hcz88_1, hfz88_1, hcz88_2, hfz88_2⟩ := Yc3 BK115.out) | (go_at_call 43; (with_reducible refine (zbb.calls k4 ((za3 ((zaf l0_2 x4_2).f1) x6_4).f1) true _ A79.out).mono ?_); rintro e w' ⟨rfl, ⟨nd, rfl⟩⟩; (try first | exact ⟨rfl, _, World.drewN_drewN _ _ _⟩ | exact ⟨rfl, _, Ydd⟩)) | (go_at_call 43; (with_reducible refine (zbb.calls k4 ((za3 ((zaf l0_2 x4_2).f1) x6_4).f2) true _ A81.out).mono ?_); rintro e w' ⟨rfl, ⟨nd, rfl⟩⟩; (try first | exact ⟨rfl, _, World.drewN_drewN _ _ _⟩ | exact ⟨rfl, _, Ydd⟩))); try go_wp2_with (first | ((with_reducible refine zau (N := 7) rfl ?_); (try (refine zaz (by rfl) ?_; dsimp only)); refine Ybx 7 #[.int .i64 0, .string (⟨#[]⟩ : ByteArray), .string (⟨#[]⟩ : ByteArray)] 44 ?_; intro gb115 hg w85 hbox hb; obtain ⟨BK115, GW115, GE115, HB⟩ := Yb4 hbox hg hb Yb_PItemTellsx3_1; have NB108_115 := Ynl BK108 hg; have NB115_108 := Yng BK108 hg; replace BK108 := Ykb BK108 hb; have NB112_115 := Ynl BK112 hg; have NB115_112 := Yng BK112 hg; replace BK112 := Ykb BK112 hb; clear hb hbox hg; have hnb86 := NB115_108.out; have hnc86 := NB108_115.out; have hnb87 := NB115_112.out; have hnc87 := NB112_115.out; obtain ⟨hcz88_0, hfz88_0, hcz88_1, hfz88_1, hcz88_2, hfz88_2⟩ := Yc3 BK115.out) | (go_at_call 43; (with_reducible refine (zbb.calls k4 ((za3 ((zaf l0_2 x4_2).f1) x6_4).f1) true _ A79.out).mono ?_); rintro e w' ⟨rfl, ⟨nd, rfl⟩⟩; (try first | exact ⟨rfl, _, World.drewN_drewN _ _ _⟩ | exact ⟨rfl, _, Ydd⟩)) | (go_at_call 43; (with_reducible refine (zbb.calls k4 ((za3 ((zaf l0_2 x4_2).f1) x6_4).f2) true _ A81.out).mono ?_); rintro e w' ⟨rfl, ⟨nd, rfl⟩⟩; (try first | exact ⟨rfl, _, World.drewN_drewN _ _ _⟩ | exact ⟨rfl, _, Ydd⟩))))
                   go_roundg k4
                   case measure => have := HJ1.out; have := HK2.out; have := HJ18.out; have := HK4.out; omega
                   case rel => exact ⟨(wrap64 (x6_4 + 1)), Yfs, H', ⟨by have := HJ1.out; have := HK2.out; have := HJ18.out; have := HK4.out; omega⟩, ⟨by (with_reducible repeat (first | refine zam ?_ _ | refine zah ?_ | refine zaj ?_ _)); refine zbg ?_ NB108_115.out _; (with_reducible repeat (first | refine zam ?_ _ | refine zah ?_ | refine zaj ?_ _)); refine zbg ?_ NB108_115.out _; (with_reducible repeat (first | refine zam ?_ _ | refine zah ?_ | refine zaj ?_ _)); refine zbg ?_ NB108_115.out _; (with_reducible repeat (first | refine zam ?_ _ | refine zah ?_ | refine zaj ?_ _)); exact BK108.out⟩, ⟨by (with_reducible repeat (first | refine zam ?_ _ | refine zah ?_ | refine zaj ?_ _)); refine zbg ?_ NB112_115.out _; (with_reducible repeat (first | refine zam ?_ _ | refine zah ?_ | refine zaj ?_ _)); refine zbg ?_ NB112_115.out _; (with_reducible repeat (first | refine zam ?_ _ | refine zah ?_ | refine zaj ?_ _)); refine zbg ?_ NB112_115.out _; (with_reducible repeat (first | refine zam ?_ _ | refine zah ?_ | refine zaj ?_ _)); exact BK112.out⟩, ⟨Yb_PItemTellsx3_2⟩⟩
                  ·replace c82 := Bool.eq_false_iff.mpr c82
                   subst c82
                   have H1 : (some false) = some r := by rw [if_neg (show ¬ (false = true) by decide)] at H; exact H
                   clear H;have H := H1;clear H1;obtain rfl := Option.some.inj H
                   have hnb89 := NB112_108.out
                   have hnc89 := NB108_112.out
                   obtain ⟨hcz90_0, hfz90_0, hcz90_1, hfz90_1, hcz90_2, hfz90_2⟩ := Yc3 BK112.out
                   have p114 : 0 ≤ (x6_4 : Int) := Yod
                   have q114 : x6_4 < (((zaf l0_2 x4_2).f1).length : Int) := Yod
                   obtain ⟨ad114, e114, hx114_0, hx114_1, hx114_2⟩ := zej HR111_1.out x6_4 p114 q114
                   cases e114
                   replace hx114_0 := zad HB.out hx114_0
                   replace hx114_1 := zad HB.out hx114_1
                   replace hx114_2 := zad HB.out hx114_2
                   replace p114 := eq_true p114
                   replace q114 := eq_true q114
                   go_wp2_with (first | ((with_reducible refine zau (N := 7) rfl ?_); (try (refine zaz (by rfl) ?_; dsimp only)); refine Ybx 7 #[.int .i64 0, .string (⟨#[]⟩ : ByteArray), .string (⟨#[]⟩ : ByteArray)] 44 ?_; intro gb115 hg w91 hbox hb; obtain ⟨BK115, GW115, GE115, HB⟩ := Yb4 hbox hg hb Yb_PItemTellsx3_1; have NB108_115 := Ynl BK108 hg; have NB115_108 := Yng BK108 hg; replace BK108 := Ykb BK108 hb; have NB112_115 := Ynl BK112 hg; have NB115_112 := Yng BK112 hg; replace BK112 := Ykb BK112 hb; clear hb hbox hg; have hnb92 := NB115_108.out; have hnc92 := NB108_115.out; have hnb93 := NB115_112.out; have hnc93 := NB112_115.out; obtain ⟨hcz94_0, hfz94_0, hcz94_1, hfz94_1, hcz94_2, hfz94_2⟩ := Yc3 BK115.out) | (go_at_call 43; (with_reducible refine (zbb.calls k4 ((za3 ((zaf l0_2 x4_2).f1) x6_4).f1) true _ A79.out).mono ?_); rintro e w' ⟨rfl, ⟨nd, rfl⟩⟩; (try first | exact ⟨rfl, _, World.drewN_drewN _ _ _⟩ | exact ⟨rfl, _, Ydd⟩)) | (go_at_call 43; (with_reducible refine (zbb.calls k4 ((za3 ((zaf l0_2 x4_2).f1) x6_4).f2) false _ A81.out).mono ?_); rintro e w' ⟨rfl, ⟨nd, rfl⟩⟩; (try first | exact ⟨rfl, _, World.drewN_drewN _ _ _⟩ | exact ⟨rfl, _, Ydd⟩)))
                   repeat (go_quiet (first | ((with_reducible refine zau (N := 7) rfl ?_); (try (refine zaz (by rfl) ?_; dsimp only)); refine Ybx 7 #[.int .i64 0, .string (⟨#[]⟩ : ByteArray), .string (⟨#[]⟩ : ByteArray)] 44 ?_; intro gb115 hg w91 hbox hb; obtain ⟨BK115, GW115, GE115, HB⟩ := Yb4 hbox hg hb Yb_PItemTellsx3_1; have NB108_115 := Ynl BK108 hg; have NB115_108 := Yng BK108 hg; replace BK108 := Ykb BK108 hb; have NB112_115 := Ynl BK112 hg; have NB115_112 := Yng BK112 hg; replace BK112 := Ykb BK112 hb; clear hb hbox hg; have hnb92 := NB115_108.out; have hnc92 := NB108_115.out; have hnb93 := NB115_112.out; have hnc93 := NB112_115.out; obtain ⟨hcz94_0, hfz94_0, hcz94_1, hfz94_1, hcz94_2, hfz94_2⟩ := Yc3 BK115.out) | (go_at_call 43; (with_reducible refine (zbb.calls k4 ((za3 ((zaf l0_2 x4_2).f1) x6_4).f1) true _ A79.out).mono ?_); rintro e w' ⟨rfl, ⟨nd, rfl⟩⟩; (try first | exact ⟨rfl, _, World.drewN_drewN _ _ _⟩ | exact ⟨rfl, _, Ydd⟩)) | (go_at_call 43; (with_reducible refine (zbb.calls k4 ((za3 ((zaf l0_2 x4_2).f1) x6_4).f2) false _ A81.out).mono ?_); rintro e w' ⟨rfl, ⟨nd, rfl⟩⟩; (try first | exact ⟨rfl, _, World.drewN_drewN _ _ _⟩ | exact ⟨rfl, _, Ydd⟩))); try go_wp2_with (first | ((with_reducible refine zau (N := 7) rfl ?_); (try (refine zaz (by rfl) ?_; dsimp only)); refine Ybx 7 #[.int .i64 0, .string (⟨#[]⟩ : ByteArray), .string (⟨#[]⟩ : ByteArray)] 44 ?_; intro gb115 hg w91 hbox hb; obtain ⟨BK115, GW115, GE115, HB⟩ := Yb4 hbox hg hb Yb_PItemTellsx3_1; have NB108_115 := Ynl BK108 hg; have NB115_108 := Yng BK108 hg; replace BK108 := Ykb BK108 hb; have NB112_115 := Ynl BK112 hg; have NB115_112 := Yng BK112 hg; replace BK112 := Ykb BK112 hb; clear hb hbox hg; have hnb92 := NB115_108.out; have hnc92 := NB108_115.out; have hnb93 := NB115_112.out; have hnc93 := NB112_115.out; obtain ⟨hcz94_0, hfz94_0, hcz94_1, hfz94_1, hcz94_2, hfz94_2⟩ := Yc3 BK115.out) | (go_at_call 43; (with_reducible refine (zbb.calls k4 ((za3 ((zaf l0_2 x4_2).f1) x6_4).f1) true _ A79.out).mono ?_); rintro e w' ⟨rfl, ⟨nd, rfl⟩⟩; (try first | exact ⟨rfl, _, World.drewN_drewN _ _ _⟩ | exact ⟨rfl, _, Ydd⟩)) | (go_at_call 43; (with_reducible refine (zbb.calls k4 ((za3 ((zaf l0_2 x4_2).f1) x6_4).f2) false _ A81.out).mono ?_); rintro e w' ⟨rfl, ⟨nd, rfl⟩⟩; (try first | exact ⟨rfl, _, World.drewN_drewN _ _ _⟩ | exact ⟨rfl, _, Ydd⟩))))
                   go_ret
                   exact ⟨Yfi, Yb_PItemTellsx3_2⟩
                 ·replace c80 := Bool.eq_false_iff.mpr c80
                  subst c80
                  have H1 : (some false) = some r := by rw [if_neg (show ¬ (false = true) by decide)] at H; exact H
                  clear H;have H := H1;clear H1;obtain rfl := Option.some.inj H
                  have hnb95 := NB112_108.out
                  have hnc95 := NB108_112.out
                  obtain ⟨hcz96_0, hfz96_0, hcz96_1, hfz96_1, hcz96_2, hfz96_2⟩ := Yc3 BK112.out
                  have p114 : 0 ≤ (x6_4 : Int) := Yod
                  have q114 : x6_4 < (((zaf l0_2 x4_2).f1).length : Int) := Yod
                  obtain ⟨ad114, e114, hx114_0, hx114_1, hx114_2⟩ := zej HR111_1.out x6_4 p114 q114
                  cases e114
                  replace hx114_0 := zad HB.out hx114_0
                  replace hx114_1 := zad HB.out hx114_1
                  replace hx114_2 := zad HB.out hx114_2
                  replace p114 := eq_true p114
                  replace q114 := eq_true q114
                  go_wp2_with (first | ((with_reducible refine zau (N := 7) rfl ?_); (try (refine zaz (by rfl) ?_; dsimp only)); refine Ybx 7 #[.int .i64 0, .string (⟨#[]⟩ : ByteArray), .string (⟨#[]⟩ : ByteArray)] 44 ?_; intro gb115 hg w97 hbox hb; obtain ⟨BK115, GW115, GE115, HB⟩ := Yb4 hbox hg hb Yb_PItemTellsx3_1; have NB108_115 := Ynl BK108 hg; have NB115_108 := Yng BK108 hg; replace BK108 := Ykb BK108 hb; have NB112_115 := Ynl BK112 hg; have NB115_112 := Yng BK112 hg; replace BK112 := Ykb BK112 hb; clear hb hbox hg; have hnb98 := NB115_108.out; have hnc98 := NB108_115.out; have hnb99 := NB115_112.out; have hnc99 := NB112_115.out; obtain ⟨hcz100_0, hfz100_0, hcz100_1, hfz100_1, hcz100_2, hfz100_2⟩ := Yc3 BK115.out) | (go_at_call 43; (with_reducible refine (zbb.calls k4 ((za3 ((zaf l0_2 x4_2).f1) x6_4).f1) false _ A79.out).mono ?_); rintro e w' ⟨rfl, ⟨nd, rfl⟩⟩; (try first | exact ⟨rfl, _, World.drewN_drewN _ _ _⟩ | exact ⟨rfl, _, Ydd⟩)))
                  repeat (go_quiet (first | ((with_reducible refine zau (N := 7) rfl ?_); (try (refine zaz (by rfl) ?_; dsimp only)); refine Ybx 7 #[.int .i64 0, .string (⟨#[]⟩ : ByteArray), .string (⟨#[]⟩ : ByteArray)] 44 ?_; intro gb115 hg w97 hbox hb; obtain ⟨BK115, GW115, GE115, HB⟩ := Yb4 hbox hg hb Yb_PItemTellsx3_1; have NB108_115 := Ynl BK108 hg; have NB115_108 := Yng BK108 hg; replace BK108 := Ykb BK108 hb; have NB112_115 := Ynl BK112 hg; have NB115_112 := Yng BK112 hg; replace BK112 := Ykb BK112 hb; clear hb hbox hg; have hnb98 := NB115_108.out; have hnc98 := NB108_115.out; have hnb99 := NB115_112.out; have hnc99 := NB112_115.out; obtain ⟨hcz100_0, hfz100_0, hcz100_1, hfz100_1, hcz100_2, hfz100_2⟩ := Yc3 BK115.out) | (go_at_call 43; (with_reducible refine (zbb.calls k4 ((za3 ((zaf l0_2 x4_2).f1) x6_4).f1) false _ A79.out).mono ?_); rintro e w' ⟨rfl, ⟨nd, rfl⟩⟩; (try first | exact ⟨rfl, _, World.drewN_drewN _ _ _⟩ | exact ⟨rfl, _, Ydd⟩))); try go_wp2_with (first | ((with_reducible refine zau (N := 7) rfl ?_); (try (refine zaz (by rfl) ?_; dsimp only)); refine Ybx 7 #[.int .i64 0, .string (⟨#[]⟩ : ByteArray), .string (⟨#[]⟩ : ByteArray)] 44 ?_; intro gb115 hg w97 hbox hb; obtain ⟨BK115, GW115, GE115, HB⟩ := Yb4 hbox hg hb Yb_PItemTellsx3_1; have NB108_115 := Ynl BK108 hg; have NB115_108 := Yng BK108 hg; replace BK108 := Ykb BK108 hb; have NB112_115 := Ynl BK112 hg; have NB115_112 := Yng BK112 hg; replace BK112 := Ykb BK112 hb; clear hb hbox hg; have hnb98 := NB115_108.out; have hnc98 := NB108_115.out; have hnb99 := NB115_112.out; have hnc99 := NB112_115.out; obtain ⟨hcz100_0, hfz100_0, hcz100_1, hfz100_1, hcz100_2, hfz100_2⟩ := Yc3 BK115.out) | (go_at_call 43; (with_reducible refine (zbb.calls k4 ((za3 ((zaf l0_2 x4_2).f1) x6_4).f1) false _ A79.out).mono ?_); rintro e w' ⟨rfl, ⟨nd, rfl⟩⟩; (try first | exact ⟨rfl, _, World.drewN_drewN _ _ _⟩ | exact ⟨rfl, _, Ydd⟩))))
                  go_ret
                  exact ⟨Yfi, Yb_PItemTellsx3_2⟩
              ·rw [if_neg c64] at H
               exact absurd H (by simp)
             ·rw [if_neg c63] at H
              have c63b0 := decide_eq_false c63
              clear c63
              have H' := zaa.mk H
              clear H
              have hnb101 := NB112_108.out
              have hnc101 := NB108_112.out
              obtain ⟨hcz102_0, hfz102_0, hcz102_1, hfz102_1, hcz102_2, hfz102_2⟩ := Yc3 BK112.out
              go_wp2
              repeat (go_quiet (fail); try go_wp2)
              go_roundg k4
              case measure => have := HJ1.out; have := HK2.out; have := HJ18.out; have := HK4.out; omega
              case rel => exact ⟨(wrap64 (x4_2 + 1)), Yfs, H', ⟨by have := HJ1.out; have := HK2.out; have := HJ18.out; have := HK4.out; omega⟩, ⟨Yg BK108⟩, ⟨Yb_PItemTellsx3_1⟩⟩
       ·rw [if_neg c18] at H
        exact absurd H (by simp)
      ·rw [if_neg c17] at H
       have c17b0 := decide_eq_false c17
       clear c17;obtain rfl := Option.some.inj H
       obtain ⟨hcz103_0, hfz103_0, hcz103_1, hfz103_1, hcz103_2, hfz103_2⟩ := Yc3 BK108.out
       go_wp2
       repeat (go_quiet (fail); try go_wp2)
       go_ret
       exact ⟨Yfi, Yb_PItemTellsx3_0⟩
section
end
attribute [local go_sem high] eqA50
theorem Yb_PItemTellsx4_0 {n : Nat} {w w' : World} (h : Below n w w' := by repeat (first | (with_reducible first | exact HB.out | apply za2 | apply zav | apply zas | refine za6 ?_ GE118.out) | exact HB.out)) : Below n w w' := h
theorem Yb_PItemTellsx4_1 {n : Nat} {w w' : World} (h : Below n w w' := by repeat (first | (with_reducible first | exact HB.out | apply za2 | apply zav | apply zas | refine za6 ?_ GE121.out) | exact HB.out)) : Below n w w' := h
theorem Yb_PItemTellsx4_2 {n : Nat} {w w' : World} (h : Below n w w' := by repeat (first | (with_reducible first | exact HB.out | apply za2 | apply zav | apply zas | refine za6 ?_ GE127.out) | exact HB.out)) : Below n w w' := h
def zbi.l0 : Nat → Int → List (S42) → Int → Int → Option (Int)
 | 0, _, _, _, _ => none
 | k + 1, x3, x7, x8, x9 => if x9 < x8 then (if 0 ≤ x9 then (if x9 < (x7.length : Int) then (zbi.l0 k (wrap64 (x3 + (((zaf x7 x9).f1).length : Int))) x7 x8 (wrap64 (x9 + 1))) else (none)) else (none)) else (some x3)
def zbi.f (k : Nat) (l0_0 : List ByteArray) (l0_1 : List ByteArray) (l0_2 : List (S42)) : Option (Int) := zbi.l0 k 0 l0_2 (l0_2.length : Int) 0
theorem zbi.calls (k : Nat) (A0_0 : Option Addr) (c0_0 : Nat) (l0_0 : List ByteArray) (A0_1 : Option Addr) (c0_1 : Nat) (l0_1 : List ByteArray) (A0_2 : Option Addr) (c0_2 : Nat) (l0_2 : List (S42)) (r : Int) (w : World) (hr0_0 : Kd.C Kd.string w A0_0 l0_0.length l0_0) (hc0_0 : l0_0.length ≤ c0_0) (hr0_1 : Kd.C Kd.string w A0_1 l0_1.length l0_1) (hc0_1 : l0_1.length ≤ c0_1) (hr0_2 : Kd.C k42 w A0_2 l0_2.length l0_2) (hc0_2 : l0_2.length ≤ c0_2) (h : zbi.f k l0_0 l0_1 l0_2 = some r) :
  Calls Tryz.prog 26 #[.agg #[.slice A0_0 l0_0.length c0_0, .slice A0_1 l0_1.length c0_1, .slice A0_2 l0_2.length c0_2]] w fun e w' => e = .returned (.int .i64 r) ∧ Below w.heap.size w w' := by
 have hu25 := Tryz.underlying25
 have hu42 := Tryz.underlying42
 have HR0_0 := zaa.mk hr0_0;have HC0_0 := zaa.mk hc0_0;clear hr0_0 hc0_0;have HR0_1 := zaa.mk hr0_1;have HC0_1 := zaa.mk hc0_1;clear hr0_1 hc0_1;have HR0_2 := zaa.mk hr0_2;have HC0_2 := zaa.mk hc0_2;clear hr0_2 hc0_2
 have HB := zaa.mk (Below.refl w.heap.size w)
 have H : (zbi.l0 k 0 l0_2 (l0_2.length : Int) 0) = some r := h
 clear h
 have H' := zaa.mk H
 clear H
 go_enter Tryz.func26, Tryz.ntmps26
 go_wp2_with (first | ((with_reducible refine zau (N := 1) rfl ?_); refine Ybx 1 #[.slice A0_0 l0_0.length c0_0, .slice A0_1 l0_1.length c0_1, .slice A0_2 l0_2.length c0_2] 25 ?_; intro gb118 hg w2 hbox hb; obtain ⟨BK118, GW118, GE118, HB⟩ := Yb4 hbox hg hb Ybe; clear hb hbox hg; obtain ⟨hcz3_0, hfz3_0, hcz3_1, hfz3_1, hcz3_2, hfz3_2⟩ := Yc3 BK118.out))
 go_loopg [3, 9] k (fun kq v3 v9 w' => ∃ (x3_1 : Int) (x9_1 : Int), v3 = .int .i64 x3_1 ∧ v9 = .int .i64 x9_1 ∧ zaa (zbi.l0 kq x3_1 l0_2 (l0_2.length : Int) x9_1 = some r) ∧ zaa (kq ≤ k) ∧ zaa (w'.heap[gb118]? = some (.cells #[(.slice A0_0 l0_0.length c0_0), (.slice A0_1 l0_1.length c0_1), (.slice A0_2 l0_2.length c0_2)] 25 (0, 0))) ∧ zaa (Below w.heap.size w w'))
 case atStart => exact ⟨(0), (0), Yfs, Yfs, H', ⟨Nat.le_refl _⟩, ⟨Yg BK118⟩, ⟨Yb_PItemTellsx4_0⟩⟩
 case round =>
  clear H'
  obtain ⟨x3_1, x9_1, rfl, rfl, HA, HK1, BK118, HB⟩ := hrel
  cases gk with
  | zero => exact absurd HA.out (by simp [zbi.l0])
  | succ k1 =>
   have H := HA.out;clear HA
   simp only [zbi.l0] at H
   by_cases c4 : x9_1 < (l0_2.length : Int)
   ·rw [if_pos c4] at H
    have c4b0 := decide_eq_true c4
    clear c4
    by_cases c5 : 0 ≤ x9_1
    ·rw [if_pos c5] at H
     have c5b0 := decide_eq_true c5
     clear c5
     by_cases c6 : x9_1 < (l0_2.length : Int)
     ·rw [if_pos c6] at H
      have c6b0 := decide_eq_true c6
      clear c6
      have H' := zaa.mk H
      clear H
      have p119 : 0 ≤ (x9_1 : Int) := Yod
      have q119 : x9_1 < (l0_2.length : Int) := Yod
      obtain ⟨ad119, A119_1, c119_1, e119, hx119_0, hx119_1, hx119_2, hl119_1, hi119_1⟩ := zdf HR0_2.out x9_1 p119 q119
      cases e119
      replace hx119_0 := zad HB.out hx119_0
      replace hx119_1 := zad HB.out hx119_1
      replace hx119_2 := zad HB.out hx119_2
      have HR119_1 := zaa.mk hi119_1;have HC119_1 := zaa.mk hl119_1;clear hi119_1 hl119_1
      replace p119 := eq_true p119
      replace q119 := eq_true q119
      go_wp2_with (first | ((with_reducible refine zau (N := 5) rfl ?_); refine Ybx 5 #[.int .i64 0, .slice none 0 0, .int .i64 0] 42 ?_; intro gb120 hg w7 hbox hb; obtain ⟨BK120, GW120, GE120, HB⟩ := Yb4 hbox hg hb Yb_PItemTellsx4_0; have NB118_120 := Ynl BK118 hg; have NB120_118 := Yng BK118 hg; replace BK118 := Ykb BK118 hb; clear hb hbox hg; have hnb8 := NB120_118.out; have hnc8 := NB118_120.out; obtain ⟨hcz9_0, hfz9_0, hcz9_1, hfz9_1, hcz9_2, hfz9_2⟩ := Yc3 BK120.out))
      go_roundg k1
      case measure => have := HK1.out; omega
      case rel => exact ⟨(wrap64 (x3_1 + (((zaf l0_2 x9_1).f1).length : Int))), (wrap64 (x9_1 + 1)), Yfs, Yfs, H', ⟨by have := HK1.out; omega⟩, ⟨by (with_reducible repeat (first | refine zam ?_ _ | refine zah ?_ | refine zaj ?_ _)); refine zbg ?_ NB118_120.out _; (with_reducible repeat (first | refine zam ?_ _ | refine zah ?_ | refine zaj ?_ _)); refine zbg ?_ NB118_120.out _; (with_reducible repeat (first | refine zam ?_ _ | refine zah ?_ | refine zaj ?_ _)); refine zbg ?_ NB118_120.out _; (with_reducible repeat (first | refine zam ?_ _ | refine zah ?_ | refine zaj ?_ _)); exact BK118.out⟩, ⟨(by repeat (first | (with_reducible first | exact HB.out | apply za2 | apply zav | apply zas | refine za6 ?_ GE118.out | refine za6 ?_ GE120.out) | exact HB.out))⟩⟩
     ·rw [if_neg c6] at H
      exact absurd H (by simp)
    ·rw [if_neg c5] at H
     exact absurd H (by simp)
   ·rw [if_neg c4] at H
    have c4b0 := decide_eq_false c4
    clear c4;obtain rfl := Option.some.inj H;go_wp2;go_ret
    exact ⟨Yfi, Yb_PItemTellsx4_0⟩
def zct.f (k : Nat) (l0_0 : List ByteArray) (l0_1 : List ByteArray) (l0_2 : List (S42)) : Option (Bool) := (zbe.f k l0_0 l0_1 l0_2).bind fun t122 => (if t122 = true then ((zai.f k l0_0 l0_1 l0_2).bind fun t123 => (if t123 = true then (if (wrap64 ((l0_0.length : Int) + (l0_1.length : Int))) ≤ 16 then (if (l0_2.length : Int) ≤ 16 then ((zbi.f k l0_0 l0_1 l0_2).bind fun t124 => (some (decide (t124 ≤ 60)))) else (some false)) else (some false)) else (some false))) else (some false))
theorem zct.calls (k : Nat) (A0_0 : Option Addr) (c0_0 : Nat) (l0_0 : List ByteArray) (A0_1 : Option Addr) (c0_1 : Nat) (l0_1 : List ByteArray) (A0_2 : Option Addr) (c0_2 : Nat) (l0_2 : List (S42)) (r : Bool) (w : World) (hr0_0 : Kd.C Kd.string w A0_0 l0_0.length l0_0) (hc0_0 : l0_0.length ≤ c0_0) (hr0_1 : Kd.C Kd.string w A0_1 l0_1.length l0_1) (hc0_1 : l0_1.length ≤ c0_1) (hr0_2 : Kd.C k42 w A0_2 l0_2.length l0_2) (hc0_2 : l0_2.length ≤ c0_2) (h : zct.f k l0_0 l0_1 l0_2 = some r) :
  Calls Tryz.prog 6 #[.agg #[.slice A0_0 l0_0.length c0_0, .slice A0_1 l0_1.length c0_1, .slice A0_2 l0_2.length c0_2]] w fun e w' => e = .returned (.bool r) ∧ Below w.heap.size w w' := by
 have hu25 := Tryz.underlying25
 have HR0_0 := zaa.mk hr0_0;have HC0_0 := zaa.mk hc0_0;clear hr0_0 hc0_0;have HR0_1 := zaa.mk hr0_1;have HC0_1 := zaa.mk hc0_1;clear hr0_1 hc0_1;have HR0_2 := zaa.mk hr0_2;have HC0_2 := zaa.mk hc0_2;clear hr0_2 hc0_2
 have HB := zaa.mk (Below.refl w.heap.size w)
 have H : ((zbe.f k l0_0 l0_1 l0_2).bind fun t122 => (if t122 = true then ((zai.f k l0_0 l0_1 l0_2).bind fun t123 => (if t123 = true then (if (wrap64 ((l0_0.length : Int) + (l0_1.length : Int))) ≤ 16 then (if (l0_2.length : Int) ≤ 16 then ((zbi.f k l0_0 l0_1 l0_2).bind fun t124 => (some (decide (t124 ≤ 60)))) else (some false)) else (some false)) else (some false))) else (some false))) = some r := h
 clear h;replace H := Option.bind_eq_some_iff.mp H
 obtain ⟨t122, A20, H⟩ := H
 replace H : (if t122 = true then ((zai.f k l0_0 l0_1 l0_2).bind fun t123 => (if t123 = true then (if (wrap64 ((l0_0.length : Int) + (l0_1.length : Int))) ≤ 16 then (if (l0_2.length : Int) ≤ 16 then ((zbi.f k l0_0 l0_1 l0_2).bind fun t124 => (some (decide (t124 ≤ 60)))) else (some false)) else (some false)) else (some false))) else (some false)) = some r := H
 have A2 := zaa.mk A20;clear A20
 by_cases c3 : t122 = true
 ·subst c3
  have H1 : ((zai.f k l0_0 l0_1 l0_2).bind fun t123 => (if t123 = true then (if (wrap64 ((l0_0.length : Int) + (l0_1.length : Int))) ≤ 16 then (if (l0_2.length : Int) ≤ 16 then ((zbi.f k l0_0 l0_1 l0_2).bind fun t124 => (some (decide (t124 ≤ 60)))) else (some false)) else (some false)) else (some false))) = some r := by rw [if_pos rfl] at H; exact H
  clear H;have H := H1;clear H1;replace H := Option.bind_eq_some_iff.mp H
  obtain ⟨t123, A40, H⟩ := H
  replace H : (if t123 = true then (if (wrap64 ((l0_0.length : Int) + (l0_1.length : Int))) ≤ 16 then (if (l0_2.length : Int) ≤ 16 then ((zbi.f k l0_0 l0_1 l0_2).bind fun t124 => (some (decide (t124 ≤ 60)))) else (some false)) else (some false)) else (some false)) = some r := H
  have A4 := zaa.mk A40;clear A40
  by_cases c5 : t123 = true
  ·subst c5
   have H1 : (if (wrap64 ((l0_0.length : Int) + (l0_1.length : Int))) ≤ 16 then (if (l0_2.length : Int) ≤ 16 then ((zbi.f k l0_0 l0_1 l0_2).bind fun t124 => (some (decide (t124 ≤ 60)))) else (some false)) else (some false)) = some r := by rw [if_pos rfl] at H; exact H
   clear H;have H := H1;clear H1
   by_cases c6 : (wrap64 ((l0_0.length : Int) + (l0_1.length : Int))) ≤ 16
   ·rw [if_pos c6] at H
    have c6b0 := decide_eq_true c6
    clear c6
    by_cases c7 : (l0_2.length : Int) ≤ 16
    ·rw [if_pos c7] at H
     have c7b0 := decide_eq_true c7
     have c7b1 : decide (l0_2.length ≤ 16) = true := decide_eq_true (by omega)
     clear c7;replace H := Option.bind_eq_some_iff.mp H
     obtain ⟨t124, A80, H⟩ := H
     replace H : (some (decide (t124 ≤ 60))) = some r := H
     have A8 := zaa.mk A80;clear A80;obtain rfl := Option.some.inj H
     go_enter Tryz.func6, Tryz.ntmps6
     go_wp2_with (first | ((with_reducible refine zau (N := 1) rfl ?_); (try (refine zaz (by rfl) ?_; dsimp only)); refine Ybx 1 #[.slice A0_0 l0_0.length c0_0, .slice A0_1 l0_1.length c0_1, .slice A0_2 l0_2.length c0_2] 25 ?_; intro gb121 hg w9 hbox hb; obtain ⟨BK121, GW121, GE121, HB⟩ := Yb4 hbox hg hb Ybe; clear hb hbox hg; obtain ⟨hcz10_0, hfz10_0, hcz10_1, hfz10_1, hcz10_2, hfz10_2⟩ := Yc3 BK121.out) | ((with_reducible refine zbm (f := 24) rfl ?_); refine Ygl (some 4) Tryz.func24 #[.agg #[.slice A0_0 l0_0.length c0_0, .slice A0_1 l0_1.length c0_1, .slice A0_2 l0_2.length c0_2]] ?_; (with_reducible refine (zbe.calls k _ _ l0_0 _ _ l0_1 _ _ l0_2 true _ (Kd.zak HR0_0.out Ybe) HC0_0.out (Kd.zak HR0_1.out Ybe) HC0_1.out (Kd.zak HR0_2.out Ybe) HC0_2.out A2.out).mono ?_); rintro e w11 ⟨rfl, hb⟩; refine ⟨_, rfl, ?_⟩; replace BK121 := Ykb BK121 hb; replace HB := zaa.mk (zay Yb_PItemTellsx4_1 hb); (try clear hb); (try clear hb2); (try clear hk); (try clear hi); obtain ⟨hcz12_0, hfz12_0, hcz12_1, hfz12_1, hcz12_2, hfz12_2⟩ := Yc3 BK121.out) | (go_at_call 25; (with_reducible refine (zai.calls k _ _ l0_0 _ _ l0_1 _ _ l0_2 true _ (Kd.zak HR0_0.out Ybe) HC0_0.out (Kd.zak HR0_1.out Ybe) HC0_1.out (Kd.zak HR0_2.out Ybe) HC0_2.out A4.out).mono ?_); rintro e w13 ⟨rfl, hb⟩; replace BK121 := Ykb BK121 hb; replace HB := zaa.mk (zay Yb_PItemTellsx4_1 hb); (try clear hb); (try clear hb2); (try clear hk); (try clear hi); obtain ⟨hcz14_0, hfz14_0, hcz14_1, hfz14_1, hcz14_2, hfz14_2⟩ := Yc3 BK121.out) | (go_at_call 26; (with_reducible refine (zbi.calls k _ _ l0_0 _ _ l0_1 _ _ l0_2 t124 _ (Kd.zak HR0_0.out Ybe) HC0_0.out (Kd.zak HR0_1.out Ybe) HC0_1.out (Kd.zak HR0_2.out Ybe) HC0_2.out A8.out).mono ?_); rintro e w15 ⟨rfl, hb⟩; replace BK121 := Ykb BK121 hb; replace HB := zaa.mk (zay Yb_PItemTellsx4_1 hb); (try clear hb); (try clear hb2); (try clear hk); (try clear hi)))
     go_ret
     exact ⟨Yfi, Yb_PItemTellsx4_1⟩
    ·rw [if_neg c7] at H
     have c7b0 := decide_eq_false c7
     have c7b1 : decide (l0_2.length ≤ 16) = false := decide_eq_false (by omega)
     clear c7;obtain rfl := Option.some.inj H
     go_enter Tryz.func6, Tryz.ntmps6
     go_wp2_with (first | ((with_reducible refine zau (N := 1) rfl ?_); (try (refine zaz (by rfl) ?_; dsimp only)); refine Ybx 1 #[.slice A0_0 l0_0.length c0_0, .slice A0_1 l0_1.length c0_1, .slice A0_2 l0_2.length c0_2] 25 ?_; intro gb121 hg w16 hbox hb; obtain ⟨BK121, GW121, GE121, HB⟩ := Yb4 hbox hg hb Ybe; clear hb hbox hg; obtain ⟨hcz17_0, hfz17_0, hcz17_1, hfz17_1, hcz17_2, hfz17_2⟩ := Yc3 BK121.out) | ((with_reducible refine zbm (f := 24) rfl ?_); refine Ygl (some 4) Tryz.func24 #[.agg #[.slice A0_0 l0_0.length c0_0, .slice A0_1 l0_1.length c0_1, .slice A0_2 l0_2.length c0_2]] ?_; (with_reducible refine (zbe.calls k _ _ l0_0 _ _ l0_1 _ _ l0_2 true _ (Kd.zak HR0_0.out Ybe) HC0_0.out (Kd.zak HR0_1.out Ybe) HC0_1.out (Kd.zak HR0_2.out Ybe) HC0_2.out A2.out).mono ?_); rintro e w18 ⟨rfl, hb⟩; refine ⟨_, rfl, ?_⟩; replace BK121 := Ykb BK121 hb; replace HB := zaa.mk (zay Yb_PItemTellsx4_1 hb); (try clear hb); (try clear hb2); (try clear hk); (try clear hi); obtain ⟨hcz19_0, hfz19_0, hcz19_1, hfz19_1, hcz19_2, hfz19_2⟩ := Yc3 BK121.out) | (go_at_call 25; (with_reducible refine (zai.calls k _ _ l0_0 _ _ l0_1 _ _ l0_2 true _ (Kd.zak HR0_0.out Ybe) HC0_0.out (Kd.zak HR0_1.out Ybe) HC0_1.out (Kd.zak HR0_2.out Ybe) HC0_2.out A4.out).mono ?_); rintro e w20 ⟨rfl, hb⟩; replace BK121 := Ykb BK121 hb; replace HB := zaa.mk (zay Yb_PItemTellsx4_1 hb); (try clear hb); (try clear hb2); (try clear hk); (try clear hi); obtain ⟨hcz21_0, hfz21_0, hcz21_1, hfz21_1, hcz21_2, hfz21_2⟩ := Yc3 BK121.out))
     go_ret
     exact ⟨Yfi, Yb_PItemTellsx4_1⟩
   ·rw [if_neg c6] at H
    have c6b0 := decide_eq_false c6
    clear c6;obtain rfl := Option.some.inj H
    go_enter Tryz.func6, Tryz.ntmps6
    go_wp2_with (first | ((with_reducible refine zau (N := 1) rfl ?_); (try (refine zaz (by rfl) ?_; dsimp only)); refine Ybx 1 #[.slice A0_0 l0_0.length c0_0, .slice A0_1 l0_1.length c0_1, .slice A0_2 l0_2.length c0_2] 25 ?_; intro gb121 hg w22 hbox hb; obtain ⟨BK121, GW121, GE121, HB⟩ := Yb4 hbox hg hb Ybe; clear hb hbox hg; obtain ⟨hcz23_0, hfz23_0, hcz23_1, hfz23_1, hcz23_2, hfz23_2⟩ := Yc3 BK121.out) | ((with_reducible refine zbm (f := 24) rfl ?_); refine Ygl (some 4) Tryz.func24 #[.agg #[.slice A0_0 l0_0.length c0_0, .slice A0_1 l0_1.length c0_1, .slice A0_2 l0_2.length c0_2]] ?_; (with_reducible refine (zbe.calls k _ _ l0_0 _ _ l0_1 _ _ l0_2 true _ (Kd.zak HR0_0.out Ybe) HC0_0.out (Kd.zak HR0_1.out Ybe) HC0_1.out (Kd.zak HR0_2.out Ybe) HC0_2.out A2.out).mono ?_); rintro e w24 ⟨rfl, hb⟩; refine ⟨_, rfl, ?_⟩; replace BK121 := Ykb BK121 hb; replace HB := zaa.mk (zay Yb_PItemTellsx4_1 hb); (try clear hb); (try clear hb2); (try clear hk); (try clear hi); obtain ⟨hcz25_0, hfz25_0, hcz25_1, hfz25_1, hcz25_2, hfz25_2⟩ := Yc3 BK121.out) | (go_at_call 25; (with_reducible refine (zai.calls k _ _ l0_0 _ _ l0_1 _ _ l0_2 true _ (Kd.zak HR0_0.out Ybe) HC0_0.out (Kd.zak HR0_1.out Ybe) HC0_1.out (Kd.zak HR0_2.out Ybe) HC0_2.out A4.out).mono ?_); rintro e w26 ⟨rfl, hb⟩; replace BK121 := Ykb BK121 hb; replace HB := zaa.mk (zay Yb_PItemTellsx4_1 hb); (try clear hb); (try clear hb2); (try clear hk); (try clear hi); obtain ⟨hcz27_0, hfz27_0, hcz27_1, hfz27_1, hcz27_2, hfz27_2⟩ := Yc3 BK121.out))
    go_ret
    exact ⟨Yfi, Yb_PItemTellsx4_1⟩
  ·replace c5 := Bool.eq_false_iff.mpr c5
   subst c5
   have H1 : (some false) = some r := by rw [if_neg (show ¬ (false = true) by decide)] at H; exact H
   clear H;have H := H1;clear H1;obtain rfl := Option.some.inj H
   go_enter Tryz.func6, Tryz.ntmps6
   go_wp2_with (first | ((with_reducible refine zau (N := 1) rfl ?_); (try (refine zaz (by rfl) ?_; dsimp only)); refine Ybx 1 #[.slice A0_0 l0_0.length c0_0, .slice A0_1 l0_1.length c0_1, .slice A0_2 l0_2.length c0_2] 25 ?_; intro gb121 hg w28 hbox hb; obtain ⟨BK121, GW121, GE121, HB⟩ := Yb4 hbox hg hb Ybe; clear hb hbox hg; obtain ⟨hcz29_0, hfz29_0, hcz29_1, hfz29_1, hcz29_2, hfz29_2⟩ := Yc3 BK121.out) | ((with_reducible refine zbm (f := 24) rfl ?_); refine Ygl (some 4) Tryz.func24 #[.agg #[.slice A0_0 l0_0.length c0_0, .slice A0_1 l0_1.length c0_1, .slice A0_2 l0_2.length c0_2]] ?_; (with_reducible refine (zbe.calls k _ _ l0_0 _ _ l0_1 _ _ l0_2 true _ (Kd.zak HR0_0.out Ybe) HC0_0.out (Kd.zak HR0_1.out Ybe) HC0_1.out (Kd.zak HR0_2.out Ybe) HC0_2.out A2.out).mono ?_); rintro e w30 ⟨rfl, hb⟩; refine ⟨_, rfl, ?_⟩; replace BK121 := Ykb BK121 hb; replace HB := zaa.mk (zay Yb_PItemTellsx4_1 hb); (try clear hb); (try clear hb2); (try clear hk); (try clear hi); obtain ⟨hcz31_0, hfz31_0, hcz31_1, hfz31_1, hcz31_2, hfz31_2⟩ := Yc3 BK121.out) | (go_at_call 25; (with_reducible refine (zai.calls k _ _ l0_0 _ _ l0_1 _ _ l0_2 false _ (Kd.zak HR0_0.out Ybe) HC0_0.out (Kd.zak HR0_1.out Ybe) HC0_1.out (Kd.zak HR0_2.out Ybe) HC0_2.out A4.out).mono ?_); rintro e w32 ⟨rfl, hb⟩; replace BK121 := Ykb BK121 hb; replace HB := zaa.mk (zay Yb_PItemTellsx4_1 hb); (try clear hb); (try clear hb2); (try clear hk); (try clear hi)))
   go_ret
   exact ⟨Yfi, Yb_PItemTellsx4_1⟩
 ·replace c3 := Bool.eq_false_iff.mpr c3
  subst c3
  have H1 : (some false) = some r := by rw [if_neg (show ¬ (false = true) by decide)] at H; exact H
  clear H;have H := H1;clear H1;obtain rfl := Option.some.inj H
  go_enter Tryz.func6, Tryz.ntmps6
  go_wp2_with (first | ((with_reducible refine zau (N := 1) rfl ?_); (try (refine zaz (by rfl) ?_; dsimp only)); refine Ybx 1 #[.slice A0_0 l0_0.length c0_0, .slice A0_1 l0_1.length c0_1, .slice A0_2 l0_2.length c0_2] 25 ?_; intro gb121 hg w33 hbox hb; obtain ⟨BK121, GW121, GE121, HB⟩ := Yb4 hbox hg hb Ybe; clear hb hbox hg; obtain ⟨hcz34_0, hfz34_0, hcz34_1, hfz34_1, hcz34_2, hfz34_2⟩ := Yc3 BK121.out) | ((with_reducible refine zbm (f := 24) rfl ?_); refine Ygl (some 4) Tryz.func24 #[.agg #[.slice A0_0 l0_0.length c0_0, .slice A0_1 l0_1.length c0_1, .slice A0_2 l0_2.length c0_2]] ?_; (with_reducible refine (zbe.calls k _ _ l0_0 _ _ l0_1 _ _ l0_2 false _ (Kd.zak HR0_0.out Ybe) HC0_0.out (Kd.zak HR0_1.out Ybe) HC0_1.out (Kd.zak HR0_2.out Ybe) HC0_2.out A2.out).mono ?_); rintro e w35 ⟨rfl, hb⟩; refine ⟨_, rfl, ?_⟩; replace BK121 := Ykb BK121 hb; replace HB := zaa.mk (zay Yb_PItemTellsx4_1 hb); (try clear hb); (try clear hb2); (try clear hk); (try clear hi)))
  go_ret
  exact ⟨Yfi, Yb_PItemTellsx4_1⟩
def itE (x : S44) : Fl.I := (x.f0, x.f1, x.f2)
def prE (x : S42) : Fl.P := (x.f0, x.f1.map itE, x.f2)
theorem C_kI {w : World} {A : Option Addr} {n : Nat} {xs : List S44} (h : Kd.C k44 w A n xs) : Kd.C Fl.kI w A n (xs.map itE) := Fl.C_iso (d := Fl.kI) (f := itE) h
theorem C_kP {w : World} {A : Option Addr} {n : Nat} {xs : List S42} (h : Kd.C k42 w A n xs) : Kd.C Fl.kP w A n (xs.map prE) := by
 obtain ⟨h1, h2, h3⟩ := h
 refine ⟨by simpa using h1, h2, fun h0 => ?_⟩
 obtain ⟨ad, e, hc⟩ := h3 h0
 refine ⟨ad, e, fun j p hj => ?_⟩
 rw [List.getElem?_map] at hj
 cases hx : xs[j]? with
 | none => rw [hx] at hj; cases hj
 | some x =>
  rw [hx] at hj
  obtain rfl : prE x = p := by simpa using hj
  obtain ⟨c, hl, hK, hcell⟩ := hc j x hx
  obtain ⟨A1, c1, rfl, l1, g1⟩ := zdz hK
  refine ⟨_, by rfl, ⟨[.int .i64 x.f0], [.slice A1 x.f1.length c1, .int .i64 x.f2], rfl, rfl, ⟨[.slice A1 x.f1.length c1], [.int .i64 x.f2], rfl, ⟨A1, c1, ?_, ?_, ?_⟩, rfl⟩⟩, hcell⟩
  ·show _ = [Value.slice A1 (x.f1.map itE).length c1]
   rw [List.length_map]
  ·show (x.f1.map itE).length ≤ c1
   rw [List.length_map]
   exact l1
  ·show Kd.C Fl.kI w A1 (x.f1.map itE).length (x.f1.map itE)
   rw [List.length_map]
   exact C_kI g1
def flOk (N n1 : Nat) (ps : List Fl.P) : Bool := decide (N ≤ 999999) && decide (1 ≤ n1) && ps.all fun p => decide (0 ≤ p.1) && decide (p.1 < N) && decide (p.2.1.length ≤ 1000) && p.2.1.all fun i => decide (0 ≤ i.1) && decide (i.1 < N)
theorem flOk_N {N n1 : Nat} {ps : List Fl.P} (h : flOk N n1 ps = true) : N ≤ 999999 ∧ 1 ≤ n1 := by
 simp only [flOk, Bool.and_eq_true, decide_eq_true_eq] at h
 exact h.1
theorem zg3 {N n1 : Nat} {ps : List Fl.P} (h : flOk N n1 ps = true) : ∀ p ∈ ps, Deri.PrOk N p ∧ p.2.1.length ≤ 1000 := by
 simp only [flOk, Bool.and_eq_true, decide_eq_true_eq, List.all_eq_true] at h
 intro p hp
 obtain ⟨⟨⟨h1, h2⟩, h3⟩, h4⟩ := h.2 p hp
 exact ⟨⟨h1, h2, fun i hi => h4 i hi⟩, h3⟩
def sets_Empty.f (k : Nat) (l0_0 l0_1 : List ByteArray) (l0_2 : List S42) : Option (List Bool) :=
 if flOk (l0_0.length + l0_1.length) l0_1.length (l0_2.map prE) = true then Grow.zb2 Deri.zb7 (l0_2.map prE) k (List.replicate (l0_0.length + l0_1.length) false) else none
def lrT (x : S50) : LrK.Lr := (x.f0, x.f1, x.f2)
def lrS (x : LrK.Lr) : S50 := ⟨x.1, x.2.1, x.2.2⟩
theorem C_kLr {w : World} {A : Option Addr} {n : Nat} {xs : List S50} (h : Kd.C k50 w A n xs) : Kd.C LLex.kLr w A n (xs.map lrT) := Fl.C_iso (d := LLex.kLr) (f := lrT) h
theorem R_kLr {e : Nat} {w : World} {base : Nat} {ok : Nat → Prop} {v : Value} {r : List LrK.Lr} (h : Kd.R LLex.kLr e w base ok v r) : Kd.R k50 e w base ok v (r.map lrS) := LGiv.R_map (d' := k50) rfl (fun _ _ _ h => h) h
def lrsOk (l : List LrK.Lr) : Bool := l.all fun x => (Lit.int .i64 x.1).wf && ((Lit.int .i64 x.2.1).wf && (Lit.int .i64 x.2.2).wf)
theorem lrsOk_of {l : List LrK.Lr} (h : lrsOk l = true) : ∀ x ∈ l, LrK.lrOk x := by
 simp only [lrsOk, List.all_eq_true, Bool.and_eq_true] at h
 exact fun x hx => h x hx
def rdyV (k n0 n1 : Nat) (ps : List Fl.P) : Option (List Bool × List (List Int)) := (Grow.zb2 Deri.zb7 ps k (List.replicate (n0 + n1) false)).bind fun em => (Grow.zb2 (Begin.zcg (n0 + n1) em) ps k (Begun.zcq (n0 + n1) n0)).bind fun Ss => some (em, Ss)
theorem rdy_of {F : LFlat.FG} {k : Nat} {q : List Bool × List (List Int)} (hok : flOk (F.ts.length + F.ns.length) F.ns.length F.ps = true) (hpl : F.ps.length ≤ 1000000) (h : rdyV k F.ts.length F.ns.length F.ps = some q) : LInv.Rdy F k q.1 q.2 := by
 obtain ⟨em, he, h⟩ := Option.bind_eq_some_iff.mp h
 obtain ⟨Ss, hs, h⟩ := Option.bind_eq_some_iff.mp h
 obtain rfl := Option.some.inj h
 exact ⟨(flOk_N hok).1, (flOk_N hok).2, hpl, zg3 hok, he, hs⟩
theorem fg_K {w : World} {A0_0 A0_1 A0_2 : Option Addr} {c0_0 c0_1 c0_2 : Nat} {l0_0 l0_1 : List ByteArray} {l0_2 : List S42} (hr0_0 : Kd.C Kd.string w A0_0 l0_0.length l0_0) (hc0_0 : l0_0.length ≤ c0_0) (hr0_1 : Kd.C Kd.string w A0_1 l0_1.length l0_1) (hc0_1 : l0_1.length ≤ c0_1) (hr0_2 : Kd.C k42 w A0_2 l0_2.length l0_2) (hc0_2 : l0_2.length ≤ c0_2) : LFlat.FG.K (⟨A0_0, A0_1, A0_2, c0_0, c0_1, c0_2, l0_0, l0_1, l0_2.map prE⟩ : LFlat.FG) w :=
 ⟨hr0_0, hc0_0, hr0_1, hc0_1, by show Kd.C Fl.kP w A0_2 (l0_2.map prE).length (l0_2.map prE); rw [List.length_map]; exact C_kP hr0_2, by show (l0_2.map prE).length ≤ c0_2; rw [List.length_map]; exact hc0_2⟩
def item_All.f (k : Nat) (l0_0 l0_1 : List ByteArray) (l0_2 : List S42) : Option (List (List S50) × Int) :=
 if flOk (l0_0.length + l0_1.length) l0_1.length (l0_2.map prE) = true ∧ l0_2.length ≤ 1000000 then (rdyV k l0_0.length l0_1.length (l0_2.map prE)).bind fun q => (LAll.zez l0_0.length (l0_2.map prE) q.1 q.2 k).bind fun S0 => if S0 = [] then none else
  (LAll.allV (LAll.zen l0_0.length (l0_2.map prE) q.1 q.2 k) (l0_0.length + l0_1.length) k 0 [S0]).bind fun res => some ((res.getD []).map (List.map lrS), LAll.errV res) else none
def zco.f (k : Nat) (l0_0 l0_1 : List ByteArray) (l0_2 : List S42) : Option (List S50) :=
 if flOk (l0_0.length + l0_1.length) l0_1.length (l0_2.map prE) = true ∧ l0_2.length ≤ 1000000 then (rdyV k l0_0.length l0_1.length (l0_2.map prE)).bind fun q => (LAll.zez l0_0.length (l0_2.map prE) q.1 q.2 k).bind fun r => some (r.map lrS) else none
theorem zco.calls (k : Nat) (A0_0 : Option Addr) (c0_0 : Nat) (l0_0 : List ByteArray) (A0_1 : Option Addr) (c0_1 : Nat) (l0_1 : List ByteArray) (A0_2 : Option Addr) (c0_2 : Nat) (l0_2 : List S42) (r : List S50) (w : World) (hr0_0 : Kd.C Kd.string w A0_0 l0_0.length l0_0) (hc0_0 : l0_0.length ≤ c0_0) (hr0_1 : Kd.C Kd.string w A0_1 l0_1.length l0_1) (hc0_1 : l0_1.length ≤ c0_1) (hr0_2 : Kd.C k42 w A0_2 l0_2.length l0_2) (hc0_2 : l0_2.length ≤ c0_2) (h : zco.f k l0_0 l0_1 l0_2 = some r) :
  Calls Tryz.prog 13 #[.agg #[.slice A0_0 l0_0.length c0_0, .slice A0_1 l0_1.length c0_1, .slice A0_2 l0_2.length c0_2]] w fun e w' => ∃ v0_ : Value, e = .returned v0_ ∧ Kd.R k50 50 w' w.heap.size (fun _ => True) v0_ r ∧ Below w.heap.size w w' := by
 unfold zco.f at h
 split at h
 case isFalse => cases h
 rename_i hok
 obtain ⟨q, hq, h⟩ := Option.bind_eq_some_iff.mp h
 obtain ⟨r', hr, h⟩ := Option.bind_eq_some_iff.mp h
 obtain rfl := Option.some.inj h
 obtain ⟨r0, hr0, rfl⟩ := Option.map_eq_some_iff.1 hr
 have hl : (l0_2.map prE).length = l0_2.length := by simp
 have hc := LStep.zhu (⟨A0_0, A0_1, A0_2, c0_0, c0_1, c0_2, l0_0, l0_1, l0_2.map prE⟩ : LFlat.FG) w (fg_K hr0_0 hc0_0 hr0_1 hc0_1 hr0_2 hc0_2) k q.1 q.2 (rdy_of hok.1 (by rw [hl]; exact hok.2) hq) r0 hr0
 simp only [LFlat.FG.val, LFlat.FG.row, hl] at hc
 refine hc.mono ?_
 rintro e w' ⟨v, rfl, hR, hB⟩
 exact ⟨v, rfl, R_kLr hR, hB⟩
def zdc.f (k : Nat) (l0_0 l0_1 : List ByteArray) (l0_2 : List S42) (l1 : List S50) (a2 : Int) : Option (List S50) :=
 if flOk (l0_0.length + l0_1.length) l0_1.length (l0_2.map prE) = true ∧ l0_2.length ≤ 1000000 ∧ l1.length ≤ 1000000000 then (rdyV k l0_0.length l0_1.length (l0_2.map prE)).bind fun q => (LAll.zen l0_0.length (l0_2.map prE) q.1 q.2 k (l1.map lrT) a2).bind fun r => some (r.map lrS) else none
theorem zdc.calls (k : Nat) (A0_0 : Option Addr) (c0_0 : Nat) (l0_0 : List ByteArray) (A0_1 : Option Addr) (c0_1 : Nat) (l0_1 : List ByteArray) (A0_2 : Option Addr) (c0_2 : Nat) (l0_2 : List S42) (A1 : Option Addr) (c1 : Nat) (l1 : List S50) (a2 : Int) (r : List S50) (w : World) (hr0_0 : Kd.C Kd.string w A0_0 l0_0.length l0_0) (hc0_0 : l0_0.length ≤ c0_0) (hr0_1 : Kd.C Kd.string w A0_1 l0_1.length l0_1) (hc0_1 : l0_1.length ≤ c0_1) (hr0_2 : Kd.C k42 w A0_2 l0_2.length l0_2) (hc0_2 : l0_2.length ≤ c0_2) (hr1 : Kd.C k50 w A1 l1.length l1) (hc1 : l1.length ≤ c1) (h : zdc.f k l0_0 l0_1 l0_2 l1 a2 = some r) :
  Calls Tryz.prog 14 #[.agg #[.slice A0_0 l0_0.length c0_0, .slice A0_1 l0_1.length c0_1, .slice A0_2 l0_2.length c0_2], .slice A1 l1.length c1, .int .i64 a2] w fun e w' => ∃ v0_ : Value, e = .returned v0_ ∧ Kd.R k50 50 w' w.heap.size (fun _ => True) v0_ r ∧ Below w.heap.size w w' := by
 unfold zdc.f at h
 split at h
 case isFalse => cases h
 rename_i hok
 obtain ⟨q, hq, h⟩ := Option.bind_eq_some_iff.mp h
 obtain ⟨r', hr, h⟩ := Option.bind_eq_some_iff.mp h
 obtain rfl := Option.some.inj h
 obtain ⟨r0, hr0, rfl⟩ := Option.map_eq_some_iff.1 hr
 have hl : (l0_2.map prE).length = l0_2.length := by simp
 have hl1 : (l1.map lrT).length = l1.length := by simp
 have hc := LStep.zil (⟨A0_0, A0_1, A0_2, c0_0, c0_1, c0_2, l0_0, l0_1, l0_2.map prE⟩ : LFlat.FG) w (fg_K hr0_0 hc0_0 hr0_1 hc0_1 hr0_2 hc0_2) k q.1 q.2 (rdy_of hok.1 (by rw [hl]; exact hok.2.1) hq) (l1.map lrT) A1 c1 a2 (by rw [hl1]; exact C_kLr hr1) (by rw [hl1]; exact hok.2.2) r0 hr0
 simp only [LFlat.FG.val, LFlat.FG.row, hl, hl1] at hc
 refine hc.mono ?_
 rintro e w' ⟨v, rfl, hR, hB⟩
 exact ⟨v, rfl, R_kLr hR, hB⟩
def zaq.l0 : Nat → List (S50) → List (S50) → Int → Option (Bool)
 | 0, _, _, _ => none
 | k + 1, x0, x1, x5 => if x5 < (x0.length : Int) then (if 0 ≤ x5 then (if x5 < (x1.length : Int) then (if (!(((zae x0 x5).f0) == ((zae x1 x5).f0)) || (!(((zae x0 x5).f1) == ((zae x1 x5).f1)) || (!(((zae x0 x5).f2) == ((zae x1 x5).f2))))) = true then (some false) else (zaq.l0 k x0 x1 (wrap64 (x5 + 1)))) else (none)) else (none)) else (some true)
def zaq.f (k : Nat) (l0 : List (S50)) (l1 : List (S50)) : Option (Bool) := if (l0.length : Int) = (l1.length : Int) then (zaq.l0 k l0 l1 0) else (some false)
theorem zaq.calls (k : Nat) (A0 : Option Addr) (c0 : Nat) (l0 : List (S50)) (A1 : Option Addr) (c1 : Nat) (l1 : List (S50)) (r : Bool) (w : World) (hr0 : Kd.C k50 w A0 l0.length l0) (hc0 : l0.length ≤ c0) (hr1 : Kd.C k50 w A1 l1.length l1) (hc1 : l1.length ≤ c1) (h : zaq.f k l0 l1 = some r) :
  Calls Tryz.prog 19 #[.slice A0 l0.length c0, .slice A1 l1.length c1] w fun e w' => e = .returned (.bool r) ∧ za5 w w' := by
 have hu50 := Tryz.underlying50
 have HR0 := zaa.mk hr0;have HC0 := zaa.mk hc0;clear hr0 hc0;have HR1 := zaa.mk hr1;have HC1 := zaa.mk hc1;clear hr1 hc1
 have H : (if (l0.length : Int) = (l1.length : Int) then (zaq.l0 k l0 l1 0) else (some false)) = some r := h
 clear h
 by_cases c3 : (l0.length : Int) = (l1.length : Int)
 ·rw [if_pos c3] at H
  have c3b0 : ((l0.length : Int) == (l1.length : Int)) = true := beq_iff_eq.mpr c3
  have c3b1 : ((l0.length : Int) != (l1.length : Int)) = false := bne_eq_false_iff_eq.mpr c3
  have c3b2 : (l0.length == l1.length) = true := by first | simpa using c3 | (simp at c3 ⊢; omega)
  clear c3
  have H' := zaa.mk H
  clear H
  go_enter Tryz.func19, Tryz.ntmps19
  go_wp2
  repeat (go_quiet (fail); try go_wp2)
  go_loopg [5] k (fun kq v5 w' => ∃ (x5_1 : Int), v5 = .int .i64 x5_1 ∧ zaa (zaq.l0 kq l0 l1 x5_1 = some r) ∧ zaa (kq ≤ k) ∧ za5 w w')
  case atStart => exact ⟨(0), Yfs, H', ⟨Nat.le_refl _⟩, by repeat (first | exact za5.refl _ | apply za5.step)⟩
  case round =>
   clear H'
   obtain ⟨x5_1, rfl, HA, HK1, ⟨m1, rfl⟩⟩ := hrel
   cases gk with
   | zero => exact absurd HA.out (by simp [zaq.l0])
   | succ k1 =>
    have H := HA.out;clear HA
    simp only [zaq.l0] at H
    by_cases c4 : x5_1 < (l0.length : Int)
    ·rw [if_pos c4] at H
     have c4b0 := decide_eq_true c4
     clear c4
     by_cases c5 : 0 ≤ x5_1
     ·rw [if_pos c5] at H
      have c5b0 := decide_eq_true c5
      clear c5
      by_cases c6 : x5_1 < (l1.length : Int)
      ·rw [if_pos c6] at H
       have c6b0 := decide_eq_true c6
       clear c6
       by_cases c7 : (!(((zae l0 x5_1).f0) == ((zae l1 x5_1).f0)) || (!(((zae l0 x5_1).f1) == ((zae l1 x5_1).f1)) || (!(((zae l0 x5_1).f2) == ((zae l1 x5_1).f2))))) = true
       ·rw [if_pos c7] at H
        have c7b0 : (!(((zae l0 x5_1).f0) == ((zae l1 x5_1).f0)) || (!(((zae l0 x5_1).f1) == ((zae l1 x5_1).f1)) || (!(((zae l0 x5_1).f2) == ((zae l1 x5_1).f2))))) = true := c7
        clear c7;obtain rfl := Option.some.inj H
        have p125 : 0 ≤ (x5_1 : Int) := Yod
        have q125 : x5_1 < (l0.length : Int) := Yod
        obtain ⟨ad125, e125, hx125_0, hx125_1, hx125_2⟩ := zcv HR0.out x5_1 p125 q125
        cases e125
        replace p125 := eq_true p125
        replace q125 := eq_true q125
        have p126 : 0 ≤ (x5_1 : Int) := Yod
        have q126 : x5_1 < (l1.length : Int) := Yod
        obtain ⟨ad126, e126, hx126_0, hx126_1, hx126_2⟩ := zcv HR1.out x5_1 p126 q126
        cases e126
        replace p126 := eq_true p126
        replace q126 := eq_true q126
        go_wp2
        repeat (go_quiet (fail); try go_wp2)
        go_ret
        exact ⟨Yfs, by repeat (first | exact za5.refl _ | apply za5.step)⟩
       ·rw [if_neg c7] at H
        have c7b0 : (!(((zae l0 x5_1).f0) == ((zae l1 x5_1).f0)) || (!(((zae l0 x5_1).f1) == ((zae l1 x5_1).f1)) || (!(((zae l0 x5_1).f2) == ((zae l1 x5_1).f2))))) = false := by simpa using c7
        clear c7
        have H' := zaa.mk H
        clear H
        have p125 : 0 ≤ (x5_1 : Int) := Yod
        have q125 : x5_1 < (l0.length : Int) := Yod
        obtain ⟨ad125, e125, hx125_0, hx125_1, hx125_2⟩ := zcv HR0.out x5_1 p125 q125
        cases e125
        replace p125 := eq_true p125
        replace q125 := eq_true q125
        have p126 : 0 ≤ (x5_1 : Int) := Yod
        have q126 : x5_1 < (l1.length : Int) := Yod
        obtain ⟨ad126, e126, hx126_0, hx126_1, hx126_2⟩ := zcv HR1.out x5_1 p126 q126
        cases e126
        replace p126 := eq_true p126
        replace q126 := eq_true q126
        go_wp2
        repeat (go_quiet (fail); try go_wp2)
        go_roundg k1
        case measure => have := HK1.out; omega
        case rel => exact ⟨(wrap64 (x5_1 + 1)), Yfs, H', ⟨by have := HK1.out; omega⟩, by repeat (first | exact za5.refl _ | apply za5.step)⟩
      ·rw [if_neg c6] at H
       exact absurd H (by simp)
     ·rw [if_neg c5] at H
      exact absurd H (by simp)
    ·rw [if_neg c4] at H
     have c4b0 := decide_eq_false c4
     clear c4;obtain rfl := Option.some.inj H;go_wp2
     repeat (go_quiet (fail); try go_wp2)
     go_ret
     exact ⟨Yfs, by repeat (first | exact za5.refl _ | apply za5.step)⟩
 ·rw [if_neg c3] at H
  have c3b0 : ((l0.length : Int) == (l1.length : Int)) = false := beq_eq_false_iff_ne.mpr c3
  have c3b1 : ((l0.length : Int) != (l1.length : Int)) = true := bne_iff_ne.mpr c3
  have c3b2 : (l0.length == l1.length) = false := by first | simpa using c3 | (simp at c3 ⊢; omega)
  obtain rfl := Option.some.inj H
  go_enter Tryz.func19, Tryz.ntmps19
  go_wp2
  repeat (go_quiet (fail); try go_wp2)
  go_ret
  exact ⟨Yfs, by repeat (first | exact za5.refl _ | apply za5.step)⟩
def zbh.f : Option Bool := some true
theorem zbh.calls (r : Bool) (w : World) (h : zbh.f = some r) :
  Calls Tryz.prog 7 #[] w fun e w' => e = .returned (.bool r) ∧ Below w.heap.size w w' := by
 obtain rfl : true = r := by injection h
 exact LAwake.awake_calls w
def zb6.f (l0_0 : List ByteArray) (l0_1 : List ByteArray) (l0_2 : List S42) (a1_0 : Int) (a1_1 : Int) (a1_2 : Int) : Option (Int × Bool) := some ((LFlat.zbx l0_0.length (l0_2.map prE) (a1_0, a1_1, a1_2)).getD 0, (LFlat.zbx l0_0.length (l0_2.map prE) (a1_0, a1_1, a1_2)).isSome)
theorem zb6.calls (A0_0 : Option Addr) (c0_0 : Nat) (l0_0 : List ByteArray) (A0_1 : Option Addr) (c0_1 : Nat) (l0_1 : List ByteArray) (A0_2 : Option Addr) (c0_2 : Nat) (l0_2 : List S42) (a1_0 : Int) (a1_1 : Int) (a1_2 : Int) (r1 : Int) (r2 : Bool) (w : World) (hr0_0 : Kd.C Kd.string w A0_0 l0_0.length l0_0) (hc0_0 : l0_0.length ≤ c0_0) (hr0_1 : Kd.C Kd.string w A0_1 l0_1.length l0_1) (hc0_1 : l0_1.length ≤ c0_1) (hr0_2 : Kd.C k42 w A0_2 l0_2.length l0_2) (hc0_2 : l0_2.length ≤ c0_2) (h : zb6.f l0_0 l0_1 l0_2 a1_0 a1_1 a1_2 = some (r1, r2)) :
  Calls Tryz.prog 15 #[.agg #[.slice A0_0 l0_0.length c0_0, .slice A0_1 l0_1.length c0_1, .slice A0_2 l0_2.length c0_2], .agg #[.int .i64 a1_0, .int .i64 a1_1, .int .i64 a1_2]] w fun e w' => e = .returned (.tuple #[.int .i64 r1, .bool r2]) ∧ Below w.heap.size w w' := by
 obtain ⟨rfl, rfl⟩ := Prod.mk.inj (Option.some.inj h)
 have hl : (l0_2.map prE).length = l0_2.length := List.length_map _
 have hc := LFlat.zfx (⟨A0_0, A0_1, A0_2, c0_0, c0_1, c0_2, l0_0, l0_1, l0_2.map prE⟩ : LFlat.FG) (a1_0, a1_1, a1_2) w (fg_K hr0_0 hc0_0 hr0_1 hc0_1 hr0_2 hc0_2)
 simp only [LFlat.FG.val, LFlat.FG.row, hl] at hc
 exact hc
def zbo.f (l0_0 : List ByteArray) (l0_1 : List ByteArray) (l0_2 : List (S42)) (a1 : Int) : Option ((List (S44))) := if a1 < 0 then (some (([(⟨(l0_0.length : Int), (⟨#[]⟩ : ByteArray), (⟨#[]⟩ : ByteArray)⟩ : S44)] : List (S44)))) else (if 0 ≤ a1 then (if a1 < (l0_2.length : Int) then (some ((zaf l0_2 a1).f1)) else (none)) else (none))
theorem zbo.calls (A0_0 : Option Addr) (c0_0 : Nat) (l0_0 : List ByteArray) (A0_1 : Option Addr) (c0_1 : Nat) (l0_1 : List ByteArray) (P0_2_ : Nat → Prop) (A0_2 : Option Addr) (c0_2 : Nat) (l0_2 : List (S42)) (a1 : Int) (r : List (S44)) (w : World) (hr0_0 : Kd.C Kd.string w A0_0 l0_0.length l0_0) (hc0_0 : l0_0.length ≤ c0_0) (hr0_1 : Kd.C Kd.string w A0_1 l0_1.length l0_1) (hc0_1 : l0_1.length ≤ c0_1) (hs0_2 : Kd.V k42 42 w w.heap.size (fun k_ => P0_2_ k_) (.slice A0_2 l0_2.length c0_2) l0_2) (h : zbo.f l0_0 l0_1 l0_2 a1 = some r) :
  Calls Tryz.prog 36 #[.agg #[.slice A0_0 l0_0.length c0_0, .slice A0_1 l0_1.length c0_1, .slice A0_2 l0_2.length c0_2], .int .i64 a1] w fun e w' => ∃ v0_ : Value, e = .returned (v0_) ∧ Kd.V k44 44 w' w.heap.size (fun k_ => (P0_2_ k_ ∨ w.heap.size ≤ k_)) v0_ r ∧ Below w.heap.size w w' := by
 have hu25 := Tryz.underlying25
 have hu44 := Tryz.underlying44
 have HR0_0 := zaa.mk hr0_0;have HC0_0 := zaa.mk hc0_0;clear hr0_0 hc0_0;have HR0_1 := zaa.mk hr0_1;have HC0_1 := zaa.mk hc0_1;clear hr0_1 hc0_1
 have HO0_2 := zaa.mk (show Kd.V k42 42 w w.heap.size (fun k_ => (P0_2_ k_ ∨ w.heap.size ≤ k_)) (.slice A0_2 l0_2.length c0_2) l0_2 from Kd.zc2 hs0_2 (fun k_ hk => .inl hk))
 have HB := zaa.mk (Below.refl w.heap.size w)
 have H : (if a1 < 0 then (some (([(⟨(l0_0.length : Int), (⟨#[]⟩ : ByteArray), (⟨#[]⟩ : ByteArray)⟩ : S44)] : List (S44)))) else (if 0 ≤ a1 then (if a1 < (l0_2.length : Int) then (some ((zaf l0_2 a1).f1)) else (none)) else (none))) = some r := h
 clear h
 by_cases c3 : a1 < 0
 ·rw [if_pos c3] at H
  have c3b0 := decide_eq_true c3
  clear c3
  obtain ⟨y128, hy128⟩ : ∃ y_ : List (S44), y_ = (([(⟨(l0_0.length : Int), (⟨#[]⟩ : ByteArray), (⟨#[]⟩ : ByteArray)⟩ : S44)] : List (S44))) := ⟨_, rfl⟩
  replace H : (some y128) = some r := by first | (rw [hy128]; with_reducible exact H) | (have H2_ := (Option.bind_some _ _).symm.trans H; rw [hy128]; with_reducible exact H2_) | (have H2_ := (Option.bind_some _ _).symm.trans H; with_reducible exact H2_) | with_reducible exact H | (rw [hy128]; exact H) | exact H
  have Ny128 := zaa.mk hy128;clear hy128;obtain rfl := Option.some.inj H
  go_enter Tryz.func36, Tryz.ntmps36
  go_wp2_with (first | ((with_reducible refine zau (N := 2) rfl ?_); refine Ybx 2 #[.slice A0_0 l0_0.length c0_0, .slice A0_1 l0_1.length c0_1, .slice A0_2 l0_2.length c0_2] 25 ?_; intro gb127 hg w4 hbox hb; replace HO0_2 := zaa.mk (Kd.zh4 (Kd.zhc (by (with_reducible repeat (first | apply Kd.V_alloc | apply Kd.V_drewN | apply Kd.V_drew)); exact HO0_2.out) gb127 (Nat.le_of_eq hg.symm)) hb); obtain ⟨BK127, GW127, GE127, HB⟩ := Yb4 hbox hg hb Ybe; clear hb hbox hg; obtain ⟨hcz5_0, hfz5_0, hcz5_1, hfz5_1, hcz5_2, hfz5_2⟩ := Yc3 BK127.out) | ((with_reducible refine zau (N := 11) rfl ?_); refine Kd.R_lit k44 _ 44 ?hg (N := 11) ?hd (xs := ([(⟨(l0_0.length : Int), (⟨#[]⟩ : ByteArray), (⟨#[]⟩ : ByteArray)⟩ : S44)] : List (S44))) (inner := [.int .i64 (l0_0.length : Int), .string (⟨#[]⟩ : ByteArray), .string (⟨#[]⟩ : ByteArray)]) (ok := fun _ => True) (okp := fun _ => True) ?hr ?hp (fun _ hk => hk) trivial (Below.refl _ _) (Nat.le_refl _) (by simp) ?_; (case hd => rfl); (case hg => rfl); (case hr => first | (go_simp; done) | (go_simp; rfl)); (case hp => exact (Reps.c3 (show Kd.M k44 _ _ _ (⟨(l0_0.length : Int), (⟨#[]⟩ : ByteArray), (⟨#[]⟩ : ByteArray)⟩ : S44) [.int .i64 (l0_0.length : Int), .string (⟨#[]⟩ : ByteArray), .string (⟨#[]⟩ : ByteArray)] from (k44_mkM _ _ _ (⟨(l0_0.length : Int), (⟨#[]⟩ : ByteArray), (⟨#[]⟩ : ByteArray)⟩ : S44) )) (Reps.none _ _))); intro v129 w6 ho7 hb hg_ hnew_; clear hg_ hnew_; (first | rw [← Ny128.out] at ho7 | (simp only [Int.reduceToNat] at ho7; rw [← Ny128.out] at ho7)); replace HO0_2 := zaa.mk (Kd.V_elder' (by (with_reducible repeat (first | apply Kd.V_alloc | apply Kd.V_drewN | apply Kd.V_drew)); exact HO0_2.out) (Kd.zcj ho7) hb); have HO130 := zaa.mk (Kd.zbz (Kd.R_newM (M := fun k_ => (w.heap.size ≤ k_)) ho7 (za8 Yb_PItemTellsx4_2) (fun k_ h_ => h_)) (za8 Yb_PItemTellsx4_2)); replace BK127 := Ykb BK127 hb; replace HB := zaa.mk (zay Yb_PItemTellsx4_2 hb); clear hb ho7))
  go_ret
  exact ⟨_, by first | rfl | (simp [errW_none, errW_some] <;> rfl) | (simp [*, errW_none, errW_some] <;> rfl), Kd.zc2 (Kd.R_V (by (with_reducible repeat (first | apply Kd.R_alloc | apply Kd.zb0 | apply Kd.zbn)); exact Kd.zba HO130.out (fun _ hk => hk.1))) (fun k_ hk => by first | exact ⟨(.inr (hk.1)), hk.2⟩ | exact (.inr (hk))), Yb_PItemTellsx4_2⟩
 ·rw [if_neg c3] at H
  have c3b0 := decide_eq_false c3
  clear c3
  by_cases c8 : 0 ≤ a1
  ·rw [if_pos c8] at H
   have c8b0 := decide_eq_true c8
   clear c8
   by_cases c9 : a1 < (l0_2.length : Int)
   ·rw [if_pos c9] at H
    have c9b0 := decide_eq_true c9
    clear c9;obtain rfl := Option.some.inj H
    go_enter Tryz.func36, Tryz.ntmps36
    go_wp2_with (first | ((with_reducible refine zau (N := 2) rfl ?_); refine Ybx 2 #[.slice A0_0 l0_0.length c0_0, .slice A0_1 l0_1.length c0_1, .slice A0_2 l0_2.length c0_2] 25 ?_; intro gb127 hg w10 hbox hb; replace HO0_2 := zaa.mk (Kd.zh4 (Kd.zhc (by (with_reducible repeat (first | apply Kd.V_alloc | apply Kd.V_drewN | apply Kd.V_drew)); exact HO0_2.out) gb127 (Nat.le_of_eq hg.symm)) hb); obtain ⟨BK127, GW127, GE127, HB⟩ := Yb4 hbox hg hb Ybe; clear hb hbox hg; obtain ⟨hcz11_0, hfz11_0, hcz11_1, hfz11_1, hcz11_2, hfz11_2⟩ := Yc3 BK127.out; have p131 : 0 ≤ (a1 : Int) := Yod; have q131 : a1 < (l0_2.length : Int) := Yod; obtain ⟨ad131, A131_1, c131_1, e131, hx131_0, hx131_1, hx131_2, hl131_1, hi131_1⟩ := zdf (Kd.V_reads' HO0_2.out).2.2 a1 p131 q131; cases e131; obtain ⟨ce131, hce131, hMe131, hcc131⟩ := Kd.V_get HO0_2.out z42 a1 p131 (by first | exact q131 | exact of_decide_eq_true (by first | (with_reducible assumption) | assumption) | (have e_ := (Kd.V_reads' HO0_2.out).1; omega)); obtain ⟨ua131_1, uc131_1, rfl, ul131_1, ge131_1⟩ := zhw hMe131; have hv131_1 := hcc131 1 _ rfl; rw [zb5 _ _ 1 (by omega)] at hv131_1; replace hv131_1 := Option.some.inj (hv131_1.symm.trans hx131_1); injection hv131_1 with hva_ hvn_ hvc_; rw [hva_] at ge131_1; rw [hvc_] at ul131_1; have HL131_1 := zaa.mk (show Kd.V k44 44 _ w.heap.size _ _ ((zaf l0_2 a1).f1) from Kd.V_mk ul131_1 ge131_1); clear hva_ hvn_ hvc_ ge131_1 ul131_1; clear hcc131 hce131; have HR131_1 := zaa.mk hi131_1; have HC131_1 := zaa.mk hl131_1; clear hi131_1 hl131_1; replace p131 := eq_true p131; replace q131 := eq_true q131))
    go_ret
    exact ⟨_, by first | rfl | (simp [errW_none, errW_some] <;> rfl) | (simp [*, errW_none, errW_some] <;> rfl), by (with_reducible repeat (first | apply Kd.V_alloc | apply Kd.V_drewN | apply Kd.V_drew)); exact Kd.zc2 HL131_1.out (fun _ hk => hk.1), Yb_PItemTellsx4_2⟩
   ·rw [if_neg c9] at H
    exact absurd H (by simp)
  ·rw [if_neg c8] at H
   exact absurd H (by simp)
section
end
theorem Yb_PItemTellsx5_0 {n : Nat} {w w' : World} (h : Below n w w' := by repeat (first | (with_reducible first | exact HB.out | apply za2 | apply zav | apply zas | refine za6 ?_ GE132.out) | exact HB.out)) : Below n w w' := h
theorem Yb_PItemTellsx5_1 {n : Nat} {w w' : World} (h : Below n w w' := by repeat (first | (with_reducible first | exact HB.out | apply za2 | apply zav | apply zas | refine za6 ?_ GE132.out | refine za6 ?_ GE133.out) | exact HB.out)) : Below n w w' := h
def zax.f (l0_0 : List ByteArray) (l0_1 : List ByteArray) (l0_2 : List (S42)) (a1_0 : Int) (a1_1 : Int) (a1_2 : Int) : Option (Bool) := if a1_0 ≥ (-1) then (if a1_0 < (l0_2.length : Int) then (if a1_1 ≥ 0 then ((zbo.f l0_0 l0_1 l0_2 a1_0).bind fun t134 => (if a1_1 ≤ (t134.length : Int) then (if a1_2 ≥ 0 then (some (decide (a1_2 ≤ (l0_0.length : Int)))) else (some false)) else (some false))) else (some false)) else (some false)) else (some false)
def zax.T1 : Bool × List (List Nat × List Nat) := (true, [([], []), ([0], [0]), ([1], [1]), ([2], [2]), ([3], [3]), ([4, 3], [3, 4]), ([3], [3]), ([6, 3], [3, 6]), ([7, 3], [3, 7]), ([5, 8, 3], [3, 5, 8]), ([3, 9], [3, 9]), ([10, 3], [10]), ([11], [11]), ([12, 11], [11, 12]), ([13, 11], [11, 13]), ([11, 14], [11, 14]), ([15, 11], [15]), ([16], [16]), ([17, 16], [16, 17]), ([16], [16]), ([16], [16]), ([20, 16], [16, 20]), ([19, 21, 16, 16], [16, 19, 21]), ([22, 16], [16, 22]), ([18, 23, 16], [16, 18, 23]), ([16, 24], [16, 24]), ([25, 22], [25]), ([26], [26]), ([27, 26], [26, 27]), ([28, 26], [26, 28]), ([26, 29], [26, 29]), ([30, 26], [30]), ([31], [31]), ([32, 31], [31, 32]), ([31], [31]), ([34, 31], [31, 34]), ([35, 31], [31, 35]), ([33, 36, 31], [31, 33, 36]), ([31, 37], [31, 37]), ([38, 31, 0, 1, 2, 3, 4, 5, 6, 7, 8, 9, 10, 11, 12, 13, 14, 15, 16, 17, 18, 19, 20, 21, 22, 23, 24, 25, 26, 27, 28, 29, 30, 31, 32, 33, 34, 35, 36, 37, 38], [38])])
def zax.B1 : List Nat := [0, 1, 3, 7, 15, 31, 15, 79, 207, 511, 1023, 2047, 4095, 8191, 16383, 32767, 65535, 131071, 262143, 131071, 131071, 1179647, 3801087, 7995391, 16777215, 33554431, 67108863, 134217727, 268435455, 536870911, 1073741823, 2147483647, 4294967295, 8589934591, 4294967295, 21474836479, 55834574847, 137438953471, 274877906943, 549755813887]
theorem zax.tab1 : rtab .any (opsOf Tryz.f18 1) = zax.T1 := by kernel_rfl
theorem zax.zeh : zc6 zax.T1.2 zax.B1 = true := by kernel_rfl
theorem zax.calls (A0_0 : Option Addr) (c0_0 : Nat) (l0_0 : List ByteArray) (A0_1 : Option Addr) (c0_1 : Nat) (l0_1 : List ByteArray) (A0_2 : Option Addr) (c0_2 : Nat) (l0_2 : List (S42)) (a1_0 : Int) (a1_1 : Int) (a1_2 : Int) (r : Bool) (w : World) (hr0_0 : Kd.C Kd.string w A0_0 l0_0.length l0_0) (hc0_0 : l0_0.length ≤ c0_0) (hr0_1 : Kd.C Kd.string w A0_1 l0_1.length l0_1) (hc0_1 : l0_1.length ≤ c0_1) (hr0_2 : Kd.C k42 w A0_2 l0_2.length l0_2) (hc0_2 : l0_2.length ≤ c0_2) (h : zax.f l0_0 l0_1 l0_2 a1_0 a1_1 a1_2 = some r) :
  Calls Tryz.prog 18 #[.agg #[.slice A0_0 l0_0.length c0_0, .slice A0_1 l0_1.length c0_1, .slice A0_2 l0_2.length c0_2], .agg #[.int .i64 a1_0, .int .i64 a1_1, .int .i64 a1_2]] w fun e w' => e = .returned (.bool r) ∧ Below w.heap.size w w' := by
 have hu25 := Tryz.underlying25
 have hu50 := Tryz.underlying50
 have HR0_0 := zaa.mk hr0_0;have HC0_0 := zaa.mk hc0_0;clear hr0_0 hc0_0;have HR0_1 := zaa.mk hr0_1;have HC0_1 := zaa.mk hc0_1;clear hr0_1 hc0_1;have HR0_2 := zaa.mk hr0_2;have HC0_2 := zaa.mk hc0_2;clear hr0_2 hc0_2
 have HB := zaa.mk (Below.refl w.heap.size w)
 have H : (if a1_0 ≥ (-1) then (if a1_0 < (l0_2.length : Int) then (if a1_1 ≥ 0 then ((zbo.f l0_0 l0_1 l0_2 a1_0).bind fun t134 => (if a1_1 ≤ (t134.length : Int) then (if a1_2 ≥ 0 then (some (decide (a1_2 ≤ (l0_0.length : Int)))) else (some false)) else (some false))) else (some false)) else (some false)) else (some false)) = some r := h
 clear h
 by_cases c3 : a1_0 ≥ (-1)
 ·rw [if_pos c3] at H
  have c3b0 := decide_eq_true c3
  clear c3
  by_cases c4 : a1_0 < (l0_2.length : Int)
  ·rw [if_pos c4] at H
   have c4b0 := decide_eq_true c4
   clear c4
   by_cases c5 : a1_1 ≥ 0
   ·rw [if_pos c5] at H
    have c5b0 := decide_eq_true c5
    clear c5;replace H := Option.bind_eq_some_iff.mp H
    obtain ⟨t134, A60, H⟩ := H
    replace H : (if a1_1 ≤ (t134.length : Int) then (if a1_2 ≥ 0 then (some (decide (a1_2 ≤ (l0_0.length : Int)))) else (some false)) else (some false)) = some r := H
    have A6 := zaa.mk A60;clear A60
    by_cases c7 : a1_1 ≤ (t134.length : Int)
    ·rw [if_pos c7] at H
     have c7b0 := decide_eq_true c7
     clear c7
     by_cases c8 : a1_2 ≥ 0
     ·rw [if_pos c8] at H
      have c8b0 := decide_eq_true c8
      clear c8;obtain rfl := Option.some.inj H
      go_enter Tryz.func18, Tryz.ntmps18
      try go_wp2_with (first | ((with_reducible refine zau (N := 2) rfl ?_); (try (refine zaz (by rfl) ?_; dsimp only)); refine Ybx 2 #[.slice A0_0 l0_0.length c0_0, .slice A0_1 l0_1.length c0_1, .slice A0_2 l0_2.length c0_2] 25 ?_; intro gb132 hg w9 hbox hb; obtain ⟨BK132, GW132, GE132, HB⟩ := Yb4 hbox hg hb Ybe; clear hb hbox hg) | ((with_reducible refine zau (N := 3) rfl ?_); (try (refine zaz (by rfl) ?_; dsimp only)); refine Ybx 3 #[.int .i64 a1_0, .int .i64 a1_1, .int .i64 a1_2] 50 ?_; intro gb133 hg w10 hbox hb; obtain ⟨BK133, GW133, GE133, HB⟩ := Yb4 hbox hg hb Yb_PItemTellsx5_0; have NB132_133 := Ynl BK132 hg; have NB133_132 := Yng BK132 hg; replace BK132 := Ykb BK132 hb; clear hb hbox hg))
      replace BK132 := zaa.mk (zah BK132.out)
      replace BK133 := zaa.mk (zah BK133.out)
      replace HB := zaa.mk (zas HB.out)
      refine zbl (n := 40) (S := fun w' => w'.cell? ⟨gb133, 0, none⟩ = some (.int .i64 a1_0) ∧ w'.cell? ⟨gb133, 1, none⟩ = some (.int .i64 a1_1) ∧ w'.cell? ⟨gb133, 2, none⟩ = some (.int .i64 a1_2) ∧ w'.cell? ⟨gb132, 0, none⟩ = some (.slice A0_0 l0_0.length c0_0) ∧ w'.cell? ⟨gb132, 1, none⟩ = some (.slice A0_1 l0_1.length c0_1) ∧ w'.cell? ⟨gb132, 2, none⟩ = some (.slice A0_2 l0_2.length c0_2)) (ds := []) (Ymk 40 0) (by kernel_rfl) rfl rfl ⟨(zab BK133.out 0).trans rfl, (zab BK133.out 1).trans rfl, (zab BK133.out 2).trans rfl, (zab BK132.out 0).trans rfl, (zab BK132.out 1).trans rfl, (zab BK132.out 2).trans rfl⟩ (fun hHeld => ?_); refine zbw zax.tab1 zax.zeh (fun HT_ HW_ => ?_)
      generalize w10.drew = w11 at BK132 BK133 HB hHeld ⊢
      refine Ypt 0 5 40 1 HT_ ?_
      refine Ytt 1 6 40 3 HT_ HW_ hHeld ?_
      refine Ypt 2 7 40 7 HT_ ?_
      refine Ypt 3 8 40 15 HT_ ?_
      refine Ypt 4 9 40 31 HT_ ?_
      refine Ypt 6 11 40 95 HT_ ?_
      refine Ytt 5 10 40 127 HT_ HW_ hHeld ?_
      refine Ytt 7 12 40 255 HT_ HW_ hHeld ?_
      refine Ypt 8 13 40 511 HT_ ?_
      refine Ypt 9 14 40 1023 HT_ ?_
      refine Ypt 10 15 40 2047 HT_ ?_
      refine Ypt 11 16 40 4095 HT_ ?_
      refine Ypt 12 17 40 8191 HT_ ?_
      refine Ytt 13 18 40 16383 HT_ HW_ hHeld ?_
      refine Ypt 14 19 40 32767 HT_ ?_
      refine Ypt 15 20 40 65535 HT_ ?_
      refine Ypt 16 21 40 131071 HT_ ?_
      refine Ypt 17 22 40 262143 HT_ ?_
      refine Ypt 20 25 40 1310719 HT_ ?_
      refine Ytt 18 23 40 1572863 HT_ HW_ hHeld ?_
      refine Ytt 19 24 40 2097151 HT_ HW_ hHeld ?_
      refine Ytt 21 26 40 4194303 HT_ HW_ hHeld ?_
      refine Yot 22 27 40 8388607 HT_ (fun K hK => ?_)
      refine Ygs Tryz.func36 #[.agg #[.slice A0_0 l0_0.length c0_0, .slice A0_1 l0_1.length c0_1, .slice A0_2 l0_2.length c0_2], .int .i64 a1_0] ?_
      with_reducible refine (zbo.calls _ _ l0_0 _ _ l0_1 (fun k_ => k_ < w.heap.size) _ _ l0_2 a1_0 t134 _ (Kd.zak HR0_0.out Ybe) HC0_0.out (Kd.zak HR0_1.out Ybe) HC0_1.out ?side5 A6.out).mono ?_
      (case side5 => exact Kd.V_mk HC0_2.out (Kd.zd8 (Kd.C_F zdy HR0_2.out) Yb_PItemTellsx5_1))
      rintro e w12 ⟨v135, rfl, ho0, hb⟩
      refine ⟨_, rfl, ?_⟩
      have HO136 := zaa.mk (Kd.zef (Kd.zc2 (ok' := fun k_ => k_ ≠ gb132 ∧ k_ ≠ gb133) ho0 (fun k_ hk_ => ⟨Or.elim hk_ (fun hs_ => fun e_ => Nat.not_le.2 hs_ (by rw [e_]; exact GW132.out)) (fun hn_ => (Kd.zcl (g := gb132) (o := .cells #[.slice A0_0 l0_0.length c0_0, .slice A0_1 l0_1.length c0_1, .slice A0_2 l0_2.length c0_2] 25 (0, 0)) (Yg BK132) k_ hn_)), Or.elim hk_ (fun hs_ => fun e_ => Nat.not_le.2 hs_ (by rw [e_]; exact GW133.out)) (fun hn_ => (Kd.zcl (g := gb133) (o := .cells #[.int .i64 a1_0, .int .i64 a1_1, .int .i64 a1_2] 50 (0, 0)) (Yg BK133) k_ hn_))⟩)) (za8 Yb_PItemTellsx5_1))
      replace BK132 := Ykb BK132 hb
      replace BK133 := Ykb BK133 hb
      replace HB := zaa.mk (zay Yb_PItemTellsx5_1 hb)
      (try clear hb)
      (try clear hb2)
      (try clear hk)
      (try clear hi)
      (try clear ho0)
      obtain ⟨Ao13, co13, eo13⟩ := Kd.zeg HO136.out
      (first | subst eo13 | (injection eo13 with f1_ f2_ f3_; have f4_ := f1_.symm; have f5_ := f3_.symm; clear f1_ f2_ f3_; subst f4_; subst f5_))
      refine hK.out _ _ ⟨(zab BK133.out 0).trans rfl, (zab BK133.out 1).trans rfl, (zab BK133.out 2).trans rfl, (zab BK132.out 0).trans rfl, (zab BK132.out 1).trans rfl, (zab BK132.out 2).trans rfl⟩ (fun hHeld => ?_)
      clear hK K
      refine Ynw 27 ?_
      refine Ypt 23 28 40 16777215 HT_ ?_
      refine Ypt 24 29 40 33554431 HT_ ?_
      refine Ypt 25 30 40 67108863 HT_ ?_
      refine Ypt 26 31 40 134217727 HT_ ?_
      refine Ypt 27 32 40 268435455 HT_ ?_
      refine Ytt 28 33 40 536870911 HT_ HW_ hHeld ?_
      refine Ypt 29 34 40 1073741823 HT_ ?_
      refine Ypt 30 35 40 2147483647 HT_ ?_
      refine Ypt 31 36 40 4294967295 HT_ ?_
      refine Ypt 32 37 40 8589934591 HT_ ?_
      refine Ypt 34 39 40 25769803775 HT_ ?_
      refine Ytt 33 38 40 34359738367 HT_ HW_ hHeld ?_
      refine Ytt 35 40 40 68719476735 HT_ HW_ hHeld ?_
      refine Ypt 36 41 40 137438953471 HT_ ?_
      refine Ypt 37 42 40 274877906943 HT_ ?_
      refine Ypt 38 43 40 549755813887 HT_ ?_
      refine Ypt 39 4 40 1099511627775 HT_ ?_
      refine zbq (zb4 HT_.out (by kernel_rfl)) ?_
      try go_wp2
      go_ret
      exact ⟨Yfi, Yb_PItemTellsx5_1⟩
     ·rw [if_neg c8] at H
      have c8b0 := decide_eq_false c8
      clear c8;obtain rfl := Option.some.inj H
      go_enter Tryz.func18, Tryz.ntmps18
      try go_wp2_with (first | ((with_reducible refine zau (N := 2) rfl ?_); (try (refine zaz (by rfl) ?_; dsimp only)); refine Ybx 2 #[.slice A0_0 l0_0.length c0_0, .slice A0_1 l0_1.length c0_1, .slice A0_2 l0_2.length c0_2] 25 ?_; intro gb132 hg w14 hbox hb; obtain ⟨BK132, GW132, GE132, HB⟩ := Yb4 hbox hg hb Ybe; clear hb hbox hg) | ((with_reducible refine zau (N := 3) rfl ?_); (try (refine zaz (by rfl) ?_; dsimp only)); refine Ybx 3 #[.int .i64 a1_0, .int .i64 a1_1, .int .i64 a1_2] 50 ?_; intro gb133 hg w15 hbox hb; obtain ⟨BK133, GW133, GE133, HB⟩ := Yb4 hbox hg hb Yb_PItemTellsx5_0; have NB132_133 := Ynl BK132 hg; have NB133_132 := Yng BK132 hg; replace BK132 := Ykb BK132 hb; clear hb hbox hg))
      replace BK132 := zaa.mk (zah BK132.out)
      replace BK133 := zaa.mk (zah BK133.out)
      replace HB := zaa.mk (zas HB.out)
      refine zbl (n := 40) (S := fun w' => w'.cell? ⟨gb133, 0, none⟩ = some (.int .i64 a1_0) ∧ w'.cell? ⟨gb133, 1, none⟩ = some (.int .i64 a1_1) ∧ w'.cell? ⟨gb133, 2, none⟩ = some (.int .i64 a1_2) ∧ w'.cell? ⟨gb132, 0, none⟩ = some (.slice A0_0 l0_0.length c0_0) ∧ w'.cell? ⟨gb132, 1, none⟩ = some (.slice A0_1 l0_1.length c0_1) ∧ w'.cell? ⟨gb132, 2, none⟩ = some (.slice A0_2 l0_2.length c0_2)) (ds := []) (Ymk 40 0) (by kernel_rfl) rfl rfl ⟨(zab BK133.out 0).trans rfl, (zab BK133.out 1).trans rfl, (zab BK133.out 2).trans rfl, (zab BK132.out 0).trans rfl, (zab BK132.out 1).trans rfl, (zab BK132.out 2).trans rfl⟩ (fun hHeld => ?_); refine zbw zax.tab1 zax.zeh (fun HT_ HW_ => ?_)
      generalize w15.drew = w16 at BK132 BK133 HB hHeld ⊢
      refine Ypt 0 5 40 1 HT_ ?_
      refine Ytt 1 6 40 3 HT_ HW_ hHeld ?_
      refine Ypt 2 7 40 7 HT_ ?_
      refine Ypt 3 8 40 15 HT_ ?_
      refine Ypt 4 9 40 31 HT_ ?_
      refine Ypt 6 11 40 95 HT_ ?_
      refine Ytt 5 10 40 127 HT_ HW_ hHeld ?_
      refine Ytt 7 12 40 255 HT_ HW_ hHeld ?_
      refine Ypt 8 13 40 511 HT_ ?_
      refine Ypt 9 14 40 1023 HT_ ?_
      refine Ypt 10 15 40 2047 HT_ ?_
      refine Ypt 11 16 40 4095 HT_ ?_
      refine Ypt 12 17 40 8191 HT_ ?_
      refine Ytt 13 18 40 16383 HT_ HW_ hHeld ?_
      refine Ypt 14 19 40 32767 HT_ ?_
      refine Ypt 15 20 40 65535 HT_ ?_
      refine Ypt 16 21 40 131071 HT_ ?_
      refine Ypt 17 22 40 262143 HT_ ?_
      refine Ypt 20 25 40 1310719 HT_ ?_
      refine Ytt 18 23 40 1572863 HT_ HW_ hHeld ?_
      refine Ytt 19 24 40 2097151 HT_ HW_ hHeld ?_
      refine Ytt 21 26 40 4194303 HT_ HW_ hHeld ?_
      refine Yot 22 27 40 8388607 HT_ (fun K hK => ?_)
      refine Ygs Tryz.func36 #[.agg #[.slice A0_0 l0_0.length c0_0, .slice A0_1 l0_1.length c0_1, .slice A0_2 l0_2.length c0_2], .int .i64 a1_0] ?_
      with_reducible refine (zbo.calls _ _ l0_0 _ _ l0_1 (fun k_ => k_ < w.heap.size) _ _ l0_2 a1_0 t134 _ (Kd.zak HR0_0.out Ybe) HC0_0.out (Kd.zak HR0_1.out Ybe) HC0_1.out ?side5 A6.out).mono ?_
      (case side5 => exact Kd.V_mk HC0_2.out (Kd.zd8 (Kd.C_F zdy HR0_2.out) Yb_PItemTellsx5_1))
      rintro e w17 ⟨v135, rfl, ho0, hb⟩
      refine ⟨_, rfl, ?_⟩
      have HO136 := zaa.mk (Kd.zef (Kd.zc2 (ok' := fun k_ => k_ ≠ gb132 ∧ k_ ≠ gb133) ho0 (fun k_ hk_ => ⟨Or.elim hk_ (fun hs_ => fun e_ => Nat.not_le.2 hs_ (by rw [e_]; exact GW132.out)) (fun hn_ => (Kd.zcl (g := gb132) (o := .cells #[.slice A0_0 l0_0.length c0_0, .slice A0_1 l0_1.length c0_1, .slice A0_2 l0_2.length c0_2] 25 (0, 0)) (Yg BK132) k_ hn_)), Or.elim hk_ (fun hs_ => fun e_ => Nat.not_le.2 hs_ (by rw [e_]; exact GW133.out)) (fun hn_ => (Kd.zcl (g := gb133) (o := .cells #[.int .i64 a1_0, .int .i64 a1_1, .int .i64 a1_2] 50 (0, 0)) (Yg BK133) k_ hn_))⟩)) (za8 Yb_PItemTellsx5_1))
      replace BK132 := Ykb BK132 hb
      replace BK133 := Ykb BK133 hb
      replace HB := zaa.mk (zay Yb_PItemTellsx5_1 hb)
      (try clear hb)
      (try clear hb2)
      (try clear hk)
      (try clear hi)
      (try clear ho0)
      obtain ⟨Ao18, co18, eo18⟩ := Kd.zeg HO136.out
      (first | subst eo18 | (injection eo18 with f1_ f2_ f3_; have f4_ := f1_.symm; have f5_ := f3_.symm; clear f1_ f2_ f3_; subst f4_; subst f5_))
      refine hK.out _ _ ⟨(zab BK133.out 0).trans rfl, (zab BK133.out 1).trans rfl, (zab BK133.out 2).trans rfl, (zab BK132.out 0).trans rfl, (zab BK132.out 1).trans rfl, (zab BK132.out 2).trans rfl⟩ (fun hHeld => ?_)
      clear hK K
      refine Ynw 27 ?_
      refine Ypt 23 28 40 16777215 HT_ ?_
      refine Ypt 24 29 40 33554431 HT_ ?_
      refine Ypt 25 30 40 67108863 HT_ ?_
      refine Ypt 26 31 40 134217727 HT_ ?_
      refine Ypt 27 32 40 268435455 HT_ ?_
      refine Ytt 28 33 40 536870911 HT_ HW_ hHeld ?_
      refine Ypt 29 34 40 1073741823 HT_ ?_
      refine Ypt 30 35 40 2147483647 HT_ ?_
      refine Ypt 31 36 40 4294967295 HT_ ?_
      refine Ypu 32 37 40 8589934591 HT_ ?_
      refine Ypu 33 38 40 17179869183 HT_ ?_
      refine Ypu 34 39 40 34359738367 HT_ ?_
      refine Ypu 35 40 40 68719476735 HT_ ?_
      refine Ypu 36 41 40 137438953471 HT_ ?_
      refine Ypu 37 42 40 274877906943 HT_ ?_
      refine Ypt 38 43 40 549755813887 HT_ ?_
      refine Ypt 39 4 40 1099511627775 HT_ ?_
      refine zbq (zb4 HT_.out (by kernel_rfl)) ?_
      try go_wp2
      go_ret
      exact ⟨Yfi, Yb_PItemTellsx5_1⟩
    ·rw [if_neg c7] at H
     have c7b0 := decide_eq_false c7
     clear c7;obtain rfl := Option.some.inj H
     go_enter Tryz.func18, Tryz.ntmps18
     try go_wp2_with (first | ((with_reducible refine zau (N := 2) rfl ?_); (try (refine zaz (by rfl) ?_; dsimp only)); refine Ybx 2 #[.slice A0_0 l0_0.length c0_0, .slice A0_1 l0_1.length c0_1, .slice A0_2 l0_2.length c0_2] 25 ?_; intro gb132 hg w19 hbox hb; obtain ⟨BK132, GW132, GE132, HB⟩ := Yb4 hbox hg hb Ybe; clear hb hbox hg) | ((with_reducible refine zau (N := 3) rfl ?_); (try (refine zaz (by rfl) ?_; dsimp only)); refine Ybx 3 #[.int .i64 a1_0, .int .i64 a1_1, .int .i64 a1_2] 50 ?_; intro gb133 hg w20 hbox hb; obtain ⟨BK133, GW133, GE133, HB⟩ := Yb4 hbox hg hb Yb_PItemTellsx5_0; have NB132_133 := Ynl BK132 hg; have NB133_132 := Yng BK132 hg; replace BK132 := Ykb BK132 hb; clear hb hbox hg))
     replace BK132 := zaa.mk (zah BK132.out)
     replace BK133 := zaa.mk (zah BK133.out)
     replace HB := zaa.mk (zas HB.out)
     refine zbl (n := 40) (S := fun w' => w'.cell? ⟨gb133, 0, none⟩ = some (.int .i64 a1_0) ∧ w'.cell? ⟨gb133, 1, none⟩ = some (.int .i64 a1_1) ∧ w'.cell? ⟨gb133, 2, none⟩ = some (.int .i64 a1_2) ∧ w'.cell? ⟨gb132, 0, none⟩ = some (.slice A0_0 l0_0.length c0_0) ∧ w'.cell? ⟨gb132, 1, none⟩ = some (.slice A0_1 l0_1.length c0_1) ∧ w'.cell? ⟨gb132, 2, none⟩ = some (.slice A0_2 l0_2.length c0_2)) (ds := []) (Ymk 40 0) (by kernel_rfl) rfl rfl ⟨(zab BK133.out 0).trans rfl, (zab BK133.out 1).trans rfl, (zab BK133.out 2).trans rfl, (zab BK132.out 0).trans rfl, (zab BK132.out 1).trans rfl, (zab BK132.out 2).trans rfl⟩ (fun hHeld => ?_); refine zbw zax.tab1 zax.zeh (fun HT_ HW_ => ?_)
     generalize w20.drew = w21 at BK132 BK133 HB hHeld ⊢
     refine Ypt 0 5 40 1 HT_ ?_
     refine Ytt 1 6 40 3 HT_ HW_ hHeld ?_
     refine Ypt 2 7 40 7 HT_ ?_
     refine Ypt 3 8 40 15 HT_ ?_
     refine Ypt 4 9 40 31 HT_ ?_
     refine Ypt 6 11 40 95 HT_ ?_
     refine Ytt 5 10 40 127 HT_ HW_ hHeld ?_
     refine Ytt 7 12 40 255 HT_ HW_ hHeld ?_
     refine Ypt 8 13 40 511 HT_ ?_
     refine Ypt 9 14 40 1023 HT_ ?_
     refine Ypt 10 15 40 2047 HT_ ?_
     refine Ypt 11 16 40 4095 HT_ ?_
     refine Ypt 12 17 40 8191 HT_ ?_
     refine Ytt 13 18 40 16383 HT_ HW_ hHeld ?_
     refine Ypt 14 19 40 32767 HT_ ?_
     refine Ypt 15 20 40 65535 HT_ ?_
     refine Ypt 16 21 40 131071 HT_ ?_
     refine Ypt 17 22 40 262143 HT_ ?_
     refine Ypt 20 25 40 1310719 HT_ ?_
     refine Ytt 18 23 40 1572863 HT_ HW_ hHeld ?_
     refine Ytt 19 24 40 2097151 HT_ HW_ hHeld ?_
     refine Ytt 21 26 40 4194303 HT_ HW_ hHeld ?_
     refine Yot 22 27 40 8388607 HT_ (fun K hK => ?_)
     refine Ygs Tryz.func36 #[.agg #[.slice A0_0 l0_0.length c0_0, .slice A0_1 l0_1.length c0_1, .slice A0_2 l0_2.length c0_2], .int .i64 a1_0] ?_
     with_reducible refine (zbo.calls _ _ l0_0 _ _ l0_1 (fun k_ => k_ < w.heap.size) _ _ l0_2 a1_0 t134 _ (Kd.zak HR0_0.out Ybe) HC0_0.out (Kd.zak HR0_1.out Ybe) HC0_1.out ?side5 A6.out).mono ?_
     (case side5 => exact Kd.V_mk HC0_2.out (Kd.zd8 (Kd.C_F zdy HR0_2.out) Yb_PItemTellsx5_1))
     rintro e w22 ⟨v135, rfl, ho0, hb⟩
     refine ⟨_, rfl, ?_⟩
     have HO136 := zaa.mk (Kd.zef (Kd.zc2 (ok' := fun k_ => k_ ≠ gb132 ∧ k_ ≠ gb133) ho0 (fun k_ hk_ => ⟨Or.elim hk_ (fun hs_ => fun e_ => Nat.not_le.2 hs_ (by rw [e_]; exact GW132.out)) (fun hn_ => (Kd.zcl (g := gb132) (o := .cells #[.slice A0_0 l0_0.length c0_0, .slice A0_1 l0_1.length c0_1, .slice A0_2 l0_2.length c0_2] 25 (0, 0)) (Yg BK132) k_ hn_)), Or.elim hk_ (fun hs_ => fun e_ => Nat.not_le.2 hs_ (by rw [e_]; exact GW133.out)) (fun hn_ => (Kd.zcl (g := gb133) (o := .cells #[.int .i64 a1_0, .int .i64 a1_1, .int .i64 a1_2] 50 (0, 0)) (Yg BK133) k_ hn_))⟩)) (za8 Yb_PItemTellsx5_1))
     replace BK132 := Ykb BK132 hb
     replace BK133 := Ykb BK133 hb
     replace HB := zaa.mk (zay Yb_PItemTellsx5_1 hb)
     (try clear hb)
     (try clear hb2)
     (try clear hk)
     (try clear hi)
     (try clear ho0)
     obtain ⟨Ao23, co23, eo23⟩ := Kd.zeg HO136.out
     (first | subst eo23 | (injection eo23 with f1_ f2_ f3_; have f4_ := f1_.symm; have f5_ := f3_.symm; clear f1_ f2_ f3_; subst f4_; subst f5_))
     refine hK.out _ _ ⟨(zab BK133.out 0).trans rfl, (zab BK133.out 1).trans rfl, (zab BK133.out 2).trans rfl, (zab BK132.out 0).trans rfl, (zab BK132.out 1).trans rfl, (zab BK132.out 2).trans rfl⟩ (fun hHeld => ?_)
     clear hK K
     refine Ynw 27 ?_
     refine Ypt 23 28 40 16777215 HT_ ?_
     refine Ypt 24 29 40 33554431 HT_ ?_
     refine Ypt 25 30 40 67108863 HT_ ?_
     refine Ypt 26 31 40 134217727 HT_ ?_
     refine Ypu 27 32 40 268435455 HT_ ?_
     refine Ypu 28 33 40 536870911 HT_ ?_
     refine Ypu 29 34 40 1073741823 HT_ ?_
     refine Ypt 30 35 40 2147483647 HT_ ?_
     refine Ypt 31 36 40 4294967295 HT_ ?_
     refine Ypu 32 37 40 8589934591 HT_ ?_
     refine Ypu 33 38 40 17179869183 HT_ ?_
     refine Ypu 34 39 40 34359738367 HT_ ?_
     refine Ypu 35 40 40 68719476735 HT_ ?_
     refine Ypu 36 41 40 137438953471 HT_ ?_
     refine Ypu 37 42 40 274877906943 HT_ ?_
     refine Ypt 38 43 40 549755813887 HT_ ?_
     refine Ypt 39 4 40 1099511627775 HT_ ?_
     refine zbq (zb4 HT_.out (by kernel_rfl)) ?_
     try go_wp2
     go_ret
     exact ⟨Yfi, Yb_PItemTellsx5_1⟩
   ·rw [if_neg c5] at H
    have c5b0 := decide_eq_false c5
    clear c5;obtain rfl := Option.some.inj H
    go_enter Tryz.func18, Tryz.ntmps18
    try go_wp2_with (first | ((with_reducible refine zau (N := 2) rfl ?_); (try (refine zaz (by rfl) ?_; dsimp only)); refine Ybx 2 #[.slice A0_0 l0_0.length c0_0, .slice A0_1 l0_1.length c0_1, .slice A0_2 l0_2.length c0_2] 25 ?_; intro gb132 hg w24 hbox hb; obtain ⟨BK132, GW132, GE132, HB⟩ := Yb4 hbox hg hb Ybe; clear hb hbox hg) | ((with_reducible refine zau (N := 3) rfl ?_); (try (refine zaz (by rfl) ?_; dsimp only)); refine Ybx 3 #[.int .i64 a1_0, .int .i64 a1_1, .int .i64 a1_2] 50 ?_; intro gb133 hg w25 hbox hb; obtain ⟨BK133, GW133, GE133, HB⟩ := Yb4 hbox hg hb Yb_PItemTellsx5_0; have NB132_133 := Ynl BK132 hg; have NB133_132 := Yng BK132 hg; replace BK132 := Ykb BK132 hb; clear hb hbox hg))
    replace BK132 := zaa.mk (zah BK132.out)
    replace BK133 := zaa.mk (zah BK133.out)
    replace HB := zaa.mk (zas HB.out)
    refine zbl (n := 40) (S := fun w' => w'.cell? ⟨gb133, 0, none⟩ = some (.int .i64 a1_0) ∧ w'.cell? ⟨gb133, 1, none⟩ = some (.int .i64 a1_1) ∧ w'.cell? ⟨gb133, 2, none⟩ = some (.int .i64 a1_2) ∧ w'.cell? ⟨gb132, 0, none⟩ = some (.slice A0_0 l0_0.length c0_0) ∧ w'.cell? ⟨gb132, 1, none⟩ = some (.slice A0_1 l0_1.length c0_1) ∧ w'.cell? ⟨gb132, 2, none⟩ = some (.slice A0_2 l0_2.length c0_2)) (ds := []) (Ymk 40 0) (by kernel_rfl) rfl rfl ⟨(zab BK133.out 0).trans rfl, (zab BK133.out 1).trans rfl, (zab BK133.out 2).trans rfl, (zab BK132.out 0).trans rfl, (zab BK132.out 1).trans rfl, (zab BK132.out 2).trans rfl⟩ (fun hHeld => ?_); refine zbw zax.tab1 zax.zeh (fun HT_ HW_ => ?_)
    generalize w25.drew = w26 at BK132 BK133 HB hHeld ⊢
    refine Ypt 0 5 40 1 HT_ ?_
    refine Ytt 1 6 40 3 HT_ HW_ hHeld ?_
    refine Ypt 2 7 40 7 HT_ ?_
    refine Ypt 3 8 40 15 HT_ ?_
    refine Ypt 4 9 40 31 HT_ ?_
    refine Ypt 6 11 40 95 HT_ ?_
    refine Ytt 5 10 40 127 HT_ HW_ hHeld ?_
    refine Ytt 7 12 40 255 HT_ HW_ hHeld ?_
    refine Ypt 8 13 40 511 HT_ ?_
    refine Ypt 9 14 40 1023 HT_ ?_
    refine Ypt 10 15 40 2047 HT_ ?_
    refine Ypt 11 16 40 4095 HT_ ?_
    refine Ypt 12 17 40 8191 HT_ ?_
    refine Ytt 13 18 40 16383 HT_ HW_ hHeld ?_
    refine Ypt 14 19 40 32767 HT_ ?_
    refine Ypt 15 20 40 65535 HT_ ?_
    refine Ypt 16 21 40 131071 HT_ ?_
    refine Ypu 17 22 40 262143 HT_ ?_
    refine Ypu 18 23 40 524287 HT_ ?_
    refine Ypu 19 24 40 1048575 HT_ ?_
    refine Ypu 20 25 40 2097151 HT_ ?_
    refine Ypu 21 26 40 4194303 HT_ ?_
    refine Ypu 22 27 40 8388607 HT_ ?_
    refine Ypu 23 28 40 16777215 HT_ ?_
    refine Ypu 24 29 40 33554431 HT_ ?_
    refine Ypt 25 30 40 67108863 HT_ ?_
    refine Ypt 26 31 40 134217727 HT_ ?_
    refine Ypu 27 32 40 268435455 HT_ ?_
    refine Ypu 28 33 40 536870911 HT_ ?_
    refine Ypu 29 34 40 1073741823 HT_ ?_
    refine Ypt 30 35 40 2147483647 HT_ ?_
    refine Ypt 31 36 40 4294967295 HT_ ?_
    refine Ypu 32 37 40 8589934591 HT_ ?_
    refine Ypu 33 38 40 17179869183 HT_ ?_
    refine Ypu 34 39 40 34359738367 HT_ ?_
    refine Ypu 35 40 40 68719476735 HT_ ?_
    refine Ypu 36 41 40 137438953471 HT_ ?_
    refine Ypu 37 42 40 274877906943 HT_ ?_
    refine Ypt 38 43 40 549755813887 HT_ ?_
    refine Ypt 39 4 40 1099511627775 HT_ ?_
    refine zbq (zb4 HT_.out (by kernel_rfl)) ?_
    try go_wp2
    go_ret
    exact ⟨Yfi, Yb_PItemTellsx5_1⟩
  ·rw [if_neg c4] at H
   have c4b0 := decide_eq_false c4
   clear c4;obtain rfl := Option.some.inj H
   go_enter Tryz.func18, Tryz.ntmps18
   try go_wp2_with (first | ((with_reducible refine zau (N := 2) rfl ?_); (try (refine zaz (by rfl) ?_; dsimp only)); refine Ybx 2 #[.slice A0_0 l0_0.length c0_0, .slice A0_1 l0_1.length c0_1, .slice A0_2 l0_2.length c0_2] 25 ?_; intro gb132 hg w27 hbox hb; obtain ⟨BK132, GW132, GE132, HB⟩ := Yb4 hbox hg hb Ybe; clear hb hbox hg) | ((with_reducible refine zau (N := 3) rfl ?_); (try (refine zaz (by rfl) ?_; dsimp only)); refine Ybx 3 #[.int .i64 a1_0, .int .i64 a1_1, .int .i64 a1_2] 50 ?_; intro gb133 hg w28 hbox hb; obtain ⟨BK133, GW133, GE133, HB⟩ := Yb4 hbox hg hb Yb_PItemTellsx5_0; have NB132_133 := Ynl BK132 hg; have NB133_132 := Yng BK132 hg; replace BK132 := Ykb BK132 hb; clear hb hbox hg))
   replace BK132 := zaa.mk (zah BK132.out)
   replace BK133 := zaa.mk (zah BK133.out)
   replace HB := zaa.mk (zas HB.out)
   refine zbl (n := 40) (S := fun w' => w'.cell? ⟨gb133, 0, none⟩ = some (.int .i64 a1_0) ∧ w'.cell? ⟨gb133, 1, none⟩ = some (.int .i64 a1_1) ∧ w'.cell? ⟨gb133, 2, none⟩ = some (.int .i64 a1_2) ∧ w'.cell? ⟨gb132, 0, none⟩ = some (.slice A0_0 l0_0.length c0_0) ∧ w'.cell? ⟨gb132, 1, none⟩ = some (.slice A0_1 l0_1.length c0_1) ∧ w'.cell? ⟨gb132, 2, none⟩ = some (.slice A0_2 l0_2.length c0_2)) (ds := []) (Ymk 40 0) (by kernel_rfl) rfl rfl ⟨(zab BK133.out 0).trans rfl, (zab BK133.out 1).trans rfl, (zab BK133.out 2).trans rfl, (zab BK132.out 0).trans rfl, (zab BK132.out 1).trans rfl, (zab BK132.out 2).trans rfl⟩ (fun hHeld => ?_); refine zbw zax.tab1 zax.zeh (fun HT_ HW_ => ?_)
   generalize w28.drew = w29 at BK132 BK133 HB hHeld ⊢
   refine Ypt 0 5 40 1 HT_ ?_
   refine Ytt 1 6 40 3 HT_ HW_ hHeld ?_
   refine Ypt 2 7 40 7 HT_ ?_
   refine Ypt 3 8 40 15 HT_ ?_
   refine Ypt 4 9 40 31 HT_ ?_
   refine Ypt 6 11 40 95 HT_ ?_
   refine Ytt 5 10 40 127 HT_ HW_ hHeld ?_
   refine Ytt 7 12 40 255 HT_ HW_ hHeld ?_
   refine Ypt 8 13 40 511 HT_ ?_
   refine Ypt 9 14 40 1023 HT_ ?_
   refine Ypt 10 15 40 2047 HT_ ?_
   refine Ypt 11 16 40 4095 HT_ ?_
   refine Ypu 12 17 40 8191 HT_ ?_
   refine Ypu 13 18 40 16383 HT_ ?_
   refine Ypu 14 19 40 32767 HT_ ?_
   refine Ypt 15 20 40 65535 HT_ ?_
   refine Ypt 16 21 40 131071 HT_ ?_
   refine Ypu 17 22 40 262143 HT_ ?_
   refine Ypu 18 23 40 524287 HT_ ?_
   refine Ypu 19 24 40 1048575 HT_ ?_
   refine Ypu 20 25 40 2097151 HT_ ?_
   refine Ypu 21 26 40 4194303 HT_ ?_
   refine Ypu 22 27 40 8388607 HT_ ?_
   refine Ypu 23 28 40 16777215 HT_ ?_
   refine Ypu 24 29 40 33554431 HT_ ?_
   refine Ypt 25 30 40 67108863 HT_ ?_
   refine Ypt 26 31 40 134217727 HT_ ?_
   refine Ypu 27 32 40 268435455 HT_ ?_
   refine Ypu 28 33 40 536870911 HT_ ?_
   refine Ypu 29 34 40 1073741823 HT_ ?_
   refine Ypt 30 35 40 2147483647 HT_ ?_
   refine Ypt 31 36 40 4294967295 HT_ ?_
   refine Ypu 32 37 40 8589934591 HT_ ?_
   refine Ypu 33 38 40 17179869183 HT_ ?_
   refine Ypu 34 39 40 34359738367 HT_ ?_
   refine Ypu 35 40 40 68719476735 HT_ ?_
   refine Ypu 36 41 40 137438953471 HT_ ?_
   refine Ypu 37 42 40 274877906943 HT_ ?_
   refine Ypt 38 43 40 549755813887 HT_ ?_
   refine Ypt 39 4 40 1099511627775 HT_ ?_
   refine zbq (zb4 HT_.out (by kernel_rfl)) ?_
   try go_wp2
   go_ret
   exact ⟨Yfi, Yb_PItemTellsx5_1⟩
 ·rw [if_neg c3] at H
  have c3b0 := decide_eq_false c3
  clear c3;obtain rfl := Option.some.inj H
  go_enter Tryz.func18, Tryz.ntmps18
  try go_wp2_with (first | ((with_reducible refine zau (N := 2) rfl ?_); (try (refine zaz (by rfl) ?_; dsimp only)); refine Ybx 2 #[.slice A0_0 l0_0.length c0_0, .slice A0_1 l0_1.length c0_1, .slice A0_2 l0_2.length c0_2] 25 ?_; intro gb132 hg w30 hbox hb; obtain ⟨BK132, GW132, GE132, HB⟩ := Yb4 hbox hg hb Ybe; clear hb hbox hg) | ((with_reducible refine zau (N := 3) rfl ?_); (try (refine zaz (by rfl) ?_; dsimp only)); refine Ybx 3 #[.int .i64 a1_0, .int .i64 a1_1, .int .i64 a1_2] 50 ?_; intro gb133 hg w31 hbox hb; obtain ⟨BK133, GW133, GE133, HB⟩ := Yb4 hbox hg hb Yb_PItemTellsx5_0; have NB132_133 := Ynl BK132 hg; have NB133_132 := Yng BK132 hg; replace BK132 := Ykb BK132 hb; clear hb hbox hg))
  replace BK132 := zaa.mk (zah BK132.out)
  replace BK133 := zaa.mk (zah BK133.out)
  replace HB := zaa.mk (zas HB.out)
  refine zbl (n := 40) (S := fun w' => w'.cell? ⟨gb133, 0, none⟩ = some (.int .i64 a1_0) ∧ w'.cell? ⟨gb133, 1, none⟩ = some (.int .i64 a1_1) ∧ w'.cell? ⟨gb133, 2, none⟩ = some (.int .i64 a1_2)) (ds := []) (Ymk 40 0) (by kernel_rfl) rfl rfl ⟨(zab BK133.out 0).trans rfl, (zab BK133.out 1).trans rfl, (zab BK133.out 2).trans rfl⟩ (fun hHeld => ?_); refine zbw zax.tab1 zax.zeh (fun HT_ HW_ => ?_)
  generalize w31.drew = w32 at BK132 BK133 HB hHeld ⊢
  refine Ypt 0 5 40 1 HT_ ?_
  refine Ytt 1 6 40 3 HT_ HW_ hHeld ?_
  refine Ypt 2 7 40 7 HT_ ?_
  refine Ypt 3 8 40 15 HT_ ?_
  refine Ypu 4 9 40 31 HT_ ?_
  refine Ypu 5 10 40 63 HT_ ?_
  refine Ypu 6 11 40 127 HT_ ?_
  refine Ypu 7 12 40 255 HT_ ?_
  refine Ypu 8 13 40 511 HT_ ?_
  refine Ypu 9 14 40 1023 HT_ ?_
  refine Ypt 10 15 40 2047 HT_ ?_
  refine Ypt 11 16 40 4095 HT_ ?_
  refine Ypu 12 17 40 8191 HT_ ?_
  refine Ypu 13 18 40 16383 HT_ ?_
  refine Ypu 14 19 40 32767 HT_ ?_
  refine Ypt 15 20 40 65535 HT_ ?_
  refine Ypt 16 21 40 131071 HT_ ?_
  refine Ypu 17 22 40 262143 HT_ ?_
  refine Ypu 18 23 40 524287 HT_ ?_
  refine Ypu 19 24 40 1048575 HT_ ?_
  refine Ypu 20 25 40 2097151 HT_ ?_
  refine Ypu 21 26 40 4194303 HT_ ?_
  refine Ypu 22 27 40 8388607 HT_ ?_
  refine Ypu 23 28 40 16777215 HT_ ?_
  refine Ypu 24 29 40 33554431 HT_ ?_
  refine Ypt 25 30 40 67108863 HT_ ?_
  refine Ypt 26 31 40 134217727 HT_ ?_
  refine Ypu 27 32 40 268435455 HT_ ?_
  refine Ypu 28 33 40 536870911 HT_ ?_
  refine Ypu 29 34 40 1073741823 HT_ ?_
  refine Ypt 30 35 40 2147483647 HT_ ?_
  refine Ypt 31 36 40 4294967295 HT_ ?_
  refine Ypu 32 37 40 8589934591 HT_ ?_
  refine Ypu 33 38 40 17179869183 HT_ ?_
  refine Ypu 34 39 40 34359738367 HT_ ?_
  refine Ypu 35 40 40 68719476735 HT_ ?_
  refine Ypu 36 41 40 137438953471 HT_ ?_
  refine Ypu 37 42 40 274877906943 HT_ ?_
  refine Ypt 38 43 40 549755813887 HT_ ?_
  refine Ypt 39 4 40 1099511627775 HT_ ?_
  refine zbq (zb4 HT_.out (by kernel_rfl)) ?_
  try go_wp2
  go_ret
  exact ⟨Yfi, Yb_PItemTellsx5_1⟩
section
end
theorem Yb_PItemTellsx6_0 {n : Nat} {w w' : World} (h : Below n w w' := by repeat (first | (with_reducible first | exact HB.out | apply za2 | apply zav | apply zas | refine za6 ?_ GE137.out) | exact HB.out)) : Below n w w' := h
theorem Yb_PItemTellsx6_1 {n : Nat} {w w' : World} (h : Below n w w' := by repeat (first | (with_reducible first | exact HB.out | apply za2 | apply zav | apply zas | refine za6 ?_ GE143.out) | exact HB.out)) : Below n w w' := h
theorem Yb_PItemTellsx6_2 {n : Nat} {w w' : World} (h : Below n w w' := by repeat (first | (with_reducible first | exact HB.out | apply za2 | apply zav | apply zas | refine za6 ?_ GE143.out | refine za6 ?_ GE149.out) | exact HB.out)) : Below n w w' := h
theorem Yb_PItemTellsx6_3 {n : Nat} {w w' : World} (h : Below n w w' := by repeat (first | (with_reducible first | exact HB.out | apply za2 | apply zav | apply zas | refine za6 ?_ GE154.out) | exact HB.out)) : Below n w w' := h
theorem Yb_PItemTellsx6_4 {n : Nat} {w w' : World} (h : Below n w w' := by repeat (first | (with_reducible first | exact HB.out | apply za2 | apply zav | apply zas | refine za6 ?_ GE154.out | refine za6 ?_ GE155.out) | exact HB.out)) : Below n w w' := h
def zbr.f (l0_0 : List ByteArray) (l0_1 : List ByteArray) (l0_2 : List S42) (a1_0 : Int) (a1_1 : Int) (a1_2 : Int) : Option (Int × Bool) := (zax.f l0_0 l0_1 l0_2 a1_0 a1_1 a1_2).bind fun t326 => (if t326 = true then ((zbo.f l0_0 l0_1 l0_2 a1_0).bind fun t327 => (if a1_1 = (t327.length : Int) then (some (0, false)) else ((zbo.f l0_0 l0_1 l0_2 a1_0).bind fun t330 => (if 0 ≤ a1_1 then (if a1_1 < (t330.length : Int) then (some ((t330.getD a1_1.toNat ⟨0, ⟨#[]⟩, ⟨#[]⟩⟩).f0, true)) else (none)) else (none))))) else (some (0, false)))
theorem nx_right (t n : List ByteArray) (l : List S42) (i : Int) (h : i < l.length) : ∃ r, zbo.f t n l i = some r ∧ r.map itE = LFlat.za1 t.length (l.map prE) i := by
 unfold zbo.f LFlat.za1
 by_cases c : i < 0
 ·rw [if_pos c, if_pos c]; exact ⟨_, rfl, rfl⟩
 ·rw [if_neg c, if_neg c, if_pos (by omega), if_pos h]
  refine ⟨_, rfl, ?_⟩
  show ((l.getD i.toNat _).f1).map itE = ((l.map prE).getD i.toNat LFlat.dP).2.1
  rw [List.getD_eq_getElem?_getD, List.getD_eq_getElem?_getD, List.getElem?_map]
  cases e : l[i.toNat]? with
  | none => exact absurd (List.getElem?_eq_none_iff.1 e) (by omega)
  | some p => rfl
theorem nx_fit (t n : List ByteArray) (l : List S42) (x : LrK.Lr) : zax.f t n l x.1 x.2.1 x.2.2 = some (LFlat.fitV t.length (l.map prE) x) := by
 unfold zax.f
 by_cases h0 : x.1 ≥ -1
 ·rw [if_pos h0]
  by_cases h1 : x.1 < (l.length : Int)
  ·rw [if_pos h1]
   by_cases h2 : x.2.1 ≥ 0
   ·obtain ⟨r, er, hr⟩ := nx_right t n l x.1 h1
    have hrl : r.length = (LFlat.za1 t.length (l.map prE) x.1).length := by rw [← hr, List.length_map]
    rw [if_pos h2, er, Option.bind_some, hrl]
    by_cases h3 : x.2.1 ≤ ((LFlat.za1 t.length (l.map prE) x.1).length : Int)
    ·rw [if_pos h3]
     by_cases h4 : x.2.2 ≥ 0
     ·rw [if_pos h4]
      congr 1
      simp [LFlat.fitV, h0, h1, h2, h3, h4, show (-1 : Int) ≤ x.1 from h0, show (0 : Int) ≤ x.2.1 from h2, show (0 : Int) ≤ x.2.2 from h4]
     ·rw [if_neg h4]; simp [LFlat.fitV, show ¬ (0 : Int) ≤ x.2.2 from h4]
    ·rw [if_neg h3]; simp [LFlat.fitV, h3]
   ·rw [if_neg h2]; simp [LFlat.fitV, show ¬ (0 : Int) ≤ x.2.1 from h2]
  ·rw [if_neg h1]; simp [LFlat.fitV, h1]
 ·rw [if_neg h0]; simp [LFlat.fitV, show ¬ (-1 : Int) ≤ x.1 from h0]
theorem nx_next (t n : List ByteArray) (l : List S42) (x : LrK.Lr) : zbr.f t n l x.1 x.2.1 x.2.2 = some ((LFlat.zbx t.length (l.map prE) x).getD 0, (LFlat.zbx t.length (l.map prE) x).isSome) := by
 unfold zbr.f LFlat.zbx
 rw [nx_fit, Option.bind_some]
 by_cases h : LFlat.fitV t.length (l.map prE) x = true
 ·obtain ⟨h0, h1, h2, h3, h4, h5⟩ := LFlat.zc4.1 h
  rw [List.length_map] at h1
  obtain ⟨r, er, hr⟩ := nx_right t n l x.1 h1
  have hrl : r.length = (LFlat.za1 t.length (l.map prE) x.1).length := by rw [← hr, List.length_map]
  rw [if_pos h, if_pos h, er, Option.bind_some, Option.bind_some, hrl]
  by_cases hl : x.2.1.toNat < (LFlat.za1 t.length (l.map prE) x.1).length
  ·rw [if_neg (by omega), if_pos h2, if_pos (by omega), ← hr, List.getElem?_map, List.getD_eq_getElem?_getD, List.getElem?_eq_getElem (by omega)]
   rfl
  ·rw [if_pos (by omega), List.getElem?_eq_none (by omega)]
   rfl
 ·rw [if_neg h, if_neg h]; rfl
theorem zbr.calls (A0_0 : Option Addr) (c0_0 : Nat) (l0_0 : List ByteArray) (A0_1 : Option Addr) (c0_1 : Nat) (l0_1 : List ByteArray) (A0_2 : Option Addr) (c0_2 : Nat) (l0_2 : List S42) (a1_0 : Int) (a1_1 : Int) (a1_2 : Int) (r1 : Int) (r2 : Bool) (w : World) (hr0_0 : Kd.C Kd.string w A0_0 l0_0.length l0_0) (hc0_0 : l0_0.length ≤ c0_0) (hr0_1 : Kd.C Kd.string w A0_1 l0_1.length l0_1) (hc0_1 : l0_1.length ≤ c0_1) (hr0_2 : Kd.C k42 w A0_2 l0_2.length l0_2) (hc0_2 : l0_2.length ≤ c0_2) (h : zbr.f l0_0 l0_1 l0_2 a1_0 a1_1 a1_2 = some (r1, r2)) :
  Calls Tryz.prog 16 #[.agg #[.slice A0_0 l0_0.length c0_0, .slice A0_1 l0_1.length c0_1, .slice A0_2 l0_2.length c0_2], .agg #[.int .i64 a1_0, .int .i64 a1_1, .int .i64 a1_2]] w fun e w' => e = .returned (.tuple #[.int .i64 r1, .bool r2]) ∧ Below w.heap.size w w' := by
 have hn := nx_next l0_0 l0_1 l0_2 (a1_0, a1_1, a1_2)
 simp only at hn
 rw [hn] at h
 obtain ⟨rfl, rfl⟩ := Prod.mk.inj (Option.some.inj h)
 have hl : (l0_2.map prE).length = l0_2.length := List.length_map _
 have hc := LNext.rnext_calls (⟨A0_0, A0_1, A0_2, c0_0, c0_1, c0_2, l0_0, l0_1, l0_2.map prE⟩ : LFlat.FG) (a1_0, a1_1, a1_2) w (fg_K hr0_0 hc0_0 hr0_1 hc0_1 hr0_2 hc0_2) (fun W hB => by
  have := zax.calls A0_0 c0_0 l0_0 A0_1 c0_1 l0_1 A0_2 c0_2 l0_2 a1_0 a1_1 a1_2 _ W (Kd.zak hr0_0 hB) hc0_0 (Kd.zak hr0_1 hB) hc0_1 (Kd.zak hr0_2 hB) hc0_2 (nx_fit l0_0 l0_1 l0_2 (a1_0, a1_1, a1_2))
  simp only [LFlat.FG.val, LFlat.FG.row, hl]
  exact this)
 simp only [LFlat.FG.val, LFlat.FG.row, hl] at hc
 exact hc
def zbp.f (l0_0 : List ByteArray) (l0_1 : List ByteArray) (l0_2 : List S42) (a1_0 : Int) (a1_1 : Int) (a1_2 : Int) : Option Bool := some (LFlat.fitV l0_0.length (l0_2.map prE) (a1_0, a1_1, a1_2))
theorem zbp.calls (A0_0 : Option Addr) (c0_0 : Nat) (l0_0 : List ByteArray) (A0_1 : Option Addr) (c0_1 : Nat) (l0_1 : List ByteArray) (A0_2 : Option Addr) (c0_2 : Nat) (l0_2 : List S42) (a1_0 : Int) (a1_1 : Int) (a1_2 : Int) (r : Bool) (w : World) (hr0_0 : Kd.C Kd.string w A0_0 l0_0.length l0_0) (hc0_0 : l0_0.length ≤ c0_0) (hr0_1 : Kd.C Kd.string w A0_1 l0_1.length l0_1) (hc0_1 : l0_1.length ≤ c0_1) (hr0_2 : Kd.C k42 w A0_2 l0_2.length l0_2) (hc0_2 : l0_2.length ≤ c0_2) (h : zbp.f l0_0 l0_1 l0_2 a1_0 a1_1 a1_2 = some r) :
  Calls Tryz.prog 17 #[.agg #[.slice A0_0 l0_0.length c0_0, .slice A0_1 l0_1.length c0_1, .slice A0_2 l0_2.length c0_2], .agg #[.int .i64 a1_0, .int .i64 a1_1, .int .i64 a1_2]] w fun e w' => e = .returned (.bool r) ∧ Below w.heap.size w w' := by
 obtain rfl := Option.some.inj h
 have hl : (l0_2.map prE).length = l0_2.length := List.length_map _
 have hc := LFlat.fit_calls (⟨A0_0, A0_1, A0_2, c0_0, c0_1, c0_2, l0_0, l0_1, l0_2.map prE⟩ : LFlat.FG) (a1_0, a1_1, a1_2) w (fg_K hr0_0 hc0_0 hr0_1 hc0_1 hr0_2 hc0_2)
 simp only [LFlat.FG.val, LFlat.FG.row, hl] at hc
 exact hc
def zdp.f (k : Nat) (l0_0 l0_1 : List ByteArray) (l0_2 : List S42) (l1 : List S50) : Option (List S50) :=
 if flOk (l0_0.length + l0_1.length) l0_1.length (l0_2.map prE) = true ∧ l0_2.length ≤ 1000000 ∧ lrsOk (l1.map lrT) = true then (rdyV k l0_0.length l0_1.length (l0_2.map prE)).bind fun q => (LClos.zb1 l0_0.length (l0_2.map prE) q.1 q.2 k [] (l1.map lrT)).bind fun r => some ((LClos.srtL r).map lrS) else none
theorem zdp.calls (k : Nat) (A0_0 : Option Addr) (c0_0 : Nat) (l0_0 : List ByteArray) (A0_1 : Option Addr) (c0_1 : Nat) (l0_1 : List ByteArray) (A0_2 : Option Addr) (c0_2 : Nat) (l0_2 : List S42) (A1 : Option Addr) (c1 : Nat) (l1 : List S50) (r : List S50) (w : World) (hr0_0 : Kd.C Kd.string w A0_0 l0_0.length l0_0) (hc0_0 : l0_0.length ≤ c0_0) (hr0_1 : Kd.C Kd.string w A0_1 l0_1.length l0_1) (hc0_1 : l0_1.length ≤ c0_1) (hr0_2 : Kd.C k42 w A0_2 l0_2.length l0_2) (hc0_2 : l0_2.length ≤ c0_2) (hr1 : Kd.C k50 w A1 l1.length l1) (hc1 : l1.length ≤ c1) (h : zdp.f k l0_0 l0_1 l0_2 l1 = some r) :
  Calls Tryz.prog 20 #[.agg #[.slice A0_0 l0_0.length c0_0, .slice A0_1 l0_1.length c0_1, .slice A0_2 l0_2.length c0_2], .slice A1 l1.length c1] w fun e w' => ∃ v0_ : Value, e = .returned v0_ ∧ Kd.R k50 50 w' w.heap.size (fun _ => True) v0_ r ∧ Below w.heap.size w w' := by
 unfold zdp.f at h
 split at h
 case isFalse => cases h
 rename_i hok
 obtain ⟨q, hq, h⟩ := Option.bind_eq_some_iff.mp h
 obtain ⟨r', hr, h⟩ := Option.bind_eq_some_iff.mp h
 obtain rfl := Option.some.inj h
 have hl : (l0_2.map prE).length = l0_2.length := by simp
 have hl1 : (l1.map lrT).length = l1.length := by simp
 have hc := LStep.zjt (⟨A0_0, A0_1, A0_2, c0_0, c0_1, c0_2, l0_0, l0_1, l0_2.map prE⟩ : LFlat.FG) w (fg_K hr0_0 hc0_0 hr0_1 hc0_1 hr0_2 hc0_2) k q.1 q.2 (rdy_of hok.1 (by rw [hl]; exact hok.2.1) hq) (l1.map lrT) A1 c1 (by rw [hl1]; exact C_kLr hr1) (lrsOk_of hok.2.2) r' hr
 simp only [LFlat.FG.val, LFlat.FG.row, hl, hl1] at hc
 refine hc.mono ?_
 rintro e w' ⟨v, rfl, hR, hB⟩
 exact ⟨v, rfl, R_kLr hR, hB⟩
def zbv.l0 : Nat → Int → List Int → Int → List ByteArray → List ByteArray → List (S42) → Option (List Int)
 | 0, _, _, _, _, _, _ => none
 | k + 1, x1, x5, x6, x138000, x138001, x138002 => if x6 < (x138002.length : Int) then (if 0 ≤ x6 then (if ((zaf x138002 x6).f0) = x1 then (if x5.length < 17592186044416 then (zbv.l0 k x1 (x5 ++ [x6]) (wrap64 (x6 + 1)) x138000 x138001 x138002) else (none)) else (zbv.l0 k x1 x5 (wrap64 (x6 + 1)) x138000 x138001 x138002)) else (none)) else (some x5)
def zbv.f (k : Nat) (l0_0 : List ByteArray) (l0_1 : List ByteArray) (l0_2 : List (S42)) (a1 : Int) : Option (List Int) := zbv.l0 k a1 ([] : List Int) 0 l0_0 l0_1 l0_2
theorem zbv.calls (k : Nat) (A0_0 : Option Addr) (c0_0 : Nat) (l0_0 : List ByteArray) (A0_1 : Option Addr) (c0_1 : Nat) (l0_1 : List ByteArray) (A0_2 : Option Addr) (c0_2 : Nat) (l0_2 : List (S42)) (a1 : Int) (r : List Int) (w : World) (hr0_0 : Kd.C Kd.string w A0_0 l0_0.length l0_0) (hc0_0 : l0_0.length ≤ c0_0) (hr0_1 : Kd.C Kd.string w A0_1 l0_1.length l0_1) (hc0_1 : l0_1.length ≤ c0_1) (hr0_2 : Kd.C k42 w A0_2 l0_2.length l0_2) (hc0_2 : l0_2.length ≤ c0_2) (h : zbv.f k l0_0 l0_1 l0_2 a1 = some r) :
  Calls Tryz.prog 12 #[.agg #[.slice A0_0 l0_0.length c0_0, .slice A0_1 l0_1.length c0_1, .slice A0_2 l0_2.length c0_2], .int .i64 a1] w fun e w' => ∃ v0_ : Value, e = .returned (v0_) ∧ Kd.R (Kd.int .i64) 3 w' w.heap.size (fun _ => True) v0_ r ∧ Below w.heap.size w w' := by
 have hu25 := Tryz.underlying25
 have HR0_0 := zaa.mk hr0_0;have HC0_0 := zaa.mk hc0_0;clear hr0_0 hc0_0;have HR0_1 := zaa.mk hr0_1;have HC0_1 := zaa.mk hc0_1;clear hr0_1 hc0_1;have HR0_2 := zaa.mk hr0_2;have HC0_2 := zaa.mk hc0_2;clear hr0_2 hc0_2
 have HB := zaa.mk (Below.refl w.heap.size w)
 have H : (zbv.l0 k a1 ([] : List Int) 0 l0_0 l0_1 l0_2) = some r := h
 clear h
 have H' := zaa.mk H
 clear H
 go_enter Tryz.func12, Tryz.ntmps12
 go_wp2_with (first | ((with_reducible refine zau (N := 2) rfl ?_); refine Ybx 2 #[.slice A0_0 l0_0.length c0_0, .slice A0_1 l0_1.length c0_1, .slice A0_2 l0_2.length c0_2] 25 ?_; intro gb137 hg w3 hbox hb; obtain ⟨BK137, GW137, GE137, HB⟩ := Yb4 hbox hg hb Ybe; clear hb hbox hg))
 go_loopg [5, 6] k (fun kq v5 v6 w' => ∃ (x5_1 : List Int) (x6_1 : Int), v6 = .int .i64 x6_1 ∧ zaa (zbv.l0 kq a1 x5_1 x6_1 l0_0 l0_1 l0_2 = some r) ∧ zaa (kq ≤ k) ∧ zaa (Kd.R (Kd.int .i64) 3 w' w.heap.size (fun _ => True) v5 x5_1) ∧ zaa (w'.heap[gb137]? = some (.cells #[(.slice A0_0 l0_0.length c0_0), (.slice A0_1 l0_1.length c0_1), (.slice A0_2 l0_2.length c0_2)] 25 (0, 0))) ∧ zaa (Below w.heap.size w w'))
 case atStart => exact ⟨(([] : List Int)), (0), Yfs, H', ⟨Nat.le_refl _⟩, ⟨by first | exact Kd.zdr _ _ _ _ _ | exact Kd.N_nil _ _ _ _ _ | exact Kd.V_nil _ _ _ _ _ | exact Kd.Q_nil _ _ _ _ _ | exact Kd.S_nil _ _ _ _ _⟩, ⟨Yg BK137⟩, ⟨Yb_PItemTellsx6_0⟩⟩
 case round =>
  clear H'
  obtain ⟨x5_1, x6_1, rfl, HA, HK1, HO_5, BK137, HB⟩ := hrel
  cases gk with
  | zero => exact absurd HA.out (by simp [zbv.l0])
  | succ k1 =>
   have H := HA.out;clear HA
   simp only [zbv.l0] at H
   by_cases c4 : x6_1 < (l0_2.length : Int)
   ·rw [if_pos c4] at H
    have c4b0 := decide_eq_true c4
    clear c4
    by_cases c5 : 0 ≤ x6_1
    ·rw [if_pos c5] at H
     have c5b0 := decide_eq_true c5
     clear c5
     by_cases c6 : ((zaf l0_2 x6_1).f0) = a1
     ·rw [if_pos c6] at H
      have c6b0 : (((zaf l0_2 x6_1).f0) == a1) = true := beq_iff_eq.mpr c6
      have c6b1 : (((zaf l0_2 x6_1).f0) != a1) = false := bne_eq_false_iff_eq.mpr c6
      clear c6
      by_cases c7 : x5_1.length < 17592186044416
      ·rw [if_pos c7] at H
       have LMc7 := zaa.mk c7;clear c7
       obtain ⟨y139, hy139⟩ : ∃ y_ : List Int, y_ = (x5_1 ++ [x6_1]) := ⟨_, rfl⟩
       replace H : (zbv.l0 k1 a1 y139 (wrap64 (x6_1 + 1)) l0_0 l0_1 l0_2) = some r := by first | (rw [hy139]; with_reducible exact H) | (have H2_ := (Option.bind_some _ _).symm.trans H; rw [hy139]; with_reducible exact H2_) | (have H2_ := (Option.bind_some _ _).symm.trans H; with_reducible exact H2_) | with_reducible exact H | (rw [hy139]; exact H) | exact H
       have Ny139 := zaa.mk hy139;clear hy139
       have H' := zaa.mk H
       clear H
       obtain ⟨hcz8_0, hfz8_0, hcz8_1, hfz8_1, hcz8_2, hfz8_2⟩ := Yc3 BK137.out
       have p138 : 0 ≤ (x6_1 : Int) := Yod
       have q138 : x6_1 < (l0_2.length : Int) := Yod
       obtain ⟨ad138, A138_1, c138_1, e138, hx138_0, hx138_1, hx138_2, hl138_1, hi138_1⟩ := zdf HR0_2.out x6_1 p138 q138
       cases e138
       replace hx138_0 := zad HB.out hx138_0
       replace hx138_1 := zad HB.out hx138_1
       replace hx138_2 := zad HB.out hx138_2
       have HR138_1 := zaa.mk hi138_1;have HC138_1 := zaa.mk hl138_1;clear hi138_1 hl138_1
       replace p138 := eq_true p138
       replace q138 := eq_true q138
       go_wp2_with (first | ((with_reducible refine zca (b := .append) (xs := #[.tmp 22, .tmp 24]) rfl ?_); at_builtin; refine Kd.zdd (Kd.int .i64) (w0 := w) w.heap.size rfl (.tmp 22) (.tmp 24) 35 3 (.int .i64 0) 8 rfl Tryz.underlying35 info3 rfl (by decide) (by omega) u5 x5_1 x6_1 [.int .i64 x6_1] (fun _ => True) (fun _ => False) rfl rfl ?aP (fun _ hk => hk.elim) ?aF ?aO ?aB ?aS ?aL ?_; (case aP => exact rfl); (case aB => exact Yb_PItemTellsx6_0); (case aF => exact (fun _ _ => trivial)); (case aO => exact (Yr HO_5)); (case aS => exact (za8 Yb_PItemTellsx6_0)); (case aL => have := LMc7.out; omega); intro v140 w9 ho hb hg hat; rw [← Ny139.out] at ho; replace BK137 := zaa.mk (zcc (g := gb137) (o := .cells #[.slice A0_0 l0_0.length c0_0, .slice A0_1 l0_1.length c0_1, .slice (some ad138) l0_2.length c0_2] 25 (0, 0)) (Yg BK137) hg (Kd.R_ne HO_5.out BK137.out (by decide))); replace HB := zaa.mk (hb); have HO141 := zaa.mk (ho); clear HO_5; clear ho hb hg hat))
       go_roundg k1
       case measure => have := HK1.out; omega
       case rel => exact ⟨(y139), (wrap64 (x6_1 + 1)), Yfs, H', ⟨by have := HK1.out; omega⟩, ⟨Yr HO141⟩, ⟨Yg BK137⟩, ⟨Yb_PItemTellsx6_0⟩⟩
      ·rw [if_neg c7] at H
       exact absurd H (by simp)
     ·rw [if_neg c6] at H
      have c6b0 : (((zaf l0_2 x6_1).f0) == a1) = false := beq_eq_false_iff_ne.mpr c6
      have c6b1 : (((zaf l0_2 x6_1).f0) != a1) = true := bne_iff_ne.mpr c6
      have H' := zaa.mk H
      clear H
      obtain ⟨hcz10_0, hfz10_0, hcz10_1, hfz10_1, hcz10_2, hfz10_2⟩ := Yc3 BK137.out
      have p138 : 0 ≤ (x6_1 : Int) := Yod
      have q138 : x6_1 < (l0_2.length : Int) := Yod
      obtain ⟨ad138, A138_1, c138_1, e138, hx138_0, hx138_1, hx138_2, hl138_1, hi138_1⟩ := zdf HR0_2.out x6_1 p138 q138
      cases e138
      replace hx138_0 := zad HB.out hx138_0
      replace hx138_1 := zad HB.out hx138_1
      replace hx138_2 := zad HB.out hx138_2
      have HR138_1 := zaa.mk hi138_1;have HC138_1 := zaa.mk hl138_1;clear hi138_1 hl138_1
      replace p138 := eq_true p138
      replace q138 := eq_true q138
      go_wp2
      go_roundg k1
      case measure => have := HK1.out; omega
      case rel => exact ⟨(x5_1), (wrap64 (x6_1 + 1)), Yfs, H', ⟨by have := HK1.out; omega⟩, ⟨Yr HO_5⟩, ⟨Yg BK137⟩, ⟨Yb_PItemTellsx6_0⟩⟩
    ·rw [if_neg c5] at H
     exact absurd H (by simp)
   ·rw [if_neg c4] at H
    have c4b0 := decide_eq_false c4
    clear c4;obtain rfl := Option.some.inj H
    obtain ⟨hcz11_0, hfz11_0, hcz11_1, hfz11_1, hcz11_2, hfz11_2⟩ := Yc3 BK137.out
    go_wp2;go_ret
    exact ⟨_, by first | rfl | (simp [errW_none, errW_some] <;> rfl) | (simp [*, errW_none, errW_some] <;> rfl), by (with_reducible repeat (first | apply Kd.R_alloc | apply Kd.zb0 | apply Kd.zbn)); exact HO_5.out, Yb_PItemTellsx6_0⟩
def zcx.f (l0_0 : List ByteArray) (l0_1 : List ByteArray) (l0_2 : List (S42)) : Option (Int) := some (wrap64 ((l0_0.length : Int) + (l0_1.length : Int)))
theorem zcx.calls (A0_0 : Option Addr) (c0_0 : Nat) (l0_0 : List ByteArray) (A0_1 : Option Addr) (c0_1 : Nat) (l0_1 : List ByteArray) (A0_2 : Option Addr) (c0_2 : Nat) (l0_2 : List (S42)) (r : Int) (w : World) (hr0_0 : Kd.C Kd.string w A0_0 l0_0.length l0_0) (hc0_0 : l0_0.length ≤ c0_0) (hr0_1 : Kd.C Kd.string w A0_1 l0_1.length l0_1) (hc0_1 : l0_1.length ≤ c0_1) (hr0_2 : Kd.C k42 w A0_2 l0_2.length l0_2) (hc0_2 : l0_2.length ≤ c0_2) (h : zcx.f l0_0 l0_1 l0_2 = some r) :
  Calls Tryz.prog 34 #[.agg #[.slice A0_0 l0_0.length c0_0, .slice A0_1 l0_1.length c0_1, .slice A0_2 l0_2.length c0_2]] w fun e w' => e = .returned (.int .i64 r) ∧ Below w.heap.size w w' := by
 have hu25 := Tryz.underlying25
 have HR0_0 := zaa.mk hr0_0;have HC0_0 := zaa.mk hc0_0;clear hr0_0 hc0_0;have HR0_1 := zaa.mk hr0_1;have HC0_1 := zaa.mk hc0_1;clear hr0_1 hc0_1;have HR0_2 := zaa.mk hr0_2;have HC0_2 := zaa.mk hc0_2;clear hr0_2 hc0_2
 have HB := zaa.mk (Below.refl w.heap.size w)
 have H : (some (wrap64 ((l0_0.length : Int) + (l0_1.length : Int)))) = some r := h
 clear h;obtain rfl := Option.some.inj H
 go_enter Tryz.func34, Tryz.ntmps34
 go_wp2_with (first | ((with_reducible refine zau (N := 1) rfl ?_); refine Ybx 1 #[.slice A0_0 l0_0.length c0_0, .slice A0_1 l0_1.length c0_1, .slice A0_2 l0_2.length c0_2] 25 ?_; intro gb142 hg w2 hbox hb; obtain ⟨BK142, GW142, GE142, HB⟩ := Yb4 hbox hg hb Ybe; clear hb hbox hg; obtain ⟨hcz3_0, hfz3_0, hcz3_1, hfz3_1, hcz3_2, hfz3_2⟩ := Yc3 BK142.out))
 go_ret
 exact ⟨Yfi, (by repeat (first | (with_reducible first | exact HB.out | apply za2 | apply zav | apply zas | refine za6 ?_ GE142.out) | exact HB.out))⟩
mutual
def zan.l0 : Nat → List Bool → Bool → List ByteArray → List ByteArray → List (S42) → Option (List Bool)
 | 0, _, _, _, _, _ => none
 | k + 1, x3, x4, x144000, x144001, x144002 => if x4 = true then (zan.l1 k x3 false 0 x144000 x144001 x144002) else (some x3)
def zan.l1 : Nat → List Bool → Bool → Int → List ByteArray → List ByteArray → List (S42) → Option (List Bool)
 | 0, _, _, _, _, _, _ => none
 | k + 1, x3, x4, x5, x144000, x144001, x144002 => if x5 < (x144002.length : Int) then (if 0 ≤ x5 then (if 0 ≤ ((zaf x144002 x5).f0) then (if ((zaf x144002 x5).f0) < (x3.length : Int) then (zan.l2 k x3 x4 x5 (!(rdOf false x3 ((zaf x144002 x5).f0))) 0 x144000 x144001 x144002 ((zaf x144002 x5).f0) ((zaf x144002 x5).f1) ((zaf x144002 x5).f2)) else (none)) else (none)) else (none)) else (zan.l0 k x3 x4 x144000 x144001 x144002)
def zan.l2 : Nat → List Bool → Bool → Int → Bool → Int → List ByteArray → List ByteArray → List (S42) → Int → List (S44) → Int → Option (List Bool)
 | 0, _, _, _, _, _, _, _, _, _, _, _ => none
 | k + 1, x3, x4, x5, x7, x8, x144000, x144001, x144002, x150000, x150001, x150002 => if x8 < (x150001.length : Int) then (if x7 = true then (if 0 ≤ x8 then (if 0 ≤ ((za3 x150001 x8).f0) then (if ((za3 x150001 x8).f0) < (x3.length : Int) then (zan.l2 k x3 x4 x5 (rdOf false x3 ((za3 x150001 x8).f0)) (wrap64 (x8 + 1)) x144000 x144001 x144002 x150000 x150001 x150002) else (none)) else (none)) else (none)) else (zan.l2 k x3 x4 x5 false (wrap64 (x8 + 1)) x144000 x144001 x144002 x150000 x150001 x150002)) else (if x7 = true then (if 0 ≤ x150000 then (if x150000 < (x3.length : Int) then (zan.l1 k (x3.set (x150000 : Int).toNat true) true (wrap64 (x5 + 1)) x144000 x144001 x144002) else (none)) else (none)) else (zan.l1 k x3 x4 (wrap64 (x5 + 1)) x144000 x144001 x144002))
end
def zan.f (k : Nat) (l0_0 : List ByteArray) (l0_1 : List ByteArray) (l0_2 : List (S42)) : Option (List Bool) := (zcx.f l0_0 l0_1 l0_2).bind fun t144 => (if 0 ≤ t144 then (if (t144 : Int).toNat ≤ 281474976710656 then (zan.l0 k (List.replicate (t144 : Int).toNat false) true l0_0 l0_1 l0_2) else (none)) else (none))
theorem zan.calls (k : Nat) (A0_0 : Option Addr) (c0_0 : Nat) (l0_0 : List ByteArray) (A0_1 : Option Addr) (c0_1 : Nat) (l0_1 : List ByteArray) (A0_2 : Option Addr) (c0_2 : Nat) (l0_2 : List (S42)) (r : List Bool) (w : World) (hr0_0 : Kd.C Kd.string w A0_0 l0_0.length l0_0) (hc0_0 : l0_0.length ≤ c0_0) (hr0_1 : Kd.C Kd.string w A0_1 l0_1.length l0_1) (hc0_1 : l0_1.length ≤ c0_1) (hr0_2 : Kd.C k42 w A0_2 l0_2.length l0_2) (hc0_2 : l0_2.length ≤ c0_2) (h : zan.f k l0_0 l0_1 l0_2 = some r) :
  Calls Tryz.prog 39 #[.agg #[.slice A0_0 l0_0.length c0_0, .slice A0_1 l0_1.length c0_1, .slice A0_2 l0_2.length c0_2]] w fun e w' => ∃ v0_ : Value, e = .returned (v0_) ∧ Kd.R Kd.bool 4 w' w.heap.size (fun _ => True) v0_ r ∧ Below w.heap.size w w' := by
 have hu25 := Tryz.underlying25
 have hu42 := Tryz.underlying42
 have HR0_0 := zaa.mk hr0_0;have HC0_0 := zaa.mk hc0_0;clear hr0_0 hc0_0;have HR0_1 := zaa.mk hr0_1;have HC0_1 := zaa.mk hc0_1;clear hr0_1 hc0_1;have HR0_2 := zaa.mk hr0_2;have HC0_2 := zaa.mk hc0_2;clear hr0_2 hc0_2
 have HB := zaa.mk (Below.refl w.heap.size w)
 have H : ((zcx.f l0_0 l0_1 l0_2).bind fun t144 => (if 0 ≤ t144 then (if (t144 : Int).toNat ≤ 281474976710656 then (zan.l0 k (List.replicate (t144 : Int).toNat false) true l0_0 l0_1 l0_2) else (none)) else (none))) = some r := h
 clear h;replace H := Option.bind_eq_some_iff.mp H
 obtain ⟨t144, A20, H⟩ := H
 replace H : (if 0 ≤ t144 then (if (t144 : Int).toNat ≤ 281474976710656 then (zan.l0 k (List.replicate (t144 : Int).toNat false) true l0_0 l0_1 l0_2) else (none)) else (none)) = some r := H
 have A2 := zaa.mk A20;clear A20
 by_cases c3 : 0 ≤ t144
 ·rw [if_pos c3] at H
  have c3b0 := eq_true c3
  have c3b1 := decide_eq_true c3
  clear c3
  by_cases c4 : (t144 : Int).toNat ≤ 281474976710656
  ·rw [if_pos c4] at H
   have c4b0 := eq_true c4
   have c4b1 := decide_eq_true c4
   clear c4
   obtain ⟨y145, hy145⟩ : ∃ y_ : List Bool, y_ = (List.replicate (t144 : Int).toNat false) := ⟨_, rfl⟩
   replace H : (zan.l0 k y145 true l0_0 l0_1 l0_2) = some r := by first | (rw [hy145]; with_reducible exact H) | (have H2_ := (Option.bind_some _ _).symm.trans H; rw [hy145]; with_reducible exact H2_) | (have H2_ := (Option.bind_some _ _).symm.trans H; with_reducible exact H2_) | with_reducible exact H | (rw [hy145]; exact H) | exact H
   have Ny145 := zaa.mk hy145;clear hy145
   have H' := zaa.mk H
   clear H
   go_enter Tryz.func39, Tryz.ntmps39
   go_wp2_with (first | ((with_reducible refine zau (N := 1) rfl ?_); refine Ybx 1 #[.slice A0_0 l0_0.length c0_0, .slice A0_1 l0_1.length c0_1, .slice A0_2 l0_2.length c0_2] 25 ?_; intro gb143 hg w5 hbox hb; obtain ⟨BK143, GW143, GE143, HB⟩ := Yb4 hbox hg hb Ybe; clear hb hbox hg; obtain ⟨hcz6_0, hfz6_0, hcz6_1, hfz6_1, hcz6_2, hfz6_2⟩ := Yc3 BK143.out) | ((with_reducible refine zbm (f := 34) rfl ?_); refine Ygl (some 10) Tryz.func34 #[.agg #[.slice A0_0 l0_0.length c0_0, .slice A0_1 l0_1.length c0_1, .slice A0_2 l0_2.length c0_2]] ?_; (with_reducible refine (zcx.calls _ _ l0_0 _ _ l0_1 _ _ l0_2 t144 _ (Kd.zak HR0_0.out Ybe) HC0_0.out (Kd.zak HR0_1.out Ybe) HC0_1.out (Kd.zak HR0_2.out Ybe) HC0_2.out A2.out).mono ?_); rintro e w7 ⟨rfl, hb⟩; refine ⟨_, rfl, ?_⟩; replace BK143 := Ykb BK143 hb; replace HB := zaa.mk (zay Yb_PItemTellsx6_1 hb); (try clear hb); (try clear hb2); (try clear hk); (try clear hi)) | ((with_reducible refine zau (N := 11) rfl ?_); refine Kd.R_make Kd.bool _ 4 rfl (N := 11) rfl 36 _ _ rfl t144 rfl rfl Tryz.underlying36 (.bool false) 1 info4 rfl (by decide) (by omega) false (ok := fun _ => True) (okp := fun _ => True) rfl (fun _ hk => hk) trivial (of_decide_eq_true (by first | (with_reducible assumption) | assumption)) (Nat.le_trans (Nat.mul_le_mul_right _ (of_decide_eq_true (by first | (with_reducible assumption) | assumption) : t144.toNat ≤ 281474976710656)) (by omega)) (Below.refl _ _) (Nat.le_refl _) ?_; intro v146 w8 ho9 hb hg_ hnew_; clear hg_ hnew_; (first | rw [← Ny145.out] at ho9 | (simp only [Int.reduceToNat] at ho9; rw [← Ny145.out] at ho9)); have HO147 := zaa.mk (Kd.zbz ho9 (za8 Yb_PItemTellsx6_1)); replace BK143 := Ykb BK143 hb; replace HB := zaa.mk (zay Yb_PItemTellsx6_1 hb); clear hb ho9))
   go_loopg [4] k (fun kq v4 w' => ∃ (x3_1 : List Bool) (x4_1 : Bool), v4 = .bool x4_1 ∧ zaa (zan.l0 kq x3_1 x4_1 l0_0 l0_1 l0_2 = some r) ∧ zaa (kq ≤ k) ∧ zaa (Kd.R Kd.bool 4 w' w.heap.size (fun _ => True) v146 x3_1) ∧ zaa (w'.heap[gb143]? = some (.cells #[(.slice A0_0 l0_0.length c0_0), (.slice A0_1 l0_1.length c0_1), (.slice A0_2 l0_2.length c0_2)] 25 (0, 0))) ∧ zaa (Below w.heap.size w w'))
   case atStart => exact ⟨(y145), (true), Yfs, H', ⟨Nat.le_refl _⟩, ⟨Yr HO147⟩, ⟨Yg BK143⟩, ⟨Yb_PItemTellsx6_1⟩⟩
   case round =>
    clear H'
    obtain ⟨x3_1, x4_1, rfl, HA, HK1, HO_3, BK143, HB⟩ := hrel
    cases gk with
    | zero => exact absurd HA.out (by simp [zan.l0])
    | succ k1 =>
     have H := HA.out;clear HA
     simp only [zan.l0] at H
     by_cases c10 : x4_1 = true
     ·subst c10
      have H1 : (zan.l1 k1 x3_1 false 0 l0_0 l0_1 l0_2) = some r := by rw [if_pos rfl] at H; exact H
      clear H;have H := H1;clear H1
      have H' := zaa.mk H
      clear H;go_wp2
      go_loopg [4, 5] k1 (fun kq v4 v5 w' => ∃ (x3_2 : List Bool) (x4_2 : Bool) (x5_2 : Int), v4 = .bool x4_2 ∧ v5 = .int .i64 x5_2 ∧ zaa (zan.l1 kq x3_2 x4_2 x5_2 l0_0 l0_1 l0_2 = some r) ∧ zaa (kq ≤ k1) ∧ zaa (Kd.R Kd.bool 4 w' w.heap.size (fun _ => True) v146 x3_2) ∧ zaa (w'.heap[gb143]? = some (.cells #[(.slice A0_0 l0_0.length c0_0), (.slice A0_1 l0_1.length c0_1), (.slice A0_2 l0_2.length c0_2)] 25 (0, 0))) ∧ zaa (Below w.heap.size w w'))
      case atStart => exact ⟨(x3_1), (false), (0), Yfs, Yfs, H', ⟨Nat.le_refl _⟩, ⟨Yr HO_3⟩, ⟨Yg BK143⟩, ⟨Yb_PItemTellsx6_1⟩⟩
      case round =>
       clear H'
       obtain ⟨x3_2, x4_2, x5_2, rfl, rfl, HA, HK2, HO_3, BK143, HB⟩ := hrel
       cases gk with
       | zero => exact absurd HA.out (by simp [zan.l1])
       | succ k2 =>
        have H := HA.out;clear HA
        simp only [zan.l1] at H
        by_cases c11 : x5_2 < (l0_2.length : Int)
        ·rw [if_pos c11] at H
         have c11b0 := decide_eq_true c11
         clear c11
         by_cases c12 : 0 ≤ x5_2
         ·rw [if_pos c12] at H
          have c12b0 := decide_eq_true c12
          clear c12
          by_cases c13 : 0 ≤ ((zaf l0_2 x5_2).f0)
          ·rw [if_pos c13] at H
           have c13b0 := decide_eq_true c13
           clear c13
           by_cases c14 : ((zaf l0_2 x5_2).f0) < (x3_2.length : Int)
           ·rw [if_pos c14] at H
            have c14b0 := decide_eq_true c14
            clear c14
            have H' := zaa.mk H
            clear H
            obtain ⟨hcz15_0, hfz15_0, hcz15_1, hfz15_1, hcz15_2, hfz15_2⟩ := Yc3 BK143.out
            have p148 : 0 ≤ (x5_2 : Int) := Yod
            have q148 : x5_2 < (l0_2.length : Int) := Yod
            obtain ⟨ad148, A148_1, c148_1, e148, hx148_0, hx148_1, hx148_2, hl148_1, hi148_1⟩ := zdf HR0_2.out x5_2 p148 q148
            cases e148
            replace hx148_0 := zad HB.out hx148_0
            replace hx148_1 := zad HB.out hx148_1
            replace hx148_2 := zad HB.out hx148_2
            have HR148_1 := zaa.mk hi148_1;have HC148_1 := zaa.mk hl148_1;clear hi148_1 hl148_1
            replace p148 := eq_true p148
            replace q148 := eq_true q148
            go_wp2_with (first | ((with_reducible refine zau (N := 6) rfl ?_); refine Ybx 6 #[.int .i64 0, .slice none 0 0, .int .i64 0] 42 ?_; intro gb149 hg w16 hbox hb; replace HO_3 := zaa.mk (Kd.zbc (Yr HO_3) hb); obtain ⟨BK149, GW149, GE149, HB⟩ := Yb4 hbox hg hb Yb_PItemTellsx6_1; have NB143_149 := Ynl BK143 hg; have NB149_143 := Yng BK143 hg; replace BK143 := Ykb BK143 hb; clear hb hbox hg; have hnb17 := NB149_143.out; have hnc17 := NB143_149.out; obtain ⟨hcz18_0, hfz18_0, hcz18_1, hfz18_1, hcz18_2, hfz18_2⟩ := Yc3 BK149.out; obtain ⟨Ao19, co19, eo19⟩ := Kd.zbj HO_3.out; subst eo19; have p150 : 0 ≤ (((zaf l0_2 x5_2).f0) : Int) := Yod; have q150 : ((zaf l0_2 x5_2).f0) < (x3_2.length : Int) := Yod; obtain ⟨ad150, e150, hx150_0⟩ := Kd.zf5 (Kd.R_reads' HO_3.out).2.2 ((zaf l0_2 x5_2).f0) p150 q150; cases e150; have hn150_0 : ad150.block ≠ gb149 := Kd.zib (Kd.R_ne HO_3.out BK149.out (by decide)); have hn150_1 : ad150.block ≠ gb149 := Kd.zib (Kd.R_ne HO_3.out BK149.out (by decide)); have hn150_2 : ad150.block ≠ gb149 := Kd.zib (Kd.R_ne HO_3.out BK149.out (by decide)); replace hx150_0 := Ycf ⟨gb149, 0, none⟩ (.int .i64 ((zaf l0_2 x5_2).f0)) hn150_0 hx150_0; replace hx150_0 := Ycf ⟨gb149, 1, none⟩ (.slice A148_1 ((zaf l0_2 x5_2).f1).length c148_1) hn150_1 hx150_0; replace hx150_0 := Ycf ⟨gb149, 2, none⟩ (.int .i64 ((zaf l0_2 x5_2).f2)) hn150_2 hx150_0; clear hn150_0; clear hn150_1; clear hn150_2; replace p150 := eq_true p150; replace q150 := eq_true q150))
            go_loopg [7, 8] k2 (fun kq v7 v8 w' => ∃ (x7_3 : Bool) (x8_3 : Int), v7 = .bool x7_3 ∧ v8 = .int .i64 x8_3 ∧ zaa (zan.l2 kq x3_2 x4_2 x5_2 x7_3 x8_3 l0_0 l0_1 l0_2 ((zaf l0_2 x5_2).f0) ((zaf l0_2 x5_2).f1) ((zaf l0_2 x5_2).f2) = some r) ∧ zaa (kq ≤ k2) ∧ zaa (Kd.R Kd.bool 4 w' w.heap.size (fun _ => True) (.slice (some ad150) x3_2.length co19) x3_2) ∧ zaa (w'.heap[gb143]? = some (.cells #[(.slice A0_0 l0_0.length c0_0), (.slice A0_1 l0_1.length c0_1), (.slice (some ad148) l0_2.length c0_2)] 25 (0, 0))) ∧ zaa (w'.heap[gb149]? = some (.cells #[.int .i64 ((zaf l0_2 x5_2).f0), (.slice A148_1 ((zaf l0_2 x5_2).f1).length c148_1), .int .i64 ((zaf l0_2 x5_2).f2)] 42 (0, 0))) ∧ zaa (Below w.heap.size w w'))
            case atStart => exact ⟨(!(rdOf false x3_2 ((zaf l0_2 x5_2).f0))), (0), Yfs, Yfs, H', ⟨Nat.le_refl _⟩, ⟨by (with_reducible repeat (first | apply Kd.R_alloc | apply Kd.zb0 | apply Kd.zbn)); exact Kd.zba (Kd.zdg (p := ⟨gb149, 2, none⟩) (Kd.zdg (p := ⟨gb149, 1, none⟩) (Kd.zdg (p := ⟨gb149, 0, none⟩) (Kd.zgy HO_3.out BK149.out (by decide)) (fun _ hk => hk.2) (.int .i64 ((zaf l0_2 x5_2).f0))) (fun _ hk => hk.2) (.slice A148_1 ((zaf l0_2 x5_2).f1).length c148_1)) (fun _ hk => hk.2) (.int .i64 ((zaf l0_2 x5_2).f2))) (fun _ hk => trivial)⟩, ⟨by (with_reducible repeat (first | refine zam ?_ _ | refine zah ?_ | refine zaj ?_ _)); refine zbg ?_ NB143_149.out _; (with_reducible repeat (first | refine zam ?_ _ | refine zah ?_ | refine zaj ?_ _)); refine zbg ?_ NB143_149.out _; (with_reducible repeat (first | refine zam ?_ _ | refine zah ?_ | refine zaj ?_ _)); refine zbg ?_ NB143_149.out _; (with_reducible repeat (first | refine zam ?_ _ | refine zah ?_ | refine zaj ?_ _)); exact BK143.out⟩, ⟨by (with_reducible repeat (first | refine zam ?_ _ | refine zah ?_ | refine zaj ?_ _)); refine zbu (cs := #[.int .i64 ((zaf l0_2 x5_2).f0), .slice A148_1 ((zaf l0_2 x5_2).f1).length c148_1, .int .i64 0]) ?_ 2 _ rfl; (with_reducible repeat (first | refine zam ?_ _ | refine zah ?_ | refine zaj ?_ _)); refine zbu (cs := #[.int .i64 ((zaf l0_2 x5_2).f0), .slice none 0 0, .int .i64 0]) ?_ 1 _ rfl; (with_reducible repeat (first | refine zam ?_ _ | refine zah ?_ | refine zaj ?_ _)); refine zbu (cs := #[.int .i64 0, .slice none 0 0, .int .i64 0]) ?_ 0 _ rfl; (with_reducible repeat (first | refine zam ?_ _ | refine zah ?_ | refine zaj ?_ _)); exact BK149.out⟩, ⟨Yb_PItemTellsx6_2⟩⟩
            case round =>
             clear H'
             obtain ⟨x7_3, x8_3, rfl, rfl, HA, HK3, HO_3, BK143, BK149, HB⟩ := hrel
             cases gk with
             | zero => exact absurd HA.out (by simp [zan.l2])
             | succ k3 =>
              have H := HA.out;clear HA
              simp only [zan.l2] at H
              by_cases c20 : x8_3 < (((zaf l0_2 x5_2).f1).length : Int)
              ·rw [if_pos c20] at H
               have c20b0 := decide_eq_true c20
               clear c20
               by_cases c21 : x7_3 = true
               ·subst c21
                have H1 : (if 0 ≤ x8_3 then (if 0 ≤ ((za3 ((zaf l0_2 x5_2).f1) x8_3).f0) then (if ((za3 ((zaf l0_2 x5_2).f1) x8_3).f0) < (x3_2.length : Int) then (zan.l2 k3 x3_2 x4_2 x5_2 (rdOf false x3_2 ((za3 ((zaf l0_2 x5_2).f1) x8_3).f0)) (wrap64 (x8_3 + 1)) l0_0 l0_1 l0_2 ((zaf l0_2 x5_2).f0) ((zaf l0_2 x5_2).f1) ((zaf l0_2 x5_2).f2)) else (none)) else (none)) else (none)) = some r := by rw [if_pos rfl] at H; exact H
                clear H;have H := H1;clear H1
                by_cases c22 : 0 ≤ x8_3
                ·rw [if_pos c22] at H
                 have c22b0 := decide_eq_true c22
                 clear c22
                 by_cases c23 : 0 ≤ ((za3 ((zaf l0_2 x5_2).f1) x8_3).f0)
                 ·rw [if_pos c23] at H
                  have c23b0 := decide_eq_true c23
                  clear c23
                  by_cases c24 : ((za3 ((zaf l0_2 x5_2).f1) x8_3).f0) < (x3_2.length : Int)
                  ·rw [if_pos c24] at H
                   have c24b0 := decide_eq_true c24
                   clear c24
                   have H' := zaa.mk H
                   clear H
                   have hnb25 := NB149_143.out
                   have hnc25 := NB143_149.out
                   obtain ⟨hcz26_0, hfz26_0, hcz26_1, hfz26_1, hcz26_2, hfz26_2⟩ := Yc3 BK149.out
                   have p151 : 0 ≤ (x8_3 : Int) := Yod
                   have q151 : x8_3 < (((zaf l0_2 x5_2).f1).length : Int) := Yod
                   obtain ⟨ad151, e151, hx151_0, hx151_1, hx151_2⟩ := zej HR148_1.out x8_3 p151 q151
                   cases e151
                   replace hx151_0 := zad HB.out hx151_0
                   replace hx151_1 := zad HB.out hx151_1
                   replace hx151_2 := zad HB.out hx151_2
                   replace p151 := eq_true p151
                   replace q151 := eq_true q151
                   have p152 : 0 ≤ (((za3 ((zaf l0_2 x5_2).f1) x8_3).f0) : Int) := Yod
                   have q152 : ((za3 ((zaf l0_2 x5_2).f1) x8_3).f0) < (x3_2.length : Int) := Yod
                   obtain ⟨ad152, e152, hx152_0⟩ := Kd.zf5 (Kd.R_reads' HO_3.out).2.2 ((za3 ((zaf l0_2 x5_2).f1) x8_3).f0) p152 q152
                   obtain rfl : ad150 = ad152 := (by injection e152)
                   replace p152 := eq_true p152
                   replace q152 := eq_true q152
                   go_wp2
                   go_roundg k3
                   case measure => have := HK1.out; have := HK2.out; have := HK3.out; omega
                   case rel => exact ⟨(rdOf false x3_2 ((za3 ((zaf l0_2 x5_2).f1) x8_3).f0)), (wrap64 (x8_3 + 1)), Yfs, Yfs, H', ⟨by have := HK1.out; have := HK2.out; have := HK3.out; omega⟩, ⟨Yr HO_3⟩, ⟨Yg BK143⟩, ⟨Yg BK149⟩, ⟨Yb_PItemTellsx6_2⟩⟩
                  ·rw [if_neg c24] at H
                   exact absurd H (by simp)
                 ·rw [if_neg c23] at H
                  exact absurd H (by simp)
                ·rw [if_neg c22] at H
                 exact absurd H (by simp)
               ·replace c21 := Bool.eq_false_iff.mpr c21
                subst c21
                have H1 : (zan.l2 k3 x3_2 x4_2 x5_2 false (wrap64 (x8_3 + 1)) l0_0 l0_1 l0_2 ((zaf l0_2 x5_2).f0) ((zaf l0_2 x5_2).f1) ((zaf l0_2 x5_2).f2)) = some r := by rw [if_neg (show ¬ (false = true) by decide)] at H; exact H
                clear H;have H := H1;clear H1
                have H' := zaa.mk H
                clear H
                have hnb27 := NB149_143.out
                have hnc27 := NB143_149.out
                obtain ⟨hcz28_0, hfz28_0, hcz28_1, hfz28_1, hcz28_2, hfz28_2⟩ := Yc3 BK149.out
                go_wp2
                go_roundg k3
                case measure => have := HK1.out; have := HK2.out; have := HK3.out; omega
                case rel => exact ⟨(false), (wrap64 (x8_3 + 1)), Yfs, Yfs, H', ⟨by have := HK1.out; have := HK2.out; have := HK3.out; omega⟩, ⟨Yr HO_3⟩, ⟨Yg BK143⟩, ⟨Yg BK149⟩, ⟨Yb_PItemTellsx6_2⟩⟩
              ·rw [if_neg c20] at H
               have c20b0 := decide_eq_false c20
               clear c20
               by_cases c29 : x7_3 = true
               ·subst c29
                have H1 : (if 0 ≤ ((zaf l0_2 x5_2).f0) then (if ((zaf l0_2 x5_2).f0) < (x3_2.length : Int) then (zan.l1 k3 (x3_2.set (((zaf l0_2 x5_2).f0) : Int).toNat true) true (wrap64 (x5_2 + 1)) l0_0 l0_1 l0_2) else (none)) else (none)) = some r := by rw [if_pos rfl] at H; exact H
                clear H;have H := H1;clear H1
                by_cases c30 : 0 ≤ ((zaf l0_2 x5_2).f0)
                ·rw [if_pos c30] at H
                 have c30b0 := decide_eq_true c30
                 clear c30
                 by_cases c31 : ((zaf l0_2 x5_2).f0) < (x3_2.length : Int)
                 ·rw [if_pos c31] at H
                  have c31b0 := decide_eq_true c31
                  clear c31
                  obtain ⟨y153, hy153⟩ : ∃ y_ : List Bool, y_ = (x3_2.set (((zaf l0_2 x5_2).f0) : Int).toNat true) := ⟨_, rfl⟩
                  replace H : (zan.l1 k3 y153 true (wrap64 (x5_2 + 1)) l0_0 l0_1 l0_2) = some r := by first | (rw [hy153]; with_reducible exact H) | (have H2_ := (Option.bind_some _ _).symm.trans H; rw [hy153]; with_reducible exact H2_) | (have H2_ := (Option.bind_some _ _).symm.trans H; with_reducible exact H2_) | with_reducible exact H | (rw [hy153]; exact H) | exact H
                  have Ny153 := zaa.mk hy153;clear hy153
                  have H' := zaa.mk H
                  clear H
                  have hnb33 := NB149_143.out
                  have hnc33 := NB143_149.out
                  obtain ⟨hcz34_0, hfz34_0, hcz34_1, hfz34_1, hcz34_2, hfz34_2⟩ := Yc3 BK149.out
                  have p32 : 0 ≤ (((zaf l0_2 x5_2).f0) : Int) := Yod
                  have q32 : (((zaf l0_2 x5_2).f0) : Int) < ((x3_2.length : Int) : Int) := Yod
                  obtain ⟨go32, co32, eo32, gb32, gl32, cl32, HG32⟩ := Kd.R_form HO_3.out (by omega)
                  (first | cases eo32 | (injection eo32 with ea_ en_ ec_; (first | subst ea_ | (injection ea_ with ea_; subst ea_)); subst ec_; clear en_))
                  have GB32 := zaa.mk gb32;have GG32 := zaa.mk HG32;clear gb32 gl32 HG32
                  (first | simp only [add_plain] at hx150_0 | skip)
                  (first | simp only [add_plain] at hx152_0 | skip)
                  obtain ⟨hx32_0, hf32_0⟩ := Kd.R_celln false HO_3.out (((zaf l0_2 x5_2).f0) : Int) p32 q32
                  replace p32 := eq_true p32
                  replace q32 := eq_true q32
                  have HP35 := Kd.R_putg HO_3.out (((zaf l0_2 x5_2).f0) : Int) true
                  go_wp2_with (first | ((with_reducible refine zjg (t := 4) (p := 54) rfl ?_); refine ziv (t := 4) (p := 54) (v := ?vo_w36) (w1 := (wr.setCell ⟨go32, (((zaf l0_2 x5_2).f0) : Int).toNat, none⟩ (.bool true))) ?hg ?ho ?hn ?hr ?_; (case ho => rfl); (case hg => rfl); (case hn => rfl); (case hr => first | (go_simp; done) | (go_simp; rfl)); intro w36 hw; have hg : wr.grownBy w36 (some go32) := (by rw [hw]; exact HP35.2); have hp_ : Kd.R Kd.bool 4 w36 w.heap.size (fun _ => True) (.slice (some ⟨go32, 0, none⟩) x3_2.length co19) y153 := (by rw [hw, Ny153.out]; exact HP35.1); clear HP35; replace BK143 := zaa.mk (zcc (g := gb143) (o := .cells #[.slice A0_0 l0_0.length c0_0, .slice A0_1 l0_1.length c0_1, .slice (some ad148) l0_2.length c0_2] 25 (0, 0)) (Yg BK143) hg (Kd.R_ne HO_3.out BK143.out (by decide))); replace BK149 := zaa.mk (zcc (g := gb149) (o := .cells #[.int .i64 ((zaf l0_2 x5_2).f0), .slice A148_1 ((zaf l0_2 x5_2).f1).length c148_1, .int .i64 ((zaf l0_2 x5_2).f2)] 42 (0, 0)) (Yg BK149) hg (Kd.R_ne HO_3.out BK149.out (by decide))); replace HO_3 := zaa.mk (hp_); replace HB := zaa.mk ((by rw [hw]; exact za6 (HB.out) GB32.out : Below w.heap.size w w36)); clear hg hw hp_))
                  go_roundg k3
                  case measure => have := HK1.out; have := HK2.out; have := HK3.out; omega
                  case rel => exact ⟨(y153), (true), (wrap64 (x5_2 + 1)), Yfs, Yfs, H', ⟨by have := HK1.out; have := HK2.out; have := HK3.out; omega⟩, ⟨Yr HO_3⟩, ⟨Yg BK143⟩, ⟨Yb_PItemTellsx6_2⟩⟩
                 ·rw [if_neg c31] at H
                  exact absurd H (by simp)
                ·rw [if_neg c30] at H
                 exact absurd H (by simp)
               ·replace c29 := Bool.eq_false_iff.mpr c29
                subst c29
                have H1 : (zan.l1 k3 x3_2 x4_2 (wrap64 (x5_2 + 1)) l0_0 l0_1 l0_2) = some r := by rw [if_neg (show ¬ (false = true) by decide)] at H; exact H
                clear H;have H := H1;clear H1
                have H' := zaa.mk H
                clear H
                have hnb37 := NB149_143.out
                have hnc37 := NB143_149.out
                obtain ⟨hcz38_0, hfz38_0, hcz38_1, hfz38_1, hcz38_2, hfz38_2⟩ := Yc3 BK149.out
                go_wp2
                go_roundg k3
                case measure => have := HK1.out; have := HK2.out; have := HK3.out; omega
                case rel => exact ⟨(x3_2), (x4_2), (wrap64 (x5_2 + 1)), Yfs, Yfs, H', ⟨by have := HK1.out; have := HK2.out; have := HK3.out; omega⟩, ⟨Yr HO_3⟩, ⟨Yg BK143⟩, ⟨Yb_PItemTellsx6_2⟩⟩
           ·rw [if_neg c14] at H
            exact absurd H (by simp)
          ·rw [if_neg c13] at H
           exact absurd H (by simp)
         ·rw [if_neg c12] at H
          exact absurd H (by simp)
        ·rw [if_neg c11] at H
         have c11b0 := decide_eq_false c11
         clear c11
         have H' := zaa.mk H
         clear H
         obtain ⟨hcz39_0, hfz39_0, hcz39_1, hfz39_1, hcz39_2, hfz39_2⟩ := Yc3 BK143.out
         go_wp2
         go_roundg k2
         case measure => have := HK1.out; have := HK2.out; omega
         case rel => exact ⟨(x3_2), (x4_2), Yfs, H', ⟨by have := HK1.out; have := HK2.out; omega⟩, ⟨Yr HO_3⟩, ⟨Yg BK143⟩, ⟨Yb_PItemTellsx6_1⟩⟩
     ·replace c10 := Bool.eq_false_iff.mpr c10
      subst c10
      have H1 : (some x3_1) = some r := by rw [if_neg (show ¬ (false = true) by decide)] at H; exact H
      clear H;have H := H1;clear H1;obtain rfl := Option.some.inj H;go_wp2;go_ret
      exact ⟨_, by first | rfl | (simp [errW_none, errW_some] <;> rfl) | (simp [*, errW_none, errW_some] <;> rfl), by (with_reducible repeat (first | apply Kd.R_alloc | apply Kd.zb0 | apply Kd.zbn)); exact HO_3.out, Yb_PItemTellsx6_1⟩
  ·rw [if_neg c4] at H
   exact absurd H (by simp)
 ·rw [if_neg c3] at H
  exact absurd H (by simp)
def sets_First.f (k : Nat) (l0_0 l0_1 : List ByteArray) (l0_2 : List S42) : Option (List (List Int)) :=
 if flOk (l0_0.length + l0_1.length) l0_1.length (l0_2.map prE) = true then (Grow.zb2 Deri.zb7 (l0_2.map prE) k (List.replicate (l0_0.length + l0_1.length) false)).bind fun em => Grow.zb2 (Begin.zcg (l0_0.length + l0_1.length) em) (l0_2.map prE) k (Begun.zcq (l0_0.length + l0_1.length) l0_0.length) else none
def zck.f (k : Nat) (l0_0 l0_1 : List ByteArray) (l0_2 : List S42) : Option (List (List Int)) :=
 if flOk (l0_0.length + l0_1.length) l0_1.length (l0_2.map prE) = true then (zan.f k l0_0 l0_1 l0_2).bind fun em => if em.length = l0_0.length + l0_1.length then Grow.zb2 (Begin.zcg (l0_0.length + l0_1.length) em) (l0_2.map prE) k (Begun.zcq (l0_0.length + l0_1.length) l0_0.length) else none else none
theorem zck.calls (k : Nat) (A0_0 : Option Addr) (c0_0 : Nat) (l0_0 : List ByteArray) (A0_1 : Option Addr) (c0_1 : Nat) (l0_1 : List ByteArray) (A0_2 : Option Addr) (c0_2 : Nat) (l0_2 : List S42) (r : List (List Int)) (w : World) (hr0_0 : Kd.C Kd.string w A0_0 l0_0.length l0_0) (hc0_0 : l0_0.length ≤ c0_0) (hr0_1 : Kd.C Kd.string w A0_1 l0_1.length l0_1) (hc0_1 : l0_1.length ≤ c0_1) (hr0_2 : Kd.C k42 w A0_2 l0_2.length l0_2) (hc0_2 : l0_2.length ≤ c0_2) (h : zck.f k l0_0 l0_1 l0_2 = some r) :
  Calls Tryz.prog 38 #[.agg #[.slice A0_0 l0_0.length c0_0, .slice A0_1 l0_1.length c0_1, .slice A0_2 l0_2.length c0_2]] w fun e w' => ∃ v0_ : Value, e = .returned v0_ ∧ Kd.R (Kd.slice 3 (Kd.int .i64)) 35 w' w.heap.size (fun _ => True) v0_ r ∧ Below w.heap.size w w' := by
 unfold zck.f at h
 split at h
 case isFalse => cases h
 rename_i hok
 obtain ⟨em, he, h⟩ := Option.bind_eq_some_iff.mp h
 split at h
 case isFalse => cases h
 rename_i hel
 have hl : (l0_2.map prE).length = l0_2.length := by simp
 have hc := RFirst.rfirst_calls w A0_0 A0_1 A0_2 l0_0.length l0_1.length c0_0 c0_1 c0_2 _ rfl (l0_2.map prE) (by rw [hl]; exact C_kP hr0_2) (by have := (flOk_N hok).1; omega) (zg3 hok) em hel (fun W hb => by rw [hl]; exact zan.calls k A0_0 c0_0 l0_0 A0_1 c0_1 l0_1 A0_2 c0_2 l0_2 em W (Kd.zak hr0_0 hb) hc0_0 (Kd.zak hr0_1 hb) hc0_1 (Kd.zak hr0_2 hb) hc0_2 he) k r h
 rw [hl] at hc
 exact hc
def zcf.f (a0_0 : Int) (a0_1 : Int) (a0_2 : Int) (a1_0 : Int) (a1_1 : Int) (a1_2 : Int) : Option (Bool) := if a0_0 = a1_0 then (if a0_1 = a1_1 then (some (decide (a0_2 < a1_2))) else (some (decide (a0_1 < a1_1)))) else (some (decide (a0_0 < a1_0)))
theorem zcf.calls (a0_0 : Int) (a0_1 : Int) (a0_2 : Int) (a1_0 : Int) (a1_1 : Int) (a1_2 : Int) (r : Bool) (w : World) (h : zcf.f a0_0 a0_1 a0_2 a1_0 a1_1 a1_2 = some r) :
  Calls Tryz.prog 53 #[.agg #[.int .i64 a0_0, .int .i64 a0_1, .int .i64 a0_2], .agg #[.int .i64 a1_0, .int .i64 a1_1, .int .i64 a1_2]] w fun e w' => e = .returned (.bool r) ∧ Below w.heap.size w w' := by
 have hu50 := Tryz.underlying50
 have HB := zaa.mk (Below.refl w.heap.size w)
 have H : (if a0_0 = a1_0 then (if a0_1 = a1_1 then (some (decide (a0_2 < a1_2))) else (some (decide (a0_1 < a1_1)))) else (some (decide (a0_0 < a1_0)))) = some r := h
 clear h
 by_cases c3 : a0_0 = a1_0
 ·rw [if_pos c3] at H
  have c3b0 : (a0_0 == a1_0) = true := beq_iff_eq.mpr c3
  have c3b1 : (a0_0 != a1_0) = false := bne_eq_false_iff_eq.mpr c3
  clear c3
  by_cases c4 : a0_1 = a1_1
  ·rw [if_pos c4] at H
   have c4b0 : (a0_1 == a1_1) = true := beq_iff_eq.mpr c4
   have c4b1 : (a0_1 != a1_1) = false := bne_eq_false_iff_eq.mpr c4
   clear c4;obtain rfl := Option.some.inj H
   go_enter Tryz.func53, Tryz.ntmps53
   go_wp2_with (first | ((with_reducible refine zau (N := 2) rfl ?_); refine Ybx 2 #[.int .i64 a0_0, .int .i64 a0_1, .int .i64 a0_2] 50 ?_; intro gb154 hg w5 hbox hb; obtain ⟨BK154, GW154, GE154, HB⟩ := Yb4 hbox hg hb Ybe; clear hb hbox hg) | ((with_reducible refine zau (N := 3) rfl ?_); refine Ybx 3 #[.int .i64 a1_0, .int .i64 a1_1, .int .i64 a1_2] 50 ?_; intro gb155 hg w6 hbox hb; obtain ⟨BK155, GW155, GE155, HB⟩ := Yb4 hbox hg hb Yb_PItemTellsx6_3; have NB154_155 := Ynl BK154 hg; have NB155_154 := Yng BK154 hg; replace BK154 := Ykb BK154 hb; clear hb hbox hg; have hnb7 := NB154_155.out; have hnc7 := NB155_154.out; obtain ⟨hcz8_0, hfz8_0, hcz8_1, hfz8_1, hcz8_2, hfz8_2⟩ := Yc3 BK154.out; obtain ⟨hcz9_0, hfz9_0, hcz9_1, hfz9_1, hcz9_2, hfz9_2⟩ := Yc3 BK155.out))
   go_ret
   exact ⟨Yfi, Yb_PItemTellsx6_4⟩
  ·rw [if_neg c4] at H
   have c4b0 : (a0_1 == a1_1) = false := beq_eq_false_iff_ne.mpr c4
   have c4b1 : (a0_1 != a1_1) = true := bne_iff_ne.mpr c4
   obtain rfl := Option.some.inj H
   go_enter Tryz.func53, Tryz.ntmps53
   go_wp2_with (first | ((with_reducible refine zau (N := 2) rfl ?_); refine Ybx 2 #[.int .i64 a0_0, .int .i64 a0_1, .int .i64 a0_2] 50 ?_; intro gb154 hg w10 hbox hb; obtain ⟨BK154, GW154, GE154, HB⟩ := Yb4 hbox hg hb Ybe; clear hb hbox hg) | ((with_reducible refine zau (N := 3) rfl ?_); refine Ybx 3 #[.int .i64 a1_0, .int .i64 a1_1, .int .i64 a1_2] 50 ?_; intro gb155 hg w11 hbox hb; obtain ⟨BK155, GW155, GE155, HB⟩ := Yb4 hbox hg hb Yb_PItemTellsx6_3; have NB154_155 := Ynl BK154 hg; have NB155_154 := Yng BK154 hg; replace BK154 := Ykb BK154 hb; clear hb hbox hg; have hnb12 := NB154_155.out; have hnc12 := NB155_154.out; obtain ⟨hcz13_0, hfz13_0, hcz13_1, hfz13_1, hcz13_2, hfz13_2⟩ := Yc3 BK154.out; obtain ⟨hcz14_0, hfz14_0, hcz14_1, hfz14_1, hcz14_2, hfz14_2⟩ := Yc3 BK155.out))
   go_ret
   exact ⟨Yfi, Yb_PItemTellsx6_4⟩
 ·rw [if_neg c3] at H
  have c3b0 : (a0_0 == a1_0) = false := beq_eq_false_iff_ne.mpr c3
  have c3b1 : (a0_0 != a1_0) = true := bne_iff_ne.mpr c3
  obtain rfl := Option.some.inj H
  go_enter Tryz.func53, Tryz.ntmps53
  go_wp2_with (first | ((with_reducible refine zau (N := 2) rfl ?_); refine Ybx 2 #[.int .i64 a0_0, .int .i64 a0_1, .int .i64 a0_2] 50 ?_; intro gb154 hg w15 hbox hb; obtain ⟨BK154, GW154, GE154, HB⟩ := Yb4 hbox hg hb Ybe; clear hb hbox hg) | ((with_reducible refine zau (N := 3) rfl ?_); refine Ybx 3 #[.int .i64 a1_0, .int .i64 a1_1, .int .i64 a1_2] 50 ?_; intro gb155 hg w16 hbox hb; obtain ⟨BK155, GW155, GE155, HB⟩ := Yb4 hbox hg hb Yb_PItemTellsx6_3; have NB154_155 := Ynl BK154 hg; have NB155_154 := Yng BK154 hg; replace BK154 := Ykb BK154 hb; clear hb hbox hg; have hnb17 := NB154_155.out; have hnc17 := NB155_154.out; obtain ⟨hcz18_0, hfz18_0, hcz18_1, hfz18_1, hcz18_2, hfz18_2⟩ := Yc3 BK154.out; obtain ⟨hcz19_0, hfz19_0, hcz19_1, hfz19_1, hcz19_2, hfz19_2⟩ := Yc3 BK155.out))
  go_ret
  exact ⟨Yfi, Yb_PItemTellsx6_4⟩
end Go.Proofs.ZZ.PItemTells
end
