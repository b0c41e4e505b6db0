import Derived.Test.YtkfjhkkbbcpjjaaProg
import Derived.Below
import Derived.Deep.Draws
import Derived.Deep.AppendLies
import Derived.Maps.AppendAt
import Derived.OwnWalk
import Derived.Laws.BytesArg
import Derived.Laws.MakeOwn
import Derived.Laws.OwnMore
import Derived.Deep.OwnRows
import Derived.Tactics
import Derived.Lib.ConvBytes
import Derived.Laws.Slices
import Derived.WalkKit
import Derived.KernelRfl
import Derived.RowKit3
import Derived.Deep.LoopGhost
import Derived.Deep.QuietTactic
import Derived.BigQuiet
import Derived.WideLaws
import Derived.Deep.DeepCutAuto
import Derived.Deep.CutBlock
import Derived.Deep.RegionHeld3
import Derived.Laws.Rows
import Derived.Lib.AppendStr
import Derived.ArgAppend
import Derived.Laws.IdiomCopy
import Derived.OrdersHeld
import Derived.Laws.BitsLemmas
import Derived.RowKit
import Derived.Lib.Strings
import Derived.Lib.Bytealg
import Derived.Lib.Slices
import Derived.Lib.Walk
import Derived.Test.YtkfjhkkbbcpjjaaPackGssPushes2
set_option linter.unusedVariables false
set_option linter.unusedSimpArgs false
set_option maxRecDepth 100000
set_option maxHeartbeats 8000000
section
namespace Go.Proofs.ZZ.PFit
open Go.RowKit Go.Proofs.ZW.PrintWords Go.Proofs.ZW.PrintLast Go.Proofs.ZW.PrintMore
attribute [local go_sem] zch zct
structure S38 where
 f0 : Int
 f1 : Int
 f2 : (List Int)
def z38 : S38 := ⟨(0 : Int), (0 : Int), ([] : List Int)⟩
def k38 : Kd S38 := Kd.iso (Kd.pair (Kd.int .i64) (Kd.pair (Kd.int .i64) (Kd.slice 3 (Kd.int .i64)))) (fun x : S38 => (x.f0, x.f1, x.f2))
theorem zfm {w : World} {x : S38} {cs : List Value} (h : k38.K w x cs) : ∃ A2 c2, cs = [.int .i64 x.f0, .int .i64 x.f1, .slice A2 x.f2.length c2] ∧ x.f2.length ≤ c2 ∧ (Kd.int .i64).C w A2 x.f2.length x.f2 := by
 obtain ⟨_, _, rfl, rfl, ⟨_, _, rfl, rfl, ⟨A2, c2, rfl, l2, g2⟩⟩⟩ := h
 exact ⟨A2, c2, rfl, l2, g2⟩
def zaa (xs : List S38) (i : Int) : S38 := xs.getD i.toNat z38
theorem zbn {w : World} {A : Option Addr} {n : Nat} {xs : List S38} (h : Kd.C k38 w A n xs) (i : Int) (h0 : 0 ≤ i) (h1 : i < n) : ∃ ad A2 c2, A = some ad ∧ w.cell? (ad.add (i.toNat * 3)) = some (.int .i64 (zaa xs i).f0) ∧ w.cell? ⟨(ad.add (i.toNat * 3)).block, (ad.add (i.toNat * 3)).off + 1, none⟩ = some (.int .i64 (zaa xs i).f1) ∧ w.cell? ⟨(ad.add (i.toNat * 3)).block, (ad.add (i.toNat * 3)).off + 2, none⟩ = some (.slice A2 (zaa xs i).f2.length c2) ∧ (zaa xs i).f2.length ≤ c2 ∧ (Kd.int .i64).C w A2 (zaa xs i).f2.length (zaa xs i).f2 := by
 obtain ⟨ad, c, e, _, hK, hc0⟩ := Kd.C_get h z38 i h0 h1
 have hc : ∀ j u, c[j]? = some u → w.cell? (ad.add (i.toNat * 3 + j)) = some u := hc0
 obtain ⟨A2, c2, rfl, l2, g2⟩ := zfm hK
 exact ⟨ad, A2, c2, e, hc 0 _ rfl, by rw [← zb0 _ _ 1 (by omega)]; exact hc 1 _ rfl, by rw [← zb0 _ _ 2 (by omega)]; exact hc 2 _ rfl, l2, g2⟩
structure S24 where
 f0 : (List S38)
theorem Yb_PFitx1_0 {n : Nat} {w w' : World} (h : Below n w w' := by repeat (first | (with_reducible first | exact HB.out | apply za8 | apply za2 | apply zav | refine zau ?_ GE104.out) | exact HB.out)) : Below n w w' := h
theorem Yb_PFitx1_1 {n : Nat} {w w' : World} (h : Below n w w' := by repeat (first | (with_reducible first | exact HB.out | apply za8 | apply za2 | apply zav | refine zau ?_ GE104.out | refine zau ?_ GE105.out) | exact HB.out)) : Below n w w' := h
def zcg.f (a0 : Int) : Option (Bool) := if a0 ≥ 0 then (some (decide (a0 ≤ 65535))) else (some false)
theorem zcg.calls (a0 : Int) (r : Bool) (w : World) (h : zcg.f a0 = some r) :
  Calls Try.prog 37 #[.int .i64 a0] w fun e w' => e = .returned (.bool r) ∧ zbc w w' := by
 have H : (if a0 ≥ 0 then (some (decide (a0 ≤ 65535))) else (some false)) = some r := h
 clear h
 by_cases c2 : a0 ≥ 0
 ·rw [if_pos c2] at H
  have c2b0 := decide_eq_true c2
  clear c2;obtain rfl := Option.some.inj H
  go_enter Try.func37, Try.ntmps37
  go_wp2;go_ret
  exact ⟨Yfs, by repeat (first | exact zbc.refl _ | apply zbc.step)⟩
 ·rw [if_neg c2] at H
  have c2b0 := decide_eq_false c2
  clear c2;obtain rfl := Option.some.inj H
  go_enter Try.func37, Try.ntmps37
  go_wp2;go_ret
  exact ⟨Yfs, by repeat (first | exact zbc.refl _ | apply zbc.step)⟩
def zb8.l0 : Nat → Int → List Int → Int → Int → Option (Int)
 | 0, _, _, _, _ => none
 | k + 1, x3, x6, x7, x8 => if x8 < x7 then (if 0 ≤ x8 then (if x8 < (x6.length : Int) then (if (rd x6 x8) = x3 then (zb8.l0 k x3 x6 x7 (wrap64 (x8 + 1))) else (some (rd x6 x8))) else (none)) else (none)) else (some x3)
def zb8.f (k : Nat) (l0 : List Int) : Option (Int) := zb8.l0 k 0 l0 (l0.length : Int) 0
theorem zb8.calls (k : Nat) (A0 : Option Addr) (c0 : Nat) (l0 : List Int) (r : Int) (w : World) (hr0 : Kd.C (Kd.int .i64) w A0 l0.length l0) (hc0 : l0.length ≤ c0) (h : zb8.f k l0 = some r) :
  Calls Try.prog 59 #[.slice A0 l0.length c0] w fun e w' => e = .returned (.int .i64 r) ∧ zbc w w' := by
 have HR0 := zab.mk hr0;have HC0 := zab.mk hc0;clear hr0 hc0
 have H : (zb8.l0 k 0 l0 (l0.length : Int) 0) = some r := h
 clear h
 have H' := zab.mk H
 clear H
 go_enter Try.func59, Try.ntmps59
 go_wp2
 go_loopg [8] k (fun kq v8 w' => ∃ (x8_1 : Int), v8 = .int .i64 x8_1 ∧ zab (zb8.l0 kq 0 l0 (l0.length : Int) x8_1 = some r) ∧ zab (kq ≤ k) ∧ zbc w w')
 case atStart => exact ⟨(0), Yfs, H', ⟨Nat.le_refl _⟩, by repeat (first | exact zbc.refl _ | apply zbc.step)⟩
 case round =>
  clear H'
  obtain ⟨x8_1, rfl, HA, HK1, ⟨m1, rfl⟩⟩ := hrel
  cases gk with
  | zero => exact absurd HA.out (by simp [zb8.l0])
  | succ k1 =>
   have H := HA.out;clear HA
   simp only [zb8.l0] at H
   by_cases c2 : x8_1 < (l0.length : Int)
   ·rw [if_pos c2] at H
    have c2b0 := decide_eq_true c2
    clear c2
    by_cases c3 : 0 ≤ x8_1
    ·rw [if_pos c3] at H
     have c3b0 := decide_eq_true c3
     clear c3
     by_cases c4 : x8_1 < (l0.length : Int)
     ·rw [if_pos c4] at H
      have c4b0 := decide_eq_true c4
      clear c4
      by_cases c5 : (rd l0 x8_1) = 0
      ·rw [if_pos c5] at H
       have c5b0 : ((rd l0 x8_1) == 0) = true := beq_iff_eq.mpr c5
       have c5b1 : ((rd l0 x8_1) != 0) = false := bne_eq_false_iff_eq.mpr c5
       clear c5
       have H' := zab.mk H
       clear H
       have p101 : 0 ≤ (x8_1 : Int) := Yod
       have q101 : x8_1 < (l0.length : Int) := Yod
       obtain ⟨ad101, e101, hx101_0⟩ := Kd.zb1 HR0.out x8_1 p101 q101
       cases e101
       replace p101 := eq_true p101
       replace q101 := eq_true q101
       go_wp2
       go_roundg k1
       case measure => have := HK1.out; omega
       case rel => exact ⟨(wrap64 (x8_1 + 1)), Yfs, H', ⟨by have := HK1.out; omega⟩, by repeat (first | exact zbc.refl _ | apply zbc.step)⟩
      ·rw [if_neg c5] at H
       have c5b0 : ((rd l0 x8_1) == 0) = false := beq_eq_false_iff_ne.mpr c5
       have c5b1 : ((rd l0 x8_1) != 0) = true := bne_iff_ne.mpr c5
       obtain rfl := Option.some.inj H
       have p101 : 0 ≤ (x8_1 : Int) := Yod
       have q101 : x8_1 < (l0.length : Int) := Yod
       obtain ⟨ad101, e101, hx101_0⟩ := Kd.zb1 HR0.out x8_1 p101 q101
       cases e101
       replace p101 := eq_true p101
       replace q101 := eq_true q101
       go_wp2;go_ret
       exact ⟨Yfs, by repeat (first | exact zbc.refl _ | apply zbc.step)⟩
     ·rw [if_neg c4] at H
      exact absurd H (by simp)
    ·rw [if_neg c3] at H
     exact absurd H (by simp)
   ·rw [if_neg c2] at H
    have c2b0 := decide_eq_false c2
    clear c2;obtain rfl := Option.some.inj H;go_wp2;go_ret
    exact ⟨Yfs, by repeat (first | exact zbc.refl _ | apply zbc.step)⟩
def cmp_isNaN_int.f (a0 : Int) : Option (Bool) := some (a0 != a0)
theorem cmp_isNaN_int.calls (a0 : Int) (r : Bool) (w : World) (h : cmp_isNaN_int.f a0 = some r) :
  Calls Try.prog 73 #[.int .i64 a0] w fun e w' => e = .returned (.bool r) ∧ zbc w w' := by
 have H : (some (a0 != a0)) = some r := h
 clear h;obtain rfl := Option.some.inj H
 go_enter Try.func73, Try.ntmps73
 go_wp2;go_ret
 exact ⟨Yfs, by repeat (first | exact zbc.refl _ | apply zbc.step)⟩
def cmp_Compare_int.f (a0 : Int) (a1 : Int) : Option (Int) := (cmp_isNaN_int.f a0).bind fun t102 => ((cmp_isNaN_int.f a1).bind fun t103 => (if t102 = true then (if t103 = true then (some 0) else (some (-1))) else (if t103 = true then (some 1) else (if a0 < a1 then (some (-1)) else (if a0 > a1 then (some 1) else (some 0))))))
theorem cmp_Compare_int.calls (a0 : Int) (a1 : Int) (r : Int) (w : World) (h : cmp_Compare_int.f a0 a1 = some r) :
  Calls Try.prog 60 #[.int .i64 a0, .int .i64 a1] w fun e w' => e = .returned (.int .i64 r) ∧ zbc w w' := by
 have H : ((cmp_isNaN_int.f a0).bind fun t102 => ((cmp_isNaN_int.f a1).bind fun t103 => (if t102 = true then (if t103 = true then (some 0) else (some (-1))) else (if t103 = true then (some 1) else (if a0 < a1 then (some (-1)) else (if a0 > a1 then (some 1) else (some 0))))))) = some r := h
 clear h;replace H := Option.bind_eq_some_iff.mp H
 obtain ⟨t102, A30, H⟩ := H
 replace H : ((cmp_isNaN_int.f a1).bind fun t103 => (if t102 = true then (if t103 = true then (some 0) else (some (-1))) else (if t103 = true then (some 1) else (if a0 < a1 then (some (-1)) else (if a0 > a1 then (some 1) else (some 0)))))) = some r := H
 have A3 := zab.mk A30;clear A30;replace H := Option.bind_eq_some_iff.mp H
 obtain ⟨t103, A40, H⟩ := H
 replace H : (if t102 = true then (if t103 = true then (some 0) else (some (-1))) else (if t103 = true then (some 1) else (if a0 < a1 then (some (-1)) else (if a0 > a1 then (some 1) else (some 0))))) = some r := H
 have A4 := zab.mk A40;clear A40
 by_cases c5 : t102 = true
 ·subst c5
  have H1 : (if t103 = true then (some 0) else (some (-1))) = some r := by rw [if_pos rfl] at H; exact H
  clear H;have H := H1;clear H1
  by_cases c6 : t103 = true
  ·subst c6
   have H1 : (some 0) = some r := by rw [if_pos rfl] at H; exact H
   clear H;have H := H1;clear H1;obtain rfl := Option.some.inj H
   go_enter Try.func60, Try.ntmps60
   go_wp2_with (first | ((with_reducible refine za6 (f := 73) rfl ?_); refine Ygl (some 8) Try.func73 #[.int .i64 a0] ?_; (with_reducible refine (cmp_isNaN_int.calls a0 true _ A3.out).mono ?_); rintro e w' ⟨rfl, ⟨nd, rfl⟩⟩; refine ⟨_, rfl, ?_⟩) | ((with_reducible refine za6 (f := 73) rfl ?_); refine Ygl (some 10) Try.func73 #[.int .i64 a1] ?_; (with_reducible refine (cmp_isNaN_int.calls a1 true _ A4.out).mono ?_); rintro e w' ⟨rfl, ⟨nd, rfl⟩⟩; refine ⟨_, rfl, ?_⟩))
   go_ret
   exact ⟨Yfs, by repeat (first | exact zbc.refl _ | apply zbc.step)⟩
  ·replace c6 := Bool.eq_false_iff.mpr c6
   subst c6
   have H1 : (some (-1)) = some r := by rw [if_neg (show ¬ (false = true) by decide)] at H; exact H
   clear H;have H := H1;clear H1;obtain rfl := Option.some.inj H
   go_enter Try.func60, Try.ntmps60
   go_wp2_with (first | ((with_reducible refine za6 (f := 73) rfl ?_); refine Ygl (some 8) Try.func73 #[.int .i64 a0] ?_; (with_reducible refine (cmp_isNaN_int.calls a0 true _ A3.out).mono ?_); rintro e w' ⟨rfl, ⟨nd, rfl⟩⟩; refine ⟨_, rfl, ?_⟩) | ((with_reducible refine za6 (f := 73) rfl ?_); refine Ygl (some 10) Try.func73 #[.int .i64 a1] ?_; (with_reducible refine (cmp_isNaN_int.calls a1 false _ A4.out).mono ?_); rintro e w' ⟨rfl, ⟨nd, rfl⟩⟩; refine ⟨_, rfl, ?_⟩))
   go_ret
   exact ⟨Yfs, by repeat (first | exact zbc.refl _ | apply zbc.step)⟩
 ·replace c5 := Bool.eq_false_iff.mpr c5
  subst c5
  have H1 : (if t103 = true then (some 1) else (if a0 < a1 then (some (-1)) else (if a0 > a1 then (some 1) else (some 0)))) = some r := by rw [if_neg (show ¬ (false = true) by decide)] at H; exact H
  clear H;have H := H1;clear H1
  by_cases c7 : t103 = true
  ·subst c7
   have H1 : (some 1) = some r := by rw [if_pos rfl] at H; exact H
   clear H;have H := H1;clear H1;obtain rfl := Option.some.inj H
   go_enter Try.func60, Try.ntmps60
   go_wp2_with (first | ((with_reducible refine za6 (f := 73) rfl ?_); refine Ygl (some 8) Try.func73 #[.int .i64 a0] ?_; (with_reducible refine (cmp_isNaN_int.calls a0 false _ A3.out).mono ?_); rintro e w' ⟨rfl, ⟨nd, rfl⟩⟩; refine ⟨_, rfl, ?_⟩) | ((with_reducible refine za6 (f := 73) rfl ?_); refine Ygl (some 10) Try.func73 #[.int .i64 a1] ?_; (with_reducible refine (cmp_isNaN_int.calls a1 true _ A4.out).mono ?_); rintro e w' ⟨rfl, ⟨nd, rfl⟩⟩; refine ⟨_, rfl, ?_⟩))
   go_ret
   exact ⟨Yfs, by repeat (first | exact zbc.refl _ | apply zbc.step)⟩
  ·replace c7 := Bool.eq_false_iff.mpr c7
   subst c7
   have H1 : (if a0 < a1 then (some (-1)) else (if a0 > a1 then (some 1) else (some 0))) = some r := by rw [if_neg (show ¬ (false = true) by decide)] at H; exact H
   clear H;have H := H1;clear H1
   by_cases c8 : a0 < a1
   ·rw [if_pos c8] at H
    have c8b0 := decide_eq_true c8
    clear c8;obtain rfl := Option.some.inj H
    go_enter Try.func60, Try.ntmps60
    go_wp2_with (first | ((with_reducible refine za6 (f := 73) rfl ?_); refine Ygl (some 8) Try.func73 #[.int .i64 a0] ?_; (with_reducible refine (cmp_isNaN_int.calls a0 false _ A3.out).mono ?_); rintro e w' ⟨rfl, ⟨nd, rfl⟩⟩; refine ⟨_, rfl, ?_⟩) | ((with_reducible refine za6 (f := 73) rfl ?_); refine Ygl (some 10) Try.func73 #[.int .i64 a1] ?_; (with_reducible refine (cmp_isNaN_int.calls a1 false _ A4.out).mono ?_); rintro e w' ⟨rfl, ⟨nd, rfl⟩⟩; refine ⟨_, rfl, ?_⟩))
    go_ret
    exact ⟨Yfs, by repeat (first | exact zbc.refl _ | apply zbc.step)⟩
   ·rw [if_neg c8] at H
    have c8b0 := decide_eq_false c8
    clear c8
    by_cases c9 : a0 > a1
    ·rw [if_pos c9] at H
     have c9b0 := decide_eq_true c9
     clear c9;obtain rfl := Option.some.inj H
     go_enter Try.func60, Try.ntmps60
     go_wp2_with (first | ((with_reducible refine za6 (f := 73) rfl ?_); refine Ygl (some 8) Try.func73 #[.int .i64 a0] ?_; (with_reducible refine (cmp_isNaN_int.calls a0 false _ A3.out).mono ?_); rintro e w' ⟨rfl, ⟨nd, rfl⟩⟩; refine ⟨_, rfl, ?_⟩) | ((with_reducible refine za6 (f := 73) rfl ?_); refine Ygl (some 10) Try.func73 #[.int .i64 a1] ?_; (with_reducible refine (cmp_isNaN_int.calls a1 false _ A4.out).mono ?_); rintro e w' ⟨rfl, ⟨nd, rfl⟩⟩; refine ⟨_, rfl, ?_⟩))
     go_ret
     exact ⟨Yfs, by repeat (first | exact zbc.refl _ | apply zbc.step)⟩
    ·rw [if_neg c9] at H
     have c9b0 := decide_eq_false c9
     clear c9;obtain rfl := Option.some.inj H
     go_enter Try.func60, Try.ntmps60
     go_wp2_with (first | ((with_reducible refine za6 (f := 73) rfl ?_); refine Ygl (some 8) Try.func73 #[.int .i64 a0] ?_; (with_reducible refine (cmp_isNaN_int.calls a0 false _ A3.out).mono ?_); rintro e w' ⟨rfl, ⟨nd, rfl⟩⟩; refine ⟨_, rfl, ?_⟩) | ((with_reducible refine za6 (f := 73) rfl ?_); refine Ygl (some 10) Try.func73 #[.int .i64 a1] ?_; (with_reducible refine (cmp_isNaN_int.calls a1 false _ A4.out).mono ?_); rintro e w' ⟨rfl, ⟨nd, rfl⟩⟩; refine ⟨_, rfl, ?_⟩))
     go_ret
     exact ⟨Yfs, by repeat (first | exact zbc.refl _ | apply zbc.step)⟩
def zb4.f (k : Nat) (a0_0 : Int) (a0_1 : Int) (l0_2 : List Int) (a1_0 : Int) (a1_1 : Int) (l1_2 : List Int) : Option (Int) := (cmp_Compare_int.f a0_1 a1_1).bind fun t106 => ((cmp_Compare_int.f a0_0 a1_0).bind fun t107 => ((zb8.f k (([t106, t107] : List Int))).bind fun t111 => (some t111)))
def zb4.T1 : Bool × List (List Nat × List Nat) := (true, [([], []), ([0], [0]), ([], []), ([2], [2]), ([1, 3], [1, 3]), ([], []), ([5], [5]), ([], []), ([7], [7]), ([6, 8, 4], [6, 8]), ([4, 9], [4, 9]), ([10, 9], [10]), ([11, 11, 0, 1, 2, 3, 4, 5, 6, 7, 8, 9, 10, 11], [11])])
def zb4.B1 : List Nat := [0, 1, 0, 4, 15, 0, 32, 0, 128, 511, 1023, 2047, 4095]
theorem zb4.tab1 : rtab .any (opsOf Try.f45 1) = zb4.T1 := by kernel_rfl
theorem zb4.bits1 : zc4 zb4.T1.2 zb4.B1 = true := by kernel_rfl
theorem zb4.calls (k : Nat) (a0_0 : Int) (a0_1 : Int) (A0_2 : Option Addr) (c0_2 : Nat) (l0_2 : List Int) (a1_0 : Int) (a1_1 : Int) (A1_2 : Option Addr) (c1_2 : Nat) (l1_2 : List Int) (r : Int) (w : World) (hr0_2 : Kd.C (Kd.int .i64) w A0_2 l0_2.length l0_2) (hc0_2 : l0_2.length ≤ c0_2) (hr1_2 : Kd.C (Kd.int .i64) w A1_2 l1_2.length l1_2) (hc1_2 : l1_2.length ≤ c1_2) (h : zb4.f k a0_0 a0_1 l0_2 a1_0 a1_1 l1_2 = some r) :
  Calls Try.prog 45 #[.agg #[.int .i64 a0_0, .int .i64 a0_1, .slice A0_2 l0_2.length c0_2], .agg #[.int .i64 a1_0, .int .i64 a1_1, .slice A1_2 l1_2.length c1_2]] w fun e w' => e = .returned (.int .i64 r) ∧ Below w.heap.size w w' := by
 have hu38 := Try.underlying38
 have HR0_2 := zab.mk hr0_2;have HC0_2 := zab.mk hc0_2;clear hr0_2 hc0_2;have HR1_2 := zab.mk hr1_2;have HC1_2 := zab.mk hc1_2;clear hr1_2 hc1_2
 have HB := zab.mk (Below.refl w.heap.size w)
 have H : ((cmp_Compare_int.f a0_1 a1_1).bind fun t106 => ((cmp_Compare_int.f a0_0 a1_0).bind fun t107 => ((zb8.f k (([t106, t107] : List Int))).bind fun t111 => (some t111)))) = some r := h
 clear h;replace H := Option.bind_eq_some_iff.mp H
 obtain ⟨t106, A30, H⟩ := H
 replace H : ((cmp_Compare_int.f a0_0 a1_0).bind fun t107 => ((zb8.f k (([t106, t107] : List Int))).bind fun t111 => (some t111))) = some r := H
 have A3 := zab.mk A30;clear A30;replace H := Option.bind_eq_some_iff.mp H
 obtain ⟨t107, A40, H⟩ := H
 replace H : ((zb8.f k (([t106, t107] : List Int))).bind fun t111 => (some t111)) = some r := H
 have A4 := zab.mk A40;clear A40
 obtain ⟨y108, hy108⟩ : ∃ y_ : List Int, y_ = (([t106, t107] : List Int)) := ⟨_, rfl⟩
 replace H : ((zb8.f k y108).bind fun t111 => (some t111)) = some r := by first | (rw [hy108]; with_reducible exact H) | (have H2_ := (Option.bind_some _ _).symm.trans H; rw [hy108]; with_reducible exact H2_) | (have H2_ := (Option.bind_some _ _).symm.trans H; with_reducible exact H2_) | with_reducible exact H | (rw [hy108]; exact H) | exact H
 have Ny108 := zab.mk hy108;clear hy108;replace H := Option.bind_eq_some_iff.mp H
 obtain ⟨t111, A50, H⟩ := H
 replace H : (some t111) = some r := H
 have A5 := zab.mk A50;clear A50;obtain rfl := Option.some.inj H
 go_enter Try.func45, Try.ntmps45
 try go_wp2_with (first | ((with_reducible refine zbb (N := 2) rfl ?_); refine Ybx 2 #[.int .i64 a0_0, .int .i64 a0_1, .slice A0_2 l0_2.length c0_2] 38 ?_; intro gb104 hg w6 hbox hb; obtain ⟨BK104, GW104, GE104, HB⟩ := Yb4 hbox hg hb Ybe; clear hb hbox hg) | ((with_reducible refine zbb (N := 3) rfl ?_); refine Ybx 3 #[.int .i64 a1_0, .int .i64 a1_1, .slice A1_2 l1_2.length c1_2] 38 ?_; intro gb105 hg w7 hbox hb; obtain ⟨BK105, GW105, GE105, HB⟩ := Yb4 hbox hg hb Yb_PFitx1_0; have NB104_105 := Ynl BK104 hg; have NB105_104 := Yng BK104 hg; replace BK104 := Ykb BK104 hb; clear hb hbox hg))
 replace BK104 := zab.mk (zac BK104.out)
 replace BK105 := zab.mk (zac BK105.out)
 replace HB := zab.mk (zav HB.out)
 refine zbt (n := 13) (S := fun w' => w'.cell? ⟨gb104, 0, none⟩ = some (.int .i64 a0_0) ∧ w'.cell? ⟨gb104, 1, none⟩ = some (.int .i64 a0_1) ∧ w'.cell? ⟨gb104, 2, none⟩ = some (.slice A0_2 l0_2.length c0_2) ∧ w'.cell? ⟨gb105, 0, none⟩ = some (.int .i64 a1_0) ∧ w'.cell? ⟨gb105, 1, none⟩ = some (.int .i64 a1_1) ∧ w'.cell? ⟨gb105, 2, none⟩ = some (.slice A1_2 l1_2.length c1_2)) (ds := []) (Ymk 13 0) (by kernel_rfl) rfl rfl ⟨(zaf BK104.out 0).trans rfl, (zaf BK104.out 1).trans rfl, (zaf BK104.out 2).trans rfl, (zaf BK105.out 0).trans rfl, (zaf BK105.out 1).trans rfl, (zaf BK105.out 2).trans rfl⟩ (fun hHeld => ?_); refine zbo zb4.tab1 zb4.bits1 (fun HT_ HW_ => ?_)
 generalize w7.drew = w8 at BK104 BK105 HB hHeld ⊢
 refine Ypt 0 5 13 1 HT_ ?_
 refine Ypt 2 7 13 5 HT_ ?_
 refine Ypt 5 10 13 37 HT_ ?_
 refine Ypt 7 12 13 165 HT_ ?_
 refine Ytt 1 6 13 167 HT_ HW_ hHeld ?_
 refine Ytt 3 8 13 175 HT_ HW_ hHeld ?_
 refine Ytt 6 11 13 239 HT_ HW_ hHeld ?_
 refine Ytt 8 13 13 495 HT_ HW_ hHeld ?_
 refine Yot 4 9 13 511 HT_ (fun K hK => ?_)
 refine Ygs Try.func60 #[.int .i64 a0_1, .int .i64 a1_1] ?_
 with_reducible refine (cmp_Compare_int.calls a0_1 a1_1 t106 _ A3.out).mono ?_
 rintro e w' ⟨rfl, ⟨nd, rfl⟩⟩
 refine ⟨_, rfl, ?_⟩
 refine hK.out _ _ ⟨(zaf BK104.out 0).trans rfl, (zaf BK104.out 1).trans rfl, (zaf BK104.out 2).trans rfl, (zaf BK105.out 0).trans rfl, (zaf BK105.out 1).trans rfl, (zaf BK105.out 2).trans rfl⟩ (fun hHeld => ?_)
 clear hK K
 refine Ynw 9 ?_
 refine Yot 9 14 13 1023 HT_ (fun K hK => ?_)
 refine Ygs Try.func60 #[.int .i64 a0_0, .int .i64 a1_0] ?_
 with_reducible refine (cmp_Compare_int.calls a0_0 a1_0 t107 _ A4.out).mono ?_
 rintro e w' ⟨rfl, ⟨nd, rfl⟩⟩
 refine ⟨_, rfl, ?_⟩
 refine hK.out _ _ ⟨(zaf BK104.out 0).trans rfl, (zaf BK104.out 1).trans rfl, (zaf BK104.out 2).trans rfl, (zaf BK105.out 0).trans rfl, (zaf BK105.out 1).trans rfl, (zaf BK105.out 2).trans rfl⟩ (fun hHeld => ?_)
 clear hK K
 refine Ynw 14 ?_
 refine Yot 10 15 13 2047 HT_ (fun K hK => ?_)
 refine Kd.R_lit_step (Kd.int .i64) _ 3 ?hg (N := 15) ?hd (xs := ([t106, t107] : List Int)) (inner := [.int .i64 t106, .int .i64 t107]) (ok := fun _ => True) (okp := fun _ => True) ?hr ?hp (fun _ hk => hk) trivial (Below.refl _ _) (Nat.le_refl _) (by simp) ?_; (case hd => rfl); (case hg => rfl); (case hr => first | (go_simp; done) | (go_simp; rfl)); (case hp => exact (Reps.one (show Kd.M (Kd.int .i64) _ _ _ t106 [.int .i64 t106] from rfl) (Reps.one (show Kd.M (Kd.int .i64) _ _ _ t107 [.int .i64 t107] from rfl) (Reps.none _ _))))
 intro v109 w9 ho10 hb hg_ hnew_
 clear hg_ hnew_
 (first | rw [← Ny108.out] at ho10 | (simp only [Int.reduceToNat] at ho10; rw [← Ny108.out] at ho10))
 have HO110 := zab.mk (Kd.zde ho10 (za7 Yb_PFitx1_1))
 replace BK104 := Ykb BK104 hb
 replace BK105 := Ykb BK105 hb
 replace HB := zab.mk (za1 Yb_PFitx1_1 hb)
 clear hb ho10
 obtain ⟨Ao11, co11, eo11⟩ := Kd.zcf HO110.out
 (first | subst eo11 | (injection eo11 with f1_ f2_ f3_; have f4_ := f1_.symm; have f5_ := f3_.symm; clear f1_ f2_ f3_; subst f4_; subst f5_))
 refine hK.out _ _ ⟨(zaf BK104.out 0).trans rfl, (zaf BK104.out 1).trans rfl, (zaf BK104.out 2).trans rfl, (zaf BK105.out 0).trans rfl, (zaf BK105.out 1).trans rfl, (zaf BK105.out 2).trans rfl⟩ (fun hHeld => ?_)
 clear hK K
 refine Ynw 15 ?_
 refine Yot 11 16 13 4095 HT_ (fun K hK => ?_)
 refine Ygs Try.func59 #[.slice Ao11 y108.length co11] ?_
 with_reducible refine (zb8.calls k _ _ y108 t111 _ ?side1 ?side2 A5.out).mono ?_
 (case side1 => repeat (first | exact (Kd.R_reads' HO110.out).2.2 | (with_reducible refine Kd.C_alloc ?_ _) | (with_reducible refine Kd.C_drewN ?_ _) | (with_reducible refine Kd.C_drew ?_)))
 (case side2 => exact (Kd.R_reads' HO110.out).2.1)
 rintro e w' ⟨rfl, ⟨nd, rfl⟩⟩
 refine ⟨_, rfl, ?_⟩
 refine hK.out _ _ ⟨(zaf BK104.out 0).trans rfl, (zaf BK104.out 1).trans rfl, (zaf BK104.out 2).trans rfl, (zaf BK105.out 0).trans rfl, (zaf BK105.out 1).trans rfl, (zaf BK105.out 2).trans rfl⟩ (fun hHeld => ?_)
 clear hK K
 refine Ynw 16 ?_
 refine Ypt 12 4 13 8191 HT_ ?_
 refine zby (zbv HT_.out (by kernel_rfl)) ?_
 try go_wp2
 go_ret
 exact ⟨Yfi, Yb_PFitx1_1⟩
theorem Yb_PFitx2_0 {n : Nat} {w w' : World} (h : Below n w w' := by repeat (first | (with_reducible first | exact HB.out | apply za8 | apply za2 | apply zav | refine zau ?_ GE112.out) | exact HB.out)) : Below n w w' := h
theorem Yb_PFitx2_1 {n : Nat} {w w' : World} (h : Below n w w' := by repeat (first | (with_reducible first | exact HB.out | apply za8 | apply za2 | apply zav | refine zau ?_ GE112.out | refine zau ?_ GE114.out) | exact HB.out)) : Below n w w' := h
mutual
def za5.l0 : Nat → List (S38) → Int → Int → List (S38) → Option (Bool)
 | 0, _, _, _, _ => none
 | k + 1, x13, x14, x15, x113000 => if x15 < x14 then (if 0 ≤ x15 then (if x15 < (x13.length : Int) then ((zcg.f ((zaa x13 x15).f0)).bind fun t115 => (if t115 = true then ((zcg.f ((zaa x13 x15).f1)).bind fun t116 => (if t116 = true then (if x15 > 0 then (if 0 ≤ (wrap64 (x15 - 1)) then (if (wrap64 (x15 - 1)) < (x113000.length : Int) then ((zb4.f k ((zaa x113000 (wrap64 (x15 - 1))).f0) ((zaa x113000 (wrap64 (x15 - 1))).f1) ((zaa x113000 (wrap64 (x15 - 1))).f2) ((zaa x13 x15).f0) ((zaa x13 x15).f1) ((zaa x13 x15).f2)).bind fun t118 => (za5.j1 k x13 x14 x15 (decide (t118 ≥ 0)) x113000 ((zaa x13 x15).f0) ((zaa x13 x15).f1) ((zaa x13 x15).f2))) else (none)) else (none)) else (za5.j1 k x13 x14 x15 false x113000 ((zaa x13 x15).f0) ((zaa x13 x15).f1) ((zaa x13 x15).f2))) else (za5.j1 k x13 x14 x15 true x113000 ((zaa x13 x15).f0) ((zaa x13 x15).f1) ((zaa x13 x15).f2)))) else (za5.j1 k x13 x14 x15 true x113000 ((zaa x13 x15).f0) ((zaa x13 x15).f1) ((zaa x13 x15).f2)))) else (none)) else (none)) else (some true)
def za5.j1 : Nat → List (S38) → Int → Int → Bool → List (S38) → Int → Int → List Int → Option (Bool)
 | 0, _, _, _, _, _, _, _, _ => none
 | k + 1, x13, x14, x15, x44, x113000, x115000, x115001, x115002 => if x44 = true then (some false) else (za5.l1 k (-1) x13 x14 x15 x115002 (x115002.length : Int) 0 x113000 x115000 x115001 x115002)
def za5.l1 : Nat → Int → List (S38) → Int → Int → List Int → Int → Int → List (S38) → Int → Int → List Int → Option (Bool)
 | 0, _, _, _, _, _, _, _, _, _, _, _ => none
 | k + 1, x5, x13, x14, x15, x46, x47, x48, x113000, x115000, x115001, x115002 => if x48 < x47 then (if 0 ≤ x48 then (if x48 < (x46.length : Int) then (if (rd x46 x48) ≤ x5 then (some false) else (if (rd x46 x48) ≥ (x113000.length : Int) then (some false) else (if 0 ≤ (rd x46 x48) then (if (rd x46 x48) < (x113000.length : Int) then (if ((zaa x113000 (rd x46 x48)).f1) > x115001 then (some false) else (za5.l1 k (rd x46 x48) x13 x14 x15 x46 x47 (wrap64 (x48 + 1)) x113000 x115000 x115001 x115002)) else (none)) else (none)))) else (none)) else (none)) else (za5.l0 k x13 x14 (wrap64 (x15 + 1)) x113000)
end
def za5.f (k : Nat) (l0_0 : List (S38)) : Option (Bool) := if (l0_0.length : Int) > 4096 then (some false) else (za5.l0 k l0_0 (l0_0.length : Int) 0 l0_0)
def za5.T6 : Bool × List (List Nat × List Nat) := (true, [([], []), ([0], [0]), ([1], [1]), ([2], [2]), ([3, 2], [3]), ([4], [4]), ([5, 4], [4, 5]), ([6, 4, 4], [4, 6]), ([7, 4], [4, 7]), ([4, 8], [4, 8]), ([9, 7], [9]), ([10], [10]), ([11, 10], [10, 11]), ([12, 10, 10], [10, 12]), ([13], [13]), ([14, 13], [13, 14]), ([13], [13]), ([16, 13], [13, 16]), ([15, 17, 13], [13, 15, 17]), ([18, 13], [13, 18]), ([13], [13]), ([19, 20, 13, 13], [13, 19, 20]), ([21, 13], [13, 21]), ([13, 22, 10], [10, 13, 22]), ([10, 23], [10, 23])])
def za5.B6 : List Nat := [0, 1, 3, 7, 15, 31, 63, 127, 255, 511, 1023, 2047, 4095, 8191, 16383, 32767, 16383, 81919, 262143, 524287, 16383, 2097151, 4194303, 8388607, 16777215]
theorem za5.tab6 : rtab .any (opsOf Try.f19 6) = za5.T6 := by kernel_rfl
theorem za5.ze3 : zc4 za5.T6.2 za5.B6 = true := by kernel_rfl
def za5.T12 : Bool × List (List Nat × List Nat) := (true, [([], []), ([], []), ([0, 1], [0, 1]), ([2], [2]), ([3], [3]), ([3], [3]), ([5, 3], [3, 5]), ([6, 3], [3, 6]), ([4, 7, 3], [3, 4, 7]), ([3, 8], [3, 8]), ([9, 3], [9]), ([10], [10]), ([11, 10], [10, 11]), ([10], [10]), ([12, 13, 10], [10, 12, 13]), ([14, 10], [10, 14]), ([15, 10], [10, 15]), ([10], [10]), ([17, 10], [10, 17]), ([16, 18, 10], [10, 16, 18]), ([10, 19], [10, 19])])
def za5.B12 : List Nat := [0, 0, 3, 7, 15, 15, 47, 111, 255, 511, 1023, 2047, 4095, 2047, 16383, 32767, 65535, 2047, 133119, 524287, 1048575]
theorem za5.zeo : rtab .any (opsOf Try.f19 12) = za5.T12 := by kernel_rfl
theorem za5.zd6 : zc4 za5.T12.2 za5.B12 = true := by kernel_rfl
theorem za5.calls (k : Nat) (A0_0 : Option Addr) (c0_0 : Nat) (l0_0 : List (S38)) (r : Bool) (w : World) (hr0_0 : Kd.C k38 w A0_0 l0_0.length l0_0) (hc0_0 : l0_0.length ≤ c0_0) (h : za5.f k l0_0 = some r) :
  Calls Try.prog 19 #[.agg #[.slice A0_0 l0_0.length c0_0]] w fun e w' => e = .returned (.bool r) ∧ Below w.heap.size w w' := by
 have hu24 := Try.underlying24
 have hu38 := Try.underlying38
 have HR0_0 := zab.mk hr0_0;have HC0_0 := zab.mk hc0_0;clear hr0_0 hc0_0
 have HB := zab.mk (Below.refl w.heap.size w)
 have H : (if (l0_0.length : Int) > 4096 then (some false) else (za5.l0 k l0_0 (l0_0.length : Int) 0 l0_0)) = some r := h
 clear h
 by_cases c2 : (l0_0.length : Int) > 4096
 ·rw [if_pos c2] at H
  have c2b0 := decide_eq_true c2
  have c2b1 : decide (4096 < l0_0.length) = true := decide_eq_true (by omega)
  clear c2;obtain rfl := Option.some.inj H
  go_enter Try.func19, Try.ntmps19
  go_wp2_with (first | ((with_reducible refine zbb (N := 1) rfl ?_); (try (refine zdk (by rfl) ?_; dsimp only)); refine Ybx 1 #[.slice A0_0 l0_0.length c0_0] 24 ?_; intro gb112 hg w3 hbox hb; obtain ⟨BK112, GW112, GE112, HB⟩ := Yb4 hbox hg hb Ybe; clear hb hbox hg; obtain ⟨hcz4_0, hfz4_0⟩ := Yc1 BK112.out))
  go_ret
  exact ⟨Yfi, Yb_PFitx2_0⟩
 ·rw [if_neg c2] at H
  have c2b0 := decide_eq_false c2
  have c2b1 : decide (4096 < l0_0.length) = false := decide_eq_false (by omega)
  clear c2
  have H' := zab.mk H
  clear H
  go_enter Try.func19, Try.ntmps19
  go_wp2_with (first | ((with_reducible refine zbb (N := 1) rfl ?_); (try (refine zdk (by rfl) ?_; dsimp only)); refine Ybx 1 #[.slice A0_0 l0_0.length c0_0] 24 ?_; intro gb112 hg w5 hbox hb; obtain ⟨BK112, GW112, GE112, HB⟩ := Yb4 hbox hg hb Ybe; clear hb hbox hg; obtain ⟨hcz6_0, hfz6_0⟩ := Yc1 BK112.out))
  go_loopg [15] k (fun kq v15 w' => ∃ (x15_1 : Int), v15 = .int .i64 x15_1 ∧ zab (za5.l0 kq l0_0 (l0_0.length : Int) x15_1 l0_0 = some r) ∧ zab (kq ≤ k) ∧ zab (w'.heap[gb112]? = some (.cells #[(.slice A0_0 l0_0.length c0_0)] 24 (0, 0))) ∧ zab (Below w.heap.size w w'))
  case atStart => exact ⟨(0), Yfs, H', ⟨Nat.le_refl _⟩, ⟨Yg BK112⟩, ⟨Yb_PFitx2_0⟩⟩
  case round =>
   clear H'
   obtain ⟨x15_1, rfl, HA, HK1, BK112, HB⟩ := hrel
   cases gk with
   | zero => exact absurd HA.out (by simp [za5.l0])
   | succ k1 =>
    have H := HA.out;clear HA
    simp only [za5.l0] at H
    by_cases c7 : x15_1 < (l0_0.length : Int)
    ·rw [if_pos c7] at H
     have c7b0 := decide_eq_true c7
     clear c7
     by_cases c8 : 0 ≤ x15_1
     ·rw [if_pos c8] at H
      have c8b0 := decide_eq_true c8
      clear c8
      by_cases c9 : x15_1 < (l0_0.length : Int)
      ·rw [if_pos c9] at H
       have c9b0 := decide_eq_true c9
       clear c9;have HC10 := zab.mk H;clear H
       have p113 : 0 ≤ (x15_1 : Int) := Yod
       have q113 : x15_1 < (l0_0.length : Int) := Yod
       obtain ⟨ad113, A113_2, c113_2, e113, hx113_0, hx113_1, hx113_2, hl113_2, hi113_2⟩ := zbn HR0_0.out x15_1 p113 q113
       cases e113
       replace hx113_0 := zai HB.out hx113_0
       replace hx113_1 := zai HB.out hx113_1
       replace hx113_2 := zai HB.out hx113_2
       have HR113_2 := zab.mk hi113_2;have HC113_2 := zab.mk hl113_2;clear hi113_2 hl113_2
       replace p113 := eq_true p113
       replace q113 := eq_true q113
       go_upto_region 6 with (first | ((with_reducible refine zbb (N := 4) rfl ?_); (try (refine zdk (by rfl) ?_; dsimp only)); refine Ybx 4 #[.int .i64 0, .int .i64 0, .slice none 0 0] 38 ?_; intro gb114 hg w11 hbox hb; obtain ⟨BK114, GW114, GE114, HB⟩ := Yb4 hbox hg hb Yb_PFitx2_0; have NB112_114 := Ynl BK112 hg; have NB114_112 := Yng BK112 hg; replace BK112 := Ykb BK112 hb; clear hb hbox hg; have hnb12 := NB114_112.out; have hnc12 := NB112_114.out; obtain ⟨hcz13_0, hfz13_0, hcz13_1, hfz13_1, hcz13_2, hfz13_2⟩ := Yc3 BK114.out))
       (try simp only [Act.put, Y1, Y2, Y3])
       go_cut [44] (fun v44 wc => ∃ (kq : Nat) (x44_9 : Bool), v44 = .bool x44_9 ∧ zab (za5.j1 kq l0_0 (l0_0.length : Int) x15_1 x44_9 l0_0 ((zaa l0_0 x15_1).f0) ((zaa l0_0 x15_1).f1) ((zaa l0_0 x15_1).f2) = some r) ∧ zab (kq ≤ k1) ∧ zab (wc.heap[gb112]? = some (.cells #[(.slice (some ad113) l0_0.length c0_0)] 24 (0, 0))) ∧ zab (wc.heap[gb114]? = some (.cells #[.int .i64 ((zaa l0_0 x15_1).f0), .int .i64 ((zaa l0_0 x15_1).f1), (.slice A113_2 ((zaa l0_0 x15_1).f2).length c113_2)] 38 (0, 0))) ∧ zab (Below w.heap.size w wc))
       case first =>
        have H := HC10.out;clear HC10;replace H := Option.bind_eq_some_iff.mp H
        obtain ⟨t115, A140, H⟩ := H
        replace H : (if t115 = true then ((zcg.f ((zaa l0_0 x15_1).f1)).bind fun t116 => (if t116 = true then (if x15_1 > 0 then (if 0 ≤ (wrap64 (x15_1 - 1)) then (if (wrap64 (x15_1 - 1)) < (l0_0.length : Int) then ((zb4.f k1 ((zaa l0_0 (wrap64 (x15_1 - 1))).f0) ((zaa l0_0 (wrap64 (x15_1 - 1))).f1) ((zaa l0_0 (wrap64 (x15_1 - 1))).f2) ((zaa l0_0 x15_1).f0) ((zaa l0_0 x15_1).f1) ((zaa l0_0 x15_1).f2)).bind fun t118 => (za5.j1 k1 l0_0 (l0_0.length : Int) x15_1 (decide (t118 ≥ 0)) l0_0 ((zaa l0_0 x15_1).f0) ((zaa l0_0 x15_1).f1) ((zaa l0_0 x15_1).f2))) else (none)) else (none)) else (za5.j1 k1 l0_0 (l0_0.length : Int) x15_1 false l0_0 ((zaa l0_0 x15_1).f0) ((zaa l0_0 x15_1).f1) ((zaa l0_0 x15_1).f2))) else (za5.j1 k1 l0_0 (l0_0.length : Int) x15_1 true l0_0 ((zaa l0_0 x15_1).f0) ((zaa l0_0 x15_1).f1) ((zaa l0_0 x15_1).f2)))) else (za5.j1 k1 l0_0 (l0_0.length : Int) x15_1 true l0_0 ((zaa l0_0 x15_1).f0) ((zaa l0_0 x15_1).f1) ((zaa l0_0 x15_1).f2))) = some r := H
        have A14 := zab.mk A140;clear A140
        by_cases c15 : t115 = true
        ·subst c15
         have H1 : ((zcg.f ((zaa l0_0 x15_1).f1)).bind fun t116 => (if t116 = true then (if x15_1 > 0 then (if 0 ≤ (wrap64 (x15_1 - 1)) then (if (wrap64 (x15_1 - 1)) < (l0_0.length : Int) then ((zb4.f k1 ((zaa l0_0 (wrap64 (x15_1 - 1))).f0) ((zaa l0_0 (wrap64 (x15_1 - 1))).f1) ((zaa l0_0 (wrap64 (x15_1 - 1))).f2) ((zaa l0_0 x15_1).f0) ((zaa l0_0 x15_1).f1) ((zaa l0_0 x15_1).f2)).bind fun t118 => (za5.j1 k1 l0_0 (l0_0.length : Int) x15_1 (decide (t118 ≥ 0)) l0_0 ((zaa l0_0 x15_1).f0) ((zaa l0_0 x15_1).f1) ((zaa l0_0 x15_1).f2))) else (none)) else (none)) else (za5.j1 k1 l0_0 (l0_0.length : Int) x15_1 false l0_0 ((zaa l0_0 x15_1).f0) ((zaa l0_0 x15_1).f1) ((zaa l0_0 x15_1).f2))) else (za5.j1 k1 l0_0 (l0_0.length : Int) x15_1 true l0_0 ((zaa l0_0 x15_1).f0) ((zaa l0_0 x15_1).f1) ((zaa l0_0 x15_1).f2)))) = some r := by rw [if_pos rfl] at H; exact H
         clear H;have H := H1;clear H1;replace H := Option.bind_eq_some_iff.mp H
         obtain ⟨t116, A160, H⟩ := H
         replace H : (if t116 = true then (if x15_1 > 0 then (if 0 ≤ (wrap64 (x15_1 - 1)) then (if (wrap64 (x15_1 - 1)) < (l0_0.length : Int) then ((zb4.f k1 ((zaa l0_0 (wrap64 (x15_1 - 1))).f0) ((zaa l0_0 (wrap64 (x15_1 - 1))).f1) ((zaa l0_0 (wrap64 (x15_1 - 1))).f2) ((zaa l0_0 x15_1).f0) ((zaa l0_0 x15_1).f1) ((zaa l0_0 x15_1).f2)).bind fun t118 => (za5.j1 k1 l0_0 (l0_0.length : Int) x15_1 (decide (t118 ≥ 0)) l0_0 ((zaa l0_0 x15_1).f0) ((zaa l0_0 x15_1).f1) ((zaa l0_0 x15_1).f2))) else (none)) else (none)) else (za5.j1 k1 l0_0 (l0_0.length : Int) x15_1 false l0_0 ((zaa l0_0 x15_1).f0) ((zaa l0_0 x15_1).f1) ((zaa l0_0 x15_1).f2))) else (za5.j1 k1 l0_0 (l0_0.length : Int) x15_1 true l0_0 ((zaa l0_0 x15_1).f0) ((zaa l0_0 x15_1).f1) ((zaa l0_0 x15_1).f2))) = some r := H
         have A16 := zab.mk A160;clear A160
         by_cases c17 : t116 = true
         ·subst c17
          have H1 : (if x15_1 > 0 then (if 0 ≤ (wrap64 (x15_1 - 1)) then (if (wrap64 (x15_1 - 1)) < (l0_0.length : Int) then ((zb4.f k1 ((zaa l0_0 (wrap64 (x15_1 - 1))).f0) ((zaa l0_0 (wrap64 (x15_1 - 1))).f1) ((zaa l0_0 (wrap64 (x15_1 - 1))).f2) ((zaa l0_0 x15_1).f0) ((zaa l0_0 x15_1).f1) ((zaa l0_0 x15_1).f2)).bind fun t118 => (za5.j1 k1 l0_0 (l0_0.length : Int) x15_1 (decide (t118 ≥ 0)) l0_0 ((zaa l0_0 x15_1).f0) ((zaa l0_0 x15_1).f1) ((zaa l0_0 x15_1).f2))) else (none)) else (none)) else (za5.j1 k1 l0_0 (l0_0.length : Int) x15_1 false l0_0 ((zaa l0_0 x15_1).f0) ((zaa l0_0 x15_1).f1) ((zaa l0_0 x15_1).f2))) = some r := by rw [if_pos rfl] at H; exact H
          clear H;have H := H1;clear H1
          by_cases c18 : x15_1 > 0
          ·rw [if_pos c18] at H
           have c18b0 := decide_eq_true c18
           clear c18
           (first | rw [c18b0] | (simp only [zcm, zcz]; rw [c18b0]) | skip)
           obtain ⟨ji19, hji19⟩ : ∃ j_ : Int, (wrap64 (x15_1 - 1)) = j_ := ⟨_, rfl⟩
           replace H : (if 0 ≤ (ji19) then (if (ji19) < (l0_0.length : Int) then ((zb4.f k1 ((zaa l0_0 (ji19)).f0) ((zaa l0_0 (ji19)).f1) ((zaa l0_0 (ji19)).f2) ((zaa l0_0 x15_1).f0) ((zaa l0_0 x15_1).f1) ((zaa l0_0 x15_1).f2)).bind fun t118 => (za5.j1 k1 l0_0 (l0_0.length : Int) x15_1 (decide (t118 ≥ 0)) l0_0 ((zaa l0_0 x15_1).f0) ((zaa l0_0 x15_1).f1) ((zaa l0_0 x15_1).f2))) else (none)) else (none)) = some r := by first | (rw [hji19] at H; exact H) | (simp only [hji19] at H ⊢; exact H)
           (try rw [hji19] at A14)
           (try rw [hji19] at A16)
           have hji19w : (IntKind.i64.wrap (x15_1 - 1)) = ji19 := (zcm _).trans hji19
           by_cases c20 : 0 ≤ (ji19)
           ·rw [if_pos c20] at H
            have c20b0 := decide_eq_true c20
            clear c20
            by_cases c21 : (ji19) < (l0_0.length : Int)
            ·rw [if_pos c21] at H
             have c21b0 := decide_eq_true c21
             clear c21;replace H := Option.bind_eq_some_iff.mp H
             obtain ⟨t118, A220, H⟩ := H
             replace H : (za5.j1 k1 l0_0 (l0_0.length : Int) x15_1 (decide (t118 ≥ 0)) l0_0 ((zaa l0_0 x15_1).f0) ((zaa l0_0 x15_1).f1) ((zaa l0_0 x15_1).f2)) = some r := H
             have A22 := zab.mk A220;clear A220
             have H' := zab.mk H
             clear H
             try go_wp2
             have n0_ : zab ((((w11.setCell ⟨gb114, 0, none⟩ (.int .i64 ((zaa l0_0 x15_1).f0))).setCell ⟨gb114, 1, none⟩ (.int .i64 ((zaa l0_0 x15_1).f1))).setCell ⟨gb114, 2, none⟩ (.slice A113_2 ((zaa l0_0 x15_1).f2).length c113_2)).heap[gb112]? = some (.cells #[.slice (some ad113) l0_0.length c0_0] 24 (0, 0))) := ⟨by (with_reducible repeat (first | refine zae ?_ _ | refine zac ?_ | refine zad ?_ _)); refine zaj ?_ NB112_114.out _; (with_reducible repeat (first | refine zae ?_ _ | refine zac ?_ | refine zad ?_ _)); refine zaj ?_ NB112_114.out _; (with_reducible repeat (first | refine zae ?_ _ | refine zac ?_ | refine zad ?_ _)); refine zaj ?_ NB112_114.out _; (with_reducible repeat (first | refine zae ?_ _ | refine zac ?_ | refine zad ?_ _)); exact BK112.out⟩
             have n1_ : zab ((((w11.setCell ⟨gb114, 0, none⟩ (.int .i64 ((zaa l0_0 x15_1).f0))).setCell ⟨gb114, 1, none⟩ (.int .i64 ((zaa l0_0 x15_1).f1))).setCell ⟨gb114, 2, none⟩ (.slice A113_2 ((zaa l0_0 x15_1).f2).length c113_2)).heap[gb114]? = some (.cells #[.int .i64 ((zaa l0_0 x15_1).f0), .int .i64 ((zaa l0_0 x15_1).f1), .slice A113_2 ((zaa l0_0 x15_1).f2).length c113_2] 38 (0, 0))) := ⟨by (with_reducible repeat (first | refine zae ?_ _ | refine zac ?_ | refine zad ?_ _)); refine zas (cs := #[.int .i64 ((zaa l0_0 x15_1).f0), .int .i64 ((zaa l0_0 x15_1).f1), .slice none 0 0]) ?_ 2 _ rfl; (with_reducible repeat (first | refine zae ?_ _ | refine zac ?_ | refine zad ?_ _)); refine zas (cs := #[.int .i64 ((zaa l0_0 x15_1).f0), .int .i64 0, .slice none 0 0]) ?_ 1 _ rfl; (with_reducible repeat (first | refine zae ?_ _ | refine zac ?_ | refine zad ?_ _)); refine zas (cs := #[.int .i64 0, .int .i64 0, .slice none 0 0]) ?_ 0 _ rfl; (with_reducible repeat (first | refine zae ?_ _ | refine zac ?_ | refine zad ?_ _)); exact BK114.out⟩
             have n2_ : zab (Below w.heap.size w (((w11.setCell ⟨gb114, 0, none⟩ (.int .i64 ((zaa l0_0 x15_1).f0))).setCell ⟨gb114, 1, none⟩ (.int .i64 ((zaa l0_0 x15_1).f1))).setCell ⟨gb114, 2, none⟩ (.slice A113_2 ((zaa l0_0 x15_1).f2).length c113_2))) := ⟨Yb_PFitx2_1⟩
             (try clear BK112)
             (try clear BK114)
             (try clear HB)
             generalize (((w11.setCell ⟨gb114, 0, none⟩ (.int .i64 ((zaa l0_0 x15_1).f0))).setCell ⟨gb114, 1, none⟩ (.int .i64 ((zaa l0_0 x15_1).f1))).setCell ⟨gb114, 2, none⟩ (.slice A113_2 ((zaa l0_0 x15_1).f2).length c113_2)) = w23 at n0_ n1_ n2_ ⊢
             have BK112 := n0_;have BK114 := n1_;have HB := n2_;clear n0_ n1_ n2_
             replace BK112 := zab.mk (zac BK112.out)
             replace BK114 := zab.mk (zac BK114.out)
             replace HB := zab.mk (zav HB.out)
             have p117 : 0 ≤ ((ji19) : Int) := Yod
             have q117 : (ji19) < (l0_0.length : Int) := Yod
             obtain ⟨ad117, A117_2, c117_2, e117, hx117_0, hx117_1, hx117_2, hl117_2, hi117_2⟩ := zbn HR0_0.out (ji19) p117 q117
             have hw117_2 := hx117_2;have hw117_1 := hx117_1;have hw117_0 := hx117_0
             obtain rfl : ad113 = ad117 := (by injection e117)
             replace hx117_0 := zai HB.out hx117_0
             replace hx117_1 := zai HB.out hx117_1
             replace hx117_2 := zai HB.out hx117_2
             have HR117_2 := zab.mk hi117_2;have HC117_2 := zab.mk hl117_2;clear hi117_2 hl117_2
             replace p117 := eq_true p117
             replace q117 := eq_true q117
             refine zbt (n := 25) (S := fun w' => w'.cell? ⟨gb114, 0, none⟩ = some (.int .i64 ((zaa l0_0 x15_1).f0)) ∧ w'.cell? ⟨gb114, 1, none⟩ = some (.int .i64 ((zaa l0_0 x15_1).f1)) ∧ w'.cell? ⟨gb114, 2, none⟩ = some (.slice A113_2 ((zaa l0_0 x15_1).f2).length c113_2) ∧ w'.cell? ⟨gb112, 0, none⟩ = some (.slice (some ad113) l0_0.length c0_0) ∧ w'.cell? (ad113.add (((ji19)).toNat * 3)) = some (.int .i64 ((zaa l0_0 (ji19)).f0)) ∧ w'.cell? ⟨(ad113.add (((ji19)).toNat * 3)).block, (ad113.add (((ji19)).toNat * 3)).off + 1, none⟩ = some (.int .i64 ((zaa l0_0 (ji19)).f1)) ∧ w'.cell? ⟨(ad113.add (((ji19)).toNat * 3)).block, (ad113.add (((ji19)).toNat * 3)).off + 2, none⟩ = some (.slice A117_2 ((zaa l0_0 (ji19)).f2).length c117_2)) (ds := []) (Ymk 25 0) (by kernel_rfl) rfl rfl ⟨(zaf BK114.out 0).trans rfl, (zaf BK114.out 1).trans rfl, (zaf BK114.out 2).trans rfl, (zaf BK112.out 0).trans rfl, ((HB.out.cell (World.block_lt_of_cell? w _ hw117_0)).trans hw117_0), ((HB.out.cell (World.block_lt_of_cell? w _ hw117_1)).trans hw117_1), ((HB.out.cell (World.block_lt_of_cell? w _ hw117_2)).trans hw117_2)⟩ (fun hHeld => ?_); refine zbo za5.tab6 za5.ze3 (fun HT_ HW_ => ?_)
             generalize w23.drew = w24 at BK112 BK114 HB HR117_2 hx117_0 hx117_1 hx117_2 hHeld ⊢
             refine Ypt 0 20 25 1 HT_ ?_
             refine Ytt 1 21 25 3 HT_ HW_ hHeld ?_
             refine Yot 2 22 25 7 HT_ (fun K hK => ?_)
             refine Ygs Try.func37 #[.int .i64 ((zaa l0_0 x15_1).f0)] ?_
             with_reducible refine (zcg.calls ((zaa l0_0 x15_1).f0) true _ A14.out).mono ?_
             rintro e w' ⟨rfl, ⟨nd, rfl⟩⟩
             refine ⟨_, rfl, ?_⟩
             refine hK.out _ _ ⟨(zaf BK114.out 0).trans rfl, (zaf BK114.out 1).trans rfl, (zaf BK114.out 2).trans rfl, (zaf BK112.out 0).trans rfl, ((HB.out.cell (World.block_lt_of_cell? w _ hw117_0)).trans hw117_0), ((HB.out.cell (World.block_lt_of_cell? w _ hw117_1)).trans hw117_1), ((HB.out.cell (World.block_lt_of_cell? w _ hw117_2)).trans hw117_2)⟩ (fun hHeld => ?_)
             clear hK K
             refine Ynw 22 ?_
             refine Ypt 3 23 25 15 HT_ ?_
             refine Ypt 4 24 25 31 HT_ ?_
             refine Ypt 5 25 25 63 HT_ ?_
             refine Ytt 6 26 25 127 HT_ HW_ hHeld ?_
             refine Yot 7 27 25 255 HT_ (fun K hK => ?_)
             refine Ygs Try.func37 #[.int .i64 ((zaa l0_0 x15_1).f1)] ?_
             with_reducible refine (zcg.calls ((zaa l0_0 x15_1).f1) true _ A16.out).mono ?_
             rintro e w' ⟨rfl, ⟨nd, rfl⟩⟩
             refine ⟨_, rfl, ?_⟩
             refine hK.out _ _ ⟨(zaf BK114.out 0).trans rfl, (zaf BK114.out 1).trans rfl, (zaf BK114.out 2).trans rfl, (zaf BK112.out 0).trans rfl, ((HB.out.cell (World.block_lt_of_cell? w _ hw117_0)).trans hw117_0), ((HB.out.cell (World.block_lt_of_cell? w _ hw117_1)).trans hw117_1), ((HB.out.cell (World.block_lt_of_cell? w _ hw117_2)).trans hw117_2)⟩ (fun hHeld => ?_)
             clear hK K
             refine Ynw 27 ?_
             refine Ypt 8 28 25 511 HT_ ?_
             refine Ypt 9 29 25 1023 HT_ ?_
             refine Ypt 10 30 25 2047 HT_ ?_
             refine Ypt 11 31 25 4095 HT_ ?_
             refine Ypt 12 32 25 8191 HT_ ?_
             refine Ypt 13 33 25 16383 HT_ ?_
             refine Ypt 14 34 25 32767 HT_ ?_
             refine Ypt 16 36 25 98303 HT_ ?_
             refine Ypt 17 37 25 229375 HT_ ?_
             refine Ytt 15 35 25 262143 HT_ HW_ hHeld ?_
             refine Ypt 18 38 25 524287 HT_ ?_
             refine Ytt 19 39 25 1048575 HT_ HW_ hHeld ?_
             refine Ytt 20 40 25 2097151 HT_ HW_ hHeld ?_
             refine Yot 21 41 25 4194303 HT_ (fun K hK => ?_)
             refine goes_ Try.func45 (by kernel_rfl) rfl #[.agg #[.int .i64 ((zaa l0_0 (ji19)).f0), .int .i64 ((zaa l0_0 (ji19)).f1), .slice A117_2 ((zaa l0_0 (ji19)).f2).length c117_2], .agg #[.int .i64 ((zaa l0_0 x15_1).f0), .int .i64 ((zaa l0_0 x15_1).f1), .slice A113_2 ((zaa l0_0 x15_1).f2).length c113_2]] (by rfl) rfl rfl (by (try simp only [List.map_toArray, List.map_cons, List.map_nil]); first | done | (simp only [hji19]; rfl) | rfl | (simp only [List.length_drop, List.length_take]; rfl)) ?_
             with_reducible refine (zb4.calls k1 ((zaa l0_0 (ji19)).f0) ((zaa l0_0 (ji19)).f1) _ _ ((zaa l0_0 (ji19)).f2) ((zaa l0_0 x15_1).f0) ((zaa l0_0 x15_1).f1) _ _ ((zaa l0_0 x15_1).f2) t118 _ (Kd.za4 HR117_2.out Yb_PFitx2_1) HC117_2.out (Kd.za4 HR113_2.out Yb_PFitx2_1) HC113_2.out A22.out).mono ?_
             rintro e w25 ⟨rfl, hb⟩
             refine ⟨_, rfl, ?_⟩
             replace BK112 := Ykb BK112 hb
             replace BK114 := Ykb BK114 hb
             replace HB := zab.mk (za1 Yb_PFitx2_1 hb)
             (try clear hb)
             (try clear hb2)
             (try clear hk)
             (try clear hi)
             refine hK.out _ _ ⟨(zaf BK114.out 0).trans rfl, (zaf BK114.out 1).trans rfl, (zaf BK114.out 2).trans rfl, (zaf BK112.out 0).trans rfl, ((HB.out.cell (World.block_lt_of_cell? w _ hw117_0)).trans hw117_0), ((HB.out.cell (World.block_lt_of_cell? w _ hw117_1)).trans hw117_1), ((HB.out.cell (World.block_lt_of_cell? w _ hw117_2)).trans hw117_2)⟩ (fun hHeld => ?_)
             clear hK K
             refine Ynw 41 ?_
             refine Ypt 22 42 25 8388607 HT_ ?_
             refine Ypt 23 43 25 16777215 HT_ ?_
             refine Ypt 24 44 25 33554431 HT_ ?_
             refine zby (zbv HT_.out (by kernel_rfl)) ?_
             try go_wp2
             go_meet
             case rel => exact ⟨_, (decide (t118 ≥ 0)), Yfs, H', ⟨by have := HK1.out; first | omega | exact Nat.le_refl _⟩, ⟨Yg BK112⟩, ⟨Yg BK114⟩, ⟨Yb_PFitx2_1⟩⟩
            ·rw [if_neg c21] at H
             exact absurd H (by simp)
           ·rw [if_neg c20] at H
            exact absurd H (by simp)
          ·rw [if_neg c18] at H
           have c18b0 := decide_eq_false c18
           clear c18
           (first | rw [c18b0] | (simp only [zcm, zcz]; rw [c18b0]) | skip)
           have H' := zab.mk H
           clear H
           try go_wp2
           have n0_ : zab ((((w11.setCell ⟨gb114, 0, none⟩ (.int .i64 ((zaa l0_0 x15_1).f0))).setCell ⟨gb114, 1, none⟩ (.int .i64 ((zaa l0_0 x15_1).f1))).setCell ⟨gb114, 2, none⟩ (.slice A113_2 ((zaa l0_0 x15_1).f2).length c113_2)).heap[gb112]? = some (.cells #[.slice (some ad113) l0_0.length c0_0] 24 (0, 0))) := ⟨by (with_reducible repeat (first | refine zae ?_ _ | refine zac ?_ | refine zad ?_ _)); refine zaj ?_ NB112_114.out _; (with_reducible repeat (first | refine zae ?_ _ | refine zac ?_ | refine zad ?_ _)); refine zaj ?_ NB112_114.out _; (with_reducible repeat (first | refine zae ?_ _ | refine zac ?_ | refine zad ?_ _)); refine zaj ?_ NB112_114.out _; (with_reducible repeat (first | refine zae ?_ _ | refine zac ?_ | refine zad ?_ _)); exact BK112.out⟩
           have n1_ : zab ((((w11.setCell ⟨gb114, 0, none⟩ (.int .i64 ((zaa l0_0 x15_1).f0))).setCell ⟨gb114, 1, none⟩ (.int .i64 ((zaa l0_0 x15_1).f1))).setCell ⟨gb114, 2, none⟩ (.slice A113_2 ((zaa l0_0 x15_1).f2).length c113_2)).heap[gb114]? = some (.cells #[.int .i64 ((zaa l0_0 x15_1).f0), .int .i64 ((zaa l0_0 x15_1).f1), .slice A113_2 ((zaa l0_0 x15_1).f2).length c113_2] 38 (0, 0))) := ⟨by (with_reducible repeat (first | refine zae ?_ _ | refine zac ?_ | refine zad ?_ _)); refine zas (cs := #[.int .i64 ((zaa l0_0 x15_1).f0), .int .i64 ((zaa l0_0 x15_1).f1), .slice none 0 0]) ?_ 2 _ rfl; (with_reducible repeat (first | refine zae ?_ _ | refine zac ?_ | refine zad ?_ _)); refine zas (cs := #[.int .i64 ((zaa l0_0 x15_1).f0), .int .i64 0, .slice none 0 0]) ?_ 1 _ rfl; (with_reducible repeat (first | refine zae ?_ _ | refine zac ?_ | refine zad ?_ _)); refine zas (cs := #[.int .i64 0, .int .i64 0, .slice none 0 0]) ?_ 0 _ rfl; (with_reducible repeat (first | refine zae ?_ _ | refine zac ?_ | refine zad ?_ _)); exact BK114.out⟩
           have n2_ : zab (Below w.heap.size w (((w11.setCell ⟨gb114, 0, none⟩ (.int .i64 ((zaa l0_0 x15_1).f0))).setCell ⟨gb114, 1, none⟩ (.int .i64 ((zaa l0_0 x15_1).f1))).setCell ⟨gb114, 2, none⟩ (.slice A113_2 ((zaa l0_0 x15_1).f2).length c113_2))) := ⟨Yb_PFitx2_1⟩
           (try clear BK112)
           (try clear BK114)
           (try clear HB)
           generalize (((w11.setCell ⟨gb114, 0, none⟩ (.int .i64 ((zaa l0_0 x15_1).f0))).setCell ⟨gb114, 1, none⟩ (.int .i64 ((zaa l0_0 x15_1).f1))).setCell ⟨gb114, 2, none⟩ (.slice A113_2 ((zaa l0_0 x15_1).f2).length c113_2)) = w26 at n0_ n1_ n2_ ⊢
           have BK112 := n0_;have BK114 := n1_;have HB := n2_;clear n0_ n1_ n2_
           replace BK112 := zab.mk (zac BK112.out)
           replace BK114 := zab.mk (zac BK114.out)
           replace HB := zab.mk (zav HB.out)
           refine zbt (n := 25) (S := fun w' => w'.cell? ⟨gb114, 0, none⟩ = some (.int .i64 ((zaa l0_0 x15_1).f0)) ∧ w'.cell? ⟨gb114, 1, none⟩ = some (.int .i64 ((zaa l0_0 x15_1).f1)) ∧ w'.cell? ⟨gb114, 2, none⟩ = some (.slice A113_2 ((zaa l0_0 x15_1).f2).length c113_2)) (ds := []) (Ymk 25 0) (by kernel_rfl) rfl rfl ⟨(zaf BK114.out 0).trans rfl, (zaf BK114.out 1).trans rfl, (zaf BK114.out 2).trans rfl⟩ (fun hHeld => ?_); refine zbo za5.tab6 za5.ze3 (fun HT_ HW_ => ?_)
           generalize w26.drew = w27 at BK112 BK114 HB hHeld ⊢
           refine Ypt 0 20 25 1 HT_ ?_
           refine Ytt 1 21 25 3 HT_ HW_ hHeld ?_
           refine Yot 2 22 25 7 HT_ (fun K hK => ?_)
           refine Ygs Try.func37 #[.int .i64 ((zaa l0_0 x15_1).f0)] ?_
           with_reducible refine (zcg.calls ((zaa l0_0 x15_1).f0) true _ A14.out).mono ?_
           rintro e w' ⟨rfl, ⟨nd, rfl⟩⟩
           refine ⟨_, rfl, ?_⟩
           refine hK.out _ _ ⟨(zaf BK114.out 0).trans rfl, (zaf BK114.out 1).trans rfl, (zaf BK114.out 2).trans rfl⟩ (fun hHeld => ?_)
           clear hK K
           refine Ynw 22 ?_
           refine Ypt 3 23 25 15 HT_ ?_
           refine Ypt 4 24 25 31 HT_ ?_
           refine Ypt 5 25 25 63 HT_ ?_
           refine Ytt 6 26 25 127 HT_ HW_ hHeld ?_
           refine Yot 7 27 25 255 HT_ (fun K hK => ?_)
           refine Ygs Try.func37 #[.int .i64 ((zaa l0_0 x15_1).f1)] ?_
           with_reducible refine (zcg.calls ((zaa l0_0 x15_1).f1) true _ A16.out).mono ?_
           rintro e w' ⟨rfl, ⟨nd, rfl⟩⟩
           refine ⟨_, rfl, ?_⟩
           refine hK.out _ _ ⟨(zaf BK114.out 0).trans rfl, (zaf BK114.out 1).trans rfl, (zaf BK114.out 2).trans rfl⟩ (fun hHeld => ?_)
           clear hK K
           refine Ynw 27 ?_
           refine Ypt 8 28 25 511 HT_ ?_
           refine Ypt 9 29 25 1023 HT_ ?_
           refine Ypt 10 30 25 2047 HT_ ?_
           refine Ypt 11 31 25 4095 HT_ ?_
           refine Ypt 12 32 25 8191 HT_ ?_
           refine Ypt 13 33 25 16383 HT_ ?_
           refine Ypu 14 34 25 32767 HT_ ?_
           refine Ypu 15 35 25 65535 HT_ ?_
           refine Ypu 16 36 25 131071 HT_ ?_
           refine Ypu 17 37 25 262143 HT_ ?_
           refine Ypu 18 38 25 524287 HT_ ?_
           refine Ypu 19 39 25 1048575 HT_ ?_
           refine Ypu 20 40 25 2097151 HT_ ?_
           refine Ypu 21 41 25 4194303 HT_ ?_
           refine Ypu 22 42 25 8388607 HT_ ?_
           refine Ypt 23 43 25 16777215 HT_ ?_
           refine Ypt 24 44 25 33554431 HT_ ?_
           refine zby (zbv HT_.out (by kernel_rfl)) ?_
           try go_wp2
           go_meet
           case rel => exact ⟨_, (false), Yfs, H', ⟨by have := HK1.out; first | omega | exact Nat.le_refl _⟩, ⟨Yg BK112⟩, ⟨Yg BK114⟩, ⟨Yb_PFitx2_1⟩⟩
         ·replace c17 := Bool.eq_false_iff.mpr c17
          subst c17
          have H1 : (za5.j1 k1 l0_0 (l0_0.length : Int) x15_1 true l0_0 ((zaa l0_0 x15_1).f0) ((zaa l0_0 x15_1).f1) ((zaa l0_0 x15_1).f2)) = some r := by rw [if_neg (show ¬ (false = true) by decide)] at H; exact H
          clear H;have H := H1;clear H1
          have H' := zab.mk H
          clear H
          try go_wp2
          have n0_ : zab ((((w11.setCell ⟨gb114, 0, none⟩ (.int .i64 ((zaa l0_0 x15_1).f0))).setCell ⟨gb114, 1, none⟩ (.int .i64 ((zaa l0_0 x15_1).f1))).setCell ⟨gb114, 2, none⟩ (.slice A113_2 ((zaa l0_0 x15_1).f2).length c113_2)).heap[gb112]? = some (.cells #[.slice (some ad113) l0_0.length c0_0] 24 (0, 0))) := ⟨by (with_reducible repeat (first | refine zae ?_ _ | refine zac ?_ | refine zad ?_ _)); refine zaj ?_ NB112_114.out _; (with_reducible repeat (first | refine zae ?_ _ | refine zac ?_ | refine zad ?_ _)); refine zaj ?_ NB112_114.out _; (with_reducible repeat (first | refine zae ?_ _ | refine zac ?_ | refine zad ?_ _)); refine zaj ?_ NB112_114.out _; (with_reducible repeat (first | refine zae ?_ _ | refine zac ?_ | refine zad ?_ _)); exact BK112.out⟩
          have n1_ : zab ((((w11.setCell ⟨gb114, 0, none⟩ (.int .i64 ((zaa l0_0 x15_1).f0))).setCell ⟨gb114, 1, none⟩ (.int .i64 ((zaa l0_0 x15_1).f1))).setCell ⟨gb114, 2, none⟩ (.slice A113_2 ((zaa l0_0 x15_1).f2).length c113_2)).heap[gb114]? = some (.cells #[.int .i64 ((zaa l0_0 x15_1).f0), .int .i64 ((zaa l0_0 x15_1).f1), .slice A113_2 ((zaa l0_0 x15_1).f2).length c113_2] 38 (0, 0))) := ⟨by (with_reducible repeat (first | refine zae ?_ _ | refine zac ?_ | refine zad ?_ _)); refine zas (cs := #[.int .i64 ((zaa l0_0 x15_1).f0), .int .i64 ((zaa l0_0 x15_1).f1), .slice none 0 0]) ?_ 2 _ rfl; (with_reducible repeat (first | refine zae ?_ _ | refine zac ?_ | refine zad ?_ _)); refine zas (cs := #[.int .i64 ((zaa l0_0 x15_1).f0), .int .i64 0, .slice none 0 0]) ?_ 1 _ rfl; (with_reducible repeat (first | refine zae ?_ _ | refine zac ?_ | refine zad ?_ _)); refine zas (cs := #[.int .i64 0, .int .i64 0, .slice none 0 0]) ?_ 0 _ rfl; (with_reducible repeat (first | refine zae ?_ _ | refine zac ?_ | refine zad ?_ _)); exact BK114.out⟩
          have n2_ : zab (Below w.heap.size w (((w11.setCell ⟨gb114, 0, none⟩ (.int .i64 ((zaa l0_0 x15_1).f0))).setCell ⟨gb114, 1, none⟩ (.int .i64 ((zaa l0_0 x15_1).f1))).setCell ⟨gb114, 2, none⟩ (.slice A113_2 ((zaa l0_0 x15_1).f2).length c113_2))) := ⟨Yb_PFitx2_1⟩
          (try clear BK112)
          (try clear BK114)
          (try clear HB)
          generalize (((w11.setCell ⟨gb114, 0, none⟩ (.int .i64 ((zaa l0_0 x15_1).f0))).setCell ⟨gb114, 1, none⟩ (.int .i64 ((zaa l0_0 x15_1).f1))).setCell ⟨gb114, 2, none⟩ (.slice A113_2 ((zaa l0_0 x15_1).f2).length c113_2)) = w28 at n0_ n1_ n2_ ⊢
          have BK112 := n0_;have BK114 := n1_;have HB := n2_;clear n0_ n1_ n2_
          replace BK112 := zab.mk (zac BK112.out)
          replace BK114 := zab.mk (zac BK114.out)
          replace HB := zab.mk (zav HB.out)
          refine zbt (n := 25) (S := fun w' => w'.cell? ⟨gb114, 0, none⟩ = some (.int .i64 ((zaa l0_0 x15_1).f0)) ∧ w'.cell? ⟨gb114, 1, none⟩ = some (.int .i64 ((zaa l0_0 x15_1).f1)) ∧ w'.cell? ⟨gb114, 2, none⟩ = some (.slice A113_2 ((zaa l0_0 x15_1).f2).length c113_2)) (ds := []) (Ymk 25 0) (by kernel_rfl) rfl rfl ⟨(zaf BK114.out 0).trans rfl, (zaf BK114.out 1).trans rfl, (zaf BK114.out 2).trans rfl⟩ (fun hHeld => ?_); refine zbo za5.tab6 za5.ze3 (fun HT_ HW_ => ?_)
          generalize w28.drew = w29 at BK112 BK114 HB hHeld ⊢
          refine Ypt 0 20 25 1 HT_ ?_
          refine Ytt 1 21 25 3 HT_ HW_ hHeld ?_
          refine Yot 2 22 25 7 HT_ (fun K hK => ?_)
          refine Ygs Try.func37 #[.int .i64 ((zaa l0_0 x15_1).f0)] ?_
          with_reducible refine (zcg.calls ((zaa l0_0 x15_1).f0) true _ A14.out).mono ?_
          rintro e w' ⟨rfl, ⟨nd, rfl⟩⟩
          refine ⟨_, rfl, ?_⟩
          refine hK.out _ _ ⟨(zaf BK114.out 0).trans rfl, (zaf BK114.out 1).trans rfl, (zaf BK114.out 2).trans rfl⟩ (fun hHeld => ?_)
          clear hK K
          refine Ynw 22 ?_
          refine Ypt 3 23 25 15 HT_ ?_
          refine Ypt 4 24 25 31 HT_ ?_
          refine Ypt 5 25 25 63 HT_ ?_
          refine Ytt 6 26 25 127 HT_ HW_ hHeld ?_
          refine Yot 7 27 25 255 HT_ (fun K hK => ?_)
          refine Ygs Try.func37 #[.int .i64 ((zaa l0_0 x15_1).f1)] ?_
          with_reducible refine (zcg.calls ((zaa l0_0 x15_1).f1) false _ A16.out).mono ?_
          rintro e w' ⟨rfl, ⟨nd, rfl⟩⟩
          refine ⟨_, rfl, ?_⟩
          refine hK.out _ _ ⟨(zaf BK114.out 0).trans rfl, (zaf BK114.out 1).trans rfl, (zaf BK114.out 2).trans rfl⟩ (fun hHeld => ?_)
          clear hK K
          refine Ynw 27 ?_
          refine Ypt 8 28 25 511 HT_ ?_
          refine Ypt 9 29 25 1023 HT_ ?_
          refine Ypt 10 30 25 2047 HT_ ?_
          refine Ypu 11 31 25 4095 HT_ ?_
          refine Ypu 12 32 25 8191 HT_ ?_
          refine Ypu 13 33 25 16383 HT_ ?_
          refine Ypu 14 34 25 32767 HT_ ?_
          refine Ypu 15 35 25 65535 HT_ ?_
          refine Ypu 16 36 25 131071 HT_ ?_
          refine Ypu 17 37 25 262143 HT_ ?_
          refine Ypu 18 38 25 524287 HT_ ?_
          refine Ypu 19 39 25 1048575 HT_ ?_
          refine Ypu 20 40 25 2097151 HT_ ?_
          refine Ypu 21 41 25 4194303 HT_ ?_
          refine Ypu 22 42 25 8388607 HT_ ?_
          refine Ypu 23 43 25 16777215 HT_ ?_
          refine Ypt 24 44 25 33554431 HT_ ?_
          refine zby (zbv HT_.out (by kernel_rfl)) ?_
          try go_wp2
          go_meet
          case rel => exact ⟨_, (true), Yfs, H', ⟨by have := HK1.out; first | omega | exact Nat.le_refl _⟩, ⟨Yg BK112⟩, ⟨Yg BK114⟩, ⟨Yb_PFitx2_1⟩⟩
        ·replace c15 := Bool.eq_false_iff.mpr c15
         subst c15
         have H1 : (za5.j1 k1 l0_0 (l0_0.length : Int) x15_1 true l0_0 ((zaa l0_0 x15_1).f0) ((zaa l0_0 x15_1).f1) ((zaa l0_0 x15_1).f2)) = some r := by rw [if_neg (show ¬ (false = true) by decide)] at H; exact H
         clear H;have H := H1;clear H1
         have H' := zab.mk H
         clear H
         try go_wp2
         have n0_ : zab ((((w11.setCell ⟨gb114, 0, none⟩ (.int .i64 ((zaa l0_0 x15_1).f0))).setCell ⟨gb114, 1, none⟩ (.int .i64 ((zaa l0_0 x15_1).f1))).setCell ⟨gb114, 2, none⟩ (.slice A113_2 ((zaa l0_0 x15_1).f2).length c113_2)).heap[gb112]? = some (.cells #[.slice (some ad113) l0_0.length c0_0] 24 (0, 0))) := ⟨by (with_reducible repeat (first | refine zae ?_ _ | refine zac ?_ | refine zad ?_ _)); refine zaj ?_ NB112_114.out _; (with_reducible repeat (first | refine zae ?_ _ | refine zac ?_ | refine zad ?_ _)); refine zaj ?_ NB112_114.out _; (with_reducible repeat (first | refine zae ?_ _ | refine zac ?_ | refine zad ?_ _)); refine zaj ?_ NB112_114.out _; (with_reducible repeat (first | refine zae ?_ _ | refine zac ?_ | refine zad ?_ _)); exact BK112.out⟩
         have n1_ : zab ((((w11.setCell ⟨gb114, 0, none⟩ (.int .i64 ((zaa l0_0 x15_1).f0))).setCell ⟨gb114, 1, none⟩ (.int .i64 ((zaa l0_0 x15_1).f1))).setCell ⟨gb114, 2, none⟩ (.slice A113_2 ((zaa l0_0 x15_1).f2).length c113_2)).heap[gb114]? = some (.cells #[.int .i64 ((zaa l0_0 x15_1).f0), .int .i64 ((zaa l0_0 x15_1).f1), .slice A113_2 ((zaa l0_0 x15_1).f2).length c113_2] 38 (0, 0))) := ⟨by (with_reducible repeat (first | refine zae ?_ _ | refine zac ?_ | refine zad ?_ _)); refine zas (cs := #[.int .i64 ((zaa l0_0 x15_1).f0), .int .i64 ((zaa l0_0 x15_1).f1), .slice none 0 0]) ?_ 2 _ rfl; (with_reducible repeat (first | refine zae ?_ _ | refine zac ?_ | refine zad ?_ _)); refine zas (cs := #[.int .i64 ((zaa l0_0 x15_1).f0), .int .i64 0, .slice none 0 0]) ?_ 1 _ rfl; (with_reducible repeat (first | refine zae ?_ _ | refine zac ?_ | refine zad ?_ _)); refine zas (cs := #[.int .i64 0, .int .i64 0, .slice none 0 0]) ?_ 0 _ rfl; (with_reducible repeat (first | refine zae ?_ _ | refine zac ?_ | refine zad ?_ _)); exact BK114.out⟩
         have n2_ : zab (Below w.heap.size w (((w11.setCell ⟨gb114, 0, none⟩ (.int .i64 ((zaa l0_0 x15_1).f0))).setCell ⟨gb114, 1, none⟩ (.int .i64 ((zaa l0_0 x15_1).f1))).setCell ⟨gb114, 2, none⟩ (.slice A113_2 ((zaa l0_0 x15_1).f2).length c113_2))) := ⟨Yb_PFitx2_1⟩
         (try clear BK112)
         (try clear BK114)
         (try clear HB)
         generalize (((w11.setCell ⟨gb114, 0, none⟩ (.int .i64 ((zaa l0_0 x15_1).f0))).setCell ⟨gb114, 1, none⟩ (.int .i64 ((zaa l0_0 x15_1).f1))).setCell ⟨gb114, 2, none⟩ (.slice A113_2 ((zaa l0_0 x15_1).f2).length c113_2)) = w30 at n0_ n1_ n2_ ⊢
         have BK112 := n0_;have BK114 := n1_;have HB := n2_;clear n0_ n1_ n2_
         replace BK112 := zab.mk (zac BK112.out)
         replace BK114 := zab.mk (zac BK114.out)
         replace HB := zab.mk (zav HB.out)
         refine zbt (n := 25) (S := fun w' => w'.cell? ⟨gb114, 0, none⟩ = some (.int .i64 ((zaa l0_0 x15_1).f0)) ∧ w'.cell? ⟨gb114, 1, none⟩ = some (.int .i64 ((zaa l0_0 x15_1).f1)) ∧ w'.cell? ⟨gb114, 2, none⟩ = some (.slice A113_2 ((zaa l0_0 x15_1).f2).length c113_2)) (ds := []) (Ymk 25 0) (by kernel_rfl) rfl rfl ⟨(zaf BK114.out 0).trans rfl, (zaf BK114.out 1).trans rfl, (zaf BK114.out 2).trans rfl⟩ (fun hHeld => ?_); refine zbo za5.tab6 za5.ze3 (fun HT_ HW_ => ?_)
         generalize w30.drew = w31 at BK112 BK114 HB hHeld ⊢
         refine Ypt 0 20 25 1 HT_ ?_
         refine Ytt 1 21 25 3 HT_ HW_ hHeld ?_
         refine Yot 2 22 25 7 HT_ (fun K hK => ?_)
         refine Ygs Try.func37 #[.int .i64 ((zaa l0_0 x15_1).f0)] ?_
         with_reducible refine (zcg.calls ((zaa l0_0 x15_1).f0) false _ A14.out).mono ?_
         rintro e w' ⟨rfl, ⟨nd, rfl⟩⟩
         refine ⟨_, rfl, ?_⟩
         refine hK.out _ _ ⟨(zaf BK114.out 0).trans rfl, (zaf BK114.out 1).trans rfl, (zaf BK114.out 2).trans rfl⟩ (fun hHeld => ?_)
         clear hK K
         refine Ynw 22 ?_
         refine Ypt 3 23 25 15 HT_ ?_
         refine Ypt 4 24 25 31 HT_ ?_
         refine Ypu 5 25 25 63 HT_ ?_
         refine Ypu 6 26 25 127 HT_ ?_
         refine Ypu 7 27 25 255 HT_ ?_
         refine Ypu 8 28 25 511 HT_ ?_
         refine Ypt 9 29 25 1023 HT_ ?_
         refine Ypt 10 30 25 2047 HT_ ?_
         refine Ypu 11 31 25 4095 HT_ ?_
         refine Ypu 12 32 25 8191 HT_ ?_
         refine Ypu 13 33 25 16383 HT_ ?_
         refine Ypu 14 34 25 32767 HT_ ?_
         refine Ypu 15 35 25 65535 HT_ ?_
         refine Ypu 16 36 25 131071 HT_ ?_
         refine Ypu 17 37 25 262143 HT_ ?_
         refine Ypu 18 38 25 524287 HT_ ?_
         refine Ypu 19 39 25 1048575 HT_ ?_
         refine Ypu 20 40 25 2097151 HT_ ?_
         refine Ypu 21 41 25 4194303 HT_ ?_
         refine Ypu 22 42 25 8388607 HT_ ?_
         refine Ypu 23 43 25 16777215 HT_ ?_
         refine Ypt 24 44 25 33554431 HT_ ?_
         refine zby (zbv HT_.out (by kernel_rfl)) ?_
         try go_wp2
         go_meet
         case rel => exact ⟨_, (true), Yfs, H', ⟨by have := HK1.out; first | omega | exact Nat.le_refl _⟩, ⟨Yg BK112⟩, ⟨Yg BK114⟩, ⟨Yb_PFitx2_1⟩⟩
       case rest =>
        clear HC10
        obtain ⟨kq, x44_9, rfl, HA, HJ9, BK112, BK114, HB⟩ := hcut
        cases kq with
        | zero => exact absurd HA.out (by simp [za5.j1])
        | succ kj9 =>
         have H := HA.out;clear HA
         simp only [za5.j1] at H
         by_cases c32 : x44_9 = true
         ·subst c32
          have H1 : (some false) = some r := by rw [if_pos rfl] at H; exact H
          clear H;have H := H1;clear H1;obtain rfl := Option.some.inj H;go_wp2;go_ret
          exact ⟨Yfi, Yb_PFitx2_1⟩
         ·replace c32 := Bool.eq_false_iff.mpr c32
          subst c32
          have H1 : (za5.l1 kj9 (-1) l0_0 (l0_0.length : Int) x15_1 ((zaa l0_0 x15_1).f2) (((zaa l0_0 x15_1).f2).length : Int) 0 l0_0 ((zaa l0_0 x15_1).f0) ((zaa l0_0 x15_1).f1) ((zaa l0_0 x15_1).f2)) = some r := by rw [if_neg (show ¬ (false = true) by decide)] at H; exact H
          clear H;have H := H1;clear H1
          have H' := zab.mk H
          clear H
          have hnb33 := NB114_112.out
          have hnc33 := NB112_114.out
          obtain ⟨hcz34_0, hfz34_0, hcz34_1, hfz34_1, hcz34_2, hfz34_2⟩ := Yc3 BK114.out
          go_wp2
          go_loopg [5, 48] kj9 (fun kq v5 v48 w' => ∃ (x5_3 : Int) (x48_3 : Int), v5 = .int .i64 x5_3 ∧ v48 = .int .i64 x48_3 ∧ zab (za5.l1 kq x5_3 l0_0 (l0_0.length : Int) x15_1 ((zaa l0_0 x15_1).f2) (((zaa l0_0 x15_1).f2).length : Int) x48_3 l0_0 ((zaa l0_0 x15_1).f0) ((zaa l0_0 x15_1).f1) ((zaa l0_0 x15_1).f2) = some r) ∧ zab (kq ≤ kj9) ∧ zab (w'.heap[gb112]? = some (.cells #[(.slice (some ad113) l0_0.length c0_0)] 24 (0, 0))) ∧ zab (w'.heap[gb114]? = some (.cells #[.int .i64 ((zaa l0_0 x15_1).f0), .int .i64 ((zaa l0_0 x15_1).f1), (.slice A113_2 ((zaa l0_0 x15_1).f2).length c113_2)] 38 (0, 0))) ∧ zab (Below w.heap.size w w'))
          case atStart => exact ⟨((-1)), (0), Yfs, Yfs, H', ⟨Nat.le_refl _⟩, ⟨Yg BK112⟩, ⟨Yg BK114⟩, ⟨Yb_PFitx2_1⟩⟩
          case round =>
           clear H'
           obtain ⟨x5_3, x48_3, rfl, rfl, HA, HK3, BK112, BK114, HB⟩ := hrel
           cases gk with
           | zero => exact absurd HA.out (by simp [za5.l1])
           | succ k3 =>
            have H := HA.out;clear HA
            simp only [za5.l1] at H
            by_cases c35 : x48_3 < (((zaa l0_0 x15_1).f2).length : Int)
            ·rw [if_pos c35] at H
             have c35b0 := decide_eq_true c35
             clear c35
             by_cases c36 : 0 ≤ x48_3
             ·rw [if_pos c36] at H
              have c36b0 := decide_eq_true c36
              clear c36
              by_cases c37 : x48_3 < (((zaa l0_0 x15_1).f2).length : Int)
              ·rw [if_pos c37] at H
               have c37b0 := decide_eq_true c37
               clear c37
               by_cases c38 : (rd ((zaa l0_0 x15_1).f2) x48_3) ≤ x5_3
               ·rw [if_pos c38] at H
                have c38b0 := decide_eq_true c38
                clear c38;obtain rfl := Option.some.inj H
                have p119 : 0 ≤ (x48_3 : Int) := Yod
                have q119 : x48_3 < (((zaa l0_0 x15_1).f2).length : Int) := Yod
                obtain ⟨ad119, e119, hx119_0⟩ := Kd.zb1 HR113_2.out x48_3 p119 q119
                cases e119
                replace hx119_0 := zai HB.out hx119_0
                replace p119 := eq_true p119
                replace q119 := eq_true q119
                try go_wp2
                replace BK112 := zab.mk (zac BK112.out)
                replace BK114 := zab.mk (zac BK114.out)
                replace HB := zab.mk (zav HB.out)
                refine zbt (n := 21) (S := fun w' => True) (ds := []) (Ymk 21 0) (by kernel_rfl) rfl rfl trivial (fun hHeld => ?_); refine zbo za5.zeo za5.zd6 (fun HT_ HW_ => ?_)
                generalize wr.drew = w39 at BK112 BK114 HB hHeld ⊢
                refine Ypt 0 52 21 1 HT_ ?_
                refine Ypt 1 53 21 3 HT_ ?_
                refine Ypt 2 54 21 7 HT_ ?_
                refine Ypt 3 55 21 15 HT_ ?_
                refine Ypu 4 56 21 31 HT_ ?_
                refine Ypu 5 57 21 63 HT_ ?_
                refine Ypu 6 58 21 127 HT_ ?_
                refine Ypu 7 59 21 255 HT_ ?_
                refine Ypu 8 60 21 511 HT_ ?_
                refine Ypt 9 61 21 1023 HT_ ?_
                refine Ypt 10 62 21 2047 HT_ ?_
                refine Ypu 11 63 21 4095 HT_ ?_
                refine Ypu 12 64 21 8191 HT_ ?_
                refine Ypu 13 65 21 16383 HT_ ?_
                refine Ypu 14 66 21 32767 HT_ ?_
                refine Ypu 15 67 21 65535 HT_ ?_
                refine Ypu 16 68 21 131071 HT_ ?_
                refine Ypu 17 69 21 262143 HT_ ?_
                refine Ypu 18 70 21 524287 HT_ ?_
                refine Ypu 19 71 21 1048575 HT_ ?_
                refine Ypt 20 72 21 2097151 HT_ ?_
                refine zby (zbv HT_.out (by kernel_rfl)) ?_
                try go_wp2
                go_ret
                exact ⟨Yfi, Yb_PFitx2_1⟩
               ·rw [if_neg c38] at H
                have c38b0 := decide_eq_false c38
                clear c38
                by_cases c40 : (rd ((zaa l0_0 x15_1).f2) x48_3) ≥ (l0_0.length : Int)
                ·rw [if_pos c40] at H
                 have c40b0 := decide_eq_true c40
                 clear c40;obtain rfl := Option.some.inj H
                 have p119 : 0 ≤ (x48_3 : Int) := Yod
                 have q119 : x48_3 < (((zaa l0_0 x15_1).f2).length : Int) := Yod
                 obtain ⟨ad119, e119, hx119_0⟩ := Kd.zb1 HR113_2.out x48_3 p119 q119
                 cases e119
                 replace hx119_0 := zai HB.out hx119_0
                 replace p119 := eq_true p119
                 replace q119 := eq_true q119
                 try go_wp2
                 replace BK112 := zab.mk (zac BK112.out)
                 replace BK114 := zab.mk (zac BK114.out)
                 replace HB := zab.mk (zav HB.out)
                 refine zbt (n := 21) (S := fun w' => w'.cell? ⟨gb112, 0, none⟩ = some (.slice (some ad113) l0_0.length c0_0)) (ds := []) (Ymk 21 0) (by kernel_rfl) rfl rfl ((zaf BK112.out 0).trans rfl) (fun hHeld => ?_); refine zbo za5.zeo za5.zd6 (fun HT_ HW_ => ?_)
                 generalize wr.drew = w41 at BK112 BK114 HB hHeld ⊢
                 refine Ypt 0 52 21 1 HT_ ?_
                 refine Ypt 1 53 21 3 HT_ ?_
                 refine Ypt 2 54 21 7 HT_ ?_
                 refine Ypt 3 55 21 15 HT_ ?_
                 refine Ypt 4 56 21 31 HT_ ?_
                 refine Ypt 5 57 21 63 HT_ ?_
                 refine take_ (i := 6) (N := some 58) (v := ?_) (a' := ?_) (Ymk 21 127) rfl rfl (zh7 HT_.out HW_.out (by kernel_rfl)) (fun _ _ _ h => h) (Or.inl ⟨by rfl, ?_⟩) hHeld ?_ ?_
                 rotate_left
                 ·intro w' s0
                  go_simp
                  with_reducible rfl
                 rotate_left; · simp only [Act.put, Y1, Y2, Y3, zcm, zcz]; rfl
                 refine Ypt 7 59 21 255 HT_ ?_
                 refine Ypt 8 60 21 511 HT_ ?_
                 refine Ypt 9 61 21 1023 HT_ ?_
                 refine Ypt 10 62 21 2047 HT_ ?_
                 refine Ypu 11 63 21 4095 HT_ ?_
                 refine Ypu 12 64 21 8191 HT_ ?_
                 refine Ypu 13 65 21 16383 HT_ ?_
                 refine Ypu 14 66 21 32767 HT_ ?_
                 refine Ypu 15 67 21 65535 HT_ ?_
                 refine Ypu 16 68 21 131071 HT_ ?_
                 refine Ypu 17 69 21 262143 HT_ ?_
                 refine Ypu 18 70 21 524287 HT_ ?_
                 refine Ypu 19 71 21 1048575 HT_ ?_
                 refine Ypt 20 72 21 2097151 HT_ ?_
                 refine zby (zbv HT_.out (by kernel_rfl)) ?_
                 try go_wp2
                 go_ret
                 exact ⟨Yfi, Yb_PFitx2_1⟩
                ·rw [if_neg c40] at H
                 have c40b0 := decide_eq_false c40
                 clear c40
                 by_cases c42 : 0 ≤ (rd ((zaa l0_0 x15_1).f2) x48_3)
                 ·rw [if_pos c42] at H
                  have c42b0 := decide_eq_true c42
                  clear c42
                  by_cases c43 : (rd ((zaa l0_0 x15_1).f2) x48_3) < (l0_0.length : Int)
                  ·rw [if_pos c43] at H
                   have c43b0 := decide_eq_true c43
                   clear c43
                   by_cases c44 : ((zaa l0_0 (rd ((zaa l0_0 x15_1).f2) x48_3)).f1) > ((zaa l0_0 x15_1).f1)
                   ·rw [if_pos c44] at H
                    have c44b0 := decide_eq_true c44
                    clear c44;obtain rfl := Option.some.inj H
                    have p119 : 0 ≤ (x48_3 : Int) := Yod
                    have q119 : x48_3 < (((zaa l0_0 x15_1).f2).length : Int) := Yod
                    obtain ⟨ad119, e119, hx119_0⟩ := Kd.zb1 HR113_2.out x48_3 p119 q119
                    cases e119
                    replace hx119_0 := zai HB.out hx119_0
                    replace p119 := eq_true p119
                    replace q119 := eq_true q119
                    try go_wp2
                    replace BK112 := zab.mk (zac BK112.out)
                    replace BK114 := zab.mk (zac BK114.out)
                    replace HB := zab.mk (zav HB.out)
                    have p120 : 0 ≤ ((rd ((zaa l0_0 x15_1).f2) x48_3) : Int) := Yod
                    have q120 : (rd ((zaa l0_0 x15_1).f2) x48_3) < (l0_0.length : Int) := Yod
                    obtain ⟨ad120, A120_2, c120_2, e120, hx120_0, hx120_1, hx120_2, hl120_2, hi120_2⟩ := zbn HR0_0.out (rd ((zaa l0_0 x15_1).f2) x48_3) p120 q120
                    have hw120_2 := hx120_2;have hw120_1 := hx120_1;have hw120_0 := hx120_0
                    obtain rfl : ad113 = ad120 := (by injection e120)
                    replace hx120_0 := zai HB.out hx120_0
                    replace hx120_1 := zai HB.out hx120_1
                    replace hx120_2 := zai HB.out hx120_2
                    have HR120_2 := zab.mk hi120_2;have HC120_2 := zab.mk hl120_2;clear hi120_2 hl120_2
                    replace p120 := eq_true p120
                    replace q120 := eq_true q120
                    refine zbt (n := 21) (S := fun w' => w'.cell? ⟨gb112, 0, none⟩ = some (.slice (some ad113) l0_0.length c0_0) ∧ w'.cell? ⟨gb114, 0, none⟩ = some (.int .i64 ((zaa l0_0 x15_1).f0)) ∧ w'.cell? ⟨gb114, 1, none⟩ = some (.int .i64 ((zaa l0_0 x15_1).f1)) ∧ w'.cell? ⟨gb114, 2, none⟩ = some (.slice (some ad119) ((zaa l0_0 x15_1).f2).length c113_2) ∧ w'.cell? (ad113.add (((rd ((zaa l0_0 x15_1).f2) x48_3)).toNat * 3)) = some (.int .i64 ((zaa l0_0 (rd ((zaa l0_0 x15_1).f2) x48_3)).f0)) ∧ w'.cell? ⟨(ad113.add (((rd ((zaa l0_0 x15_1).f2) x48_3)).toNat * 3)).block, (ad113.add (((rd ((zaa l0_0 x15_1).f2) x48_3)).toNat * 3)).off + 1, none⟩ = some (.int .i64 ((zaa l0_0 (rd ((zaa l0_0 x15_1).f2) x48_3)).f1)) ∧ w'.cell? ⟨(ad113.add (((rd ((zaa l0_0 x15_1).f2) x48_3)).toNat * 3)).block, (ad113.add (((rd ((zaa l0_0 x15_1).f2) x48_3)).toNat * 3)).off + 2, none⟩ = some (.slice A120_2 ((zaa l0_0 (rd ((zaa l0_0 x15_1).f2) x48_3)).f2).length c120_2)) (ds := []) (Ymk 21 0) (by kernel_rfl) rfl rfl ⟨(zaf BK112.out 0).trans rfl, (zaf BK114.out 0).trans rfl, (zaf BK114.out 1).trans rfl, (zaf BK114.out 2).trans rfl, ((HB.out.cell (World.block_lt_of_cell? w _ hw120_0)).trans hw120_0), ((HB.out.cell (World.block_lt_of_cell? w _ hw120_1)).trans hw120_1), ((HB.out.cell (World.block_lt_of_cell? w _ hw120_2)).trans hw120_2)⟩ (fun hHeld => ?_); refine zbo za5.zeo za5.zd6 (fun HT_ HW_ => ?_)
                    generalize wr.drew = w45 at BK112 BK114 HB HR120_2 hx120_0 hx120_1 hx120_2 hHeld ⊢
                    refine Ypt 0 52 21 1 HT_ ?_
                    refine Ypt 1 53 21 3 HT_ ?_
                    refine Ypt 2 54 21 7 HT_ ?_
                    refine Ypt 3 55 21 15 HT_ ?_
                    refine Ypt 4 56 21 31 HT_ ?_
                    refine Ypt 5 57 21 63 HT_ ?_
                    refine Ytt 6 58 21 127 HT_ HW_ hHeld ?_
                    refine Ypt 7 59 21 255 HT_ ?_
                    refine Ypt 8 60 21 511 HT_ ?_
                    refine Ypt 9 61 21 1023 HT_ ?_
                    refine Ypt 10 62 21 2047 HT_ ?_
                    refine Ypt 11 63 21 4095 HT_ ?_
                    refine Ypt 13 65 21 12287 HT_ ?_
                    refine Ypt 17 69 21 143359 HT_ ?_
                    refine Ytt 12 64 21 147455 HT_ HW_ hHeld ?_
                    refine Ypt 14 66 21 163839 HT_ ?_
                    refine Ypt 15 67 21 196607 HT_ ?_
                    refine Ytt 16 68 21 262143 HT_ HW_ hHeld ?_
                    refine Ytt 18 70 21 524287 HT_ HW_ hHeld ?_
                    refine Ypt 19 71 21 1048575 HT_ ?_
                    refine Ypt 20 72 21 2097151 HT_ ?_
                    refine zby (zbv HT_.out (by kernel_rfl)) ?_
                    try go_wp2
                    go_ret
                    exact ⟨Yfi, Yb_PFitx2_1⟩
                   ·rw [if_neg c44] at H
                    have c44b0 := decide_eq_false c44
                    clear c44
                    have H' := zab.mk H
                    clear H
                    have p119 : 0 ≤ (x48_3 : Int) := Yod
                    have q119 : x48_3 < (((zaa l0_0 x15_1).f2).length : Int) := Yod
                    obtain ⟨ad119, e119, hx119_0⟩ := Kd.zb1 HR113_2.out x48_3 p119 q119
                    cases e119
                    replace hx119_0 := zai HB.out hx119_0
                    replace p119 := eq_true p119
                    replace q119 := eq_true q119
                    try go_wp2
                    replace BK112 := zab.mk (zac BK112.out)
                    replace BK114 := zab.mk (zac BK114.out)
                    replace HB := zab.mk (zav HB.out)
                    have p120 : 0 ≤ ((rd ((zaa l0_0 x15_1).f2) x48_3) : Int) := Yod
                    have q120 : (rd ((zaa l0_0 x15_1).f2) x48_3) < (l0_0.length : Int) := Yod
                    obtain ⟨ad120, A120_2, c120_2, e120, hx120_0, hx120_1, hx120_2, hl120_2, hi120_2⟩ := zbn HR0_0.out (rd ((zaa l0_0 x15_1).f2) x48_3) p120 q120
                    have hw120_2 := hx120_2;have hw120_1 := hx120_1;have hw120_0 := hx120_0
                    obtain rfl : ad113 = ad120 := (by injection e120)
                    replace hx120_0 := zai HB.out hx120_0
                    replace hx120_1 := zai HB.out hx120_1
                    replace hx120_2 := zai HB.out hx120_2
                    have HR120_2 := zab.mk hi120_2;have HC120_2 := zab.mk hl120_2;clear hi120_2 hl120_2
                    replace p120 := eq_true p120
                    replace q120 := eq_true q120
                    refine zbt (n := 21) (S := fun w' => w'.cell? ⟨gb112, 0, none⟩ = some (.slice (some ad113) l0_0.length c0_0) ∧ w'.cell? ⟨gb114, 0, none⟩ = some (.int .i64 ((zaa l0_0 x15_1).f0)) ∧ w'.cell? ⟨gb114, 1, none⟩ = some (.int .i64 ((zaa l0_0 x15_1).f1)) ∧ w'.cell? ⟨gb114, 2, none⟩ = some (.slice (some ad119) ((zaa l0_0 x15_1).f2).length c113_2) ∧ w'.cell? (ad113.add (((rd ((zaa l0_0 x15_1).f2) x48_3)).toNat * 3)) = some (.int .i64 ((zaa l0_0 (rd ((zaa l0_0 x15_1).f2) x48_3)).f0)) ∧ w'.cell? ⟨(ad113.add (((rd ((zaa l0_0 x15_1).f2) x48_3)).toNat * 3)).block, (ad113.add (((rd ((zaa l0_0 x15_1).f2) x48_3)).toNat * 3)).off + 1, none⟩ = some (.int .i64 ((zaa l0_0 (rd ((zaa l0_0 x15_1).f2) x48_3)).f1)) ∧ w'.cell? ⟨(ad113.add (((rd ((zaa l0_0 x15_1).f2) x48_3)).toNat * 3)).block, (ad113.add (((rd ((zaa l0_0 x15_1).f2) x48_3)).toNat * 3)).off + 2, none⟩ = some (.slice A120_2 ((zaa l0_0 (rd ((zaa l0_0 x15_1).f2) x48_3)).f2).length c120_2)) (ds := []) (Ymk 21 0) (by kernel_rfl) rfl rfl ⟨(zaf BK112.out 0).trans rfl, (zaf BK114.out 0).trans rfl, (zaf BK114.out 1).trans rfl, (zaf BK114.out 2).trans rfl, ((HB.out.cell (World.block_lt_of_cell? w _ hw120_0)).trans hw120_0), ((HB.out.cell (World.block_lt_of_cell? w _ hw120_1)).trans hw120_1), ((HB.out.cell (World.block_lt_of_cell? w _ hw120_2)).trans hw120_2)⟩ (fun hHeld => ?_); refine zbo za5.zeo za5.zd6 (fun HT_ HW_ => ?_)
                    generalize wr.drew = w46 at BK112 BK114 HB HR120_2 hx120_0 hx120_1 hx120_2 hHeld ⊢
                    refine Ypt 0 52 21 1 HT_ ?_
                    refine Ypt 1 53 21 3 HT_ ?_
                    refine Ypt 2 54 21 7 HT_ ?_
                    refine Ypt 3 55 21 15 HT_ ?_
                    refine Ypt 4 56 21 31 HT_ ?_
                    refine Ypt 5 57 21 63 HT_ ?_
                    refine Ytt 6 58 21 127 HT_ HW_ hHeld ?_
                    refine Ypt 7 59 21 255 HT_ ?_
                    refine Ypt 8 60 21 511 HT_ ?_
                    refine Ypt 9 61 21 1023 HT_ ?_
                    refine Ypt 10 62 21 2047 HT_ ?_
                    refine Ypt 11 63 21 4095 HT_ ?_
                    refine Ypt 13 65 21 12287 HT_ ?_
                    refine Ypt 17 69 21 143359 HT_ ?_
                    refine Ytt 12 64 21 147455 HT_ HW_ hHeld ?_
                    refine Ypt 14 66 21 163839 HT_ ?_
                    refine Ypt 15 67 21 196607 HT_ ?_
                    refine Ytt 16 68 21 262143 HT_ HW_ hHeld ?_
                    refine Ytt 18 70 21 524287 HT_ HW_ hHeld ?_
                    refine Ypt 19 71 21 1048575 HT_ ?_
                    refine Ypt 20 72 21 2097151 HT_ ?_
                    refine zby (zbv HT_.out (by kernel_rfl)) ?_
                    try go_wp2
                    go_roundg k3
                    case measure => have := HK1.out; have := HJ9.out; have := HK3.out; omega
                    case rel => exact ⟨(rd ((zaa l0_0 x15_1).f2) x48_3), (wrap64 (x48_3 + 1)), Yfs, Yfs, H', ⟨by have := HK1.out; have := HJ9.out; have := HK3.out; omega⟩, ⟨Yg BK112⟩, ⟨Yg BK114⟩, ⟨Yb_PFitx2_1⟩⟩
                  ·rw [if_neg c43] at H
                   exact absurd H (by simp)
                 ·rw [if_neg c42] at H
                  exact absurd H (by simp)
              ·rw [if_neg c37] at H
               exact absurd H (by simp)
             ·rw [if_neg c36] at H
              exact absurd H (by simp)
            ·rw [if_neg c35] at H
             have c35b0 := decide_eq_false c35
             clear c35
             have H' := zab.mk H
             clear H;go_wp2
             go_roundg k3
             case measure => have := HK1.out; have := HJ9.out; have := HK3.out; omega
             case rel => exact ⟨(wrap64 (x15_1 + 1)), Yfs, H', ⟨by have := HK1.out; have := HJ9.out; have := HK3.out; omega⟩, ⟨Yg BK112⟩, ⟨Yb_PFitx2_1⟩⟩
      ·rw [if_neg c9] at H
       exact absurd H (by simp)
     ·rw [if_neg c8] at H
      exact absurd H (by simp)
    ·rw [if_neg c7] at H
     have c7b0 := decide_eq_false c7
     clear c7;obtain rfl := Option.some.inj H;go_wp2;go_ret
     exact ⟨Yfi, Yb_PFitx2_0⟩
end Go.Proofs.ZZ.PFit
end
section
namespace Go.Proofs.ZZ.PInts
open Go.RowKit Go.Proofs.ZW.PrintWords Go.Proofs.ZW.PrintLast Go.Proofs.ZW.PrintMore
attribute [local go_sem] zch zct
def za3.l0 : Nat → List Int → List Int → Int → Option (Bool)
 | 0, _, _, _ => none
 | k + 1, x0, x1, x5 => if x5 < (x0.length : Int) then (if 0 ≤ x5 then (if x5 < (x1.length : Int) then (if (rd x0 x5) = (rd x1 x5) then (za3.l0 k x0 x1 (wrap64 (x5 + 1))) else (some false)) else (none)) else (none)) else (some true)
def za3.f (k : Nat) (l0 : List Int) (l1 : List Int) : Option (Bool) := if (l0.length : Int) = (l1.length : Int) then (za3.l0 k l0 l1 0) else (some false)
theorem za3.calls (k : Nat) (A0 : Option Addr) (c0 : Nat) (l0 : List Int) (A1 : Option Addr) (c1 : Nat) (l1 : List Int) (r : Bool) (w : World) (hr0 : Kd.C (Kd.int .i64) w A0 l0.length l0) (hc0 : l0.length ≤ c0) (hr1 : Kd.C (Kd.int .i64) w A1 l1.length l1) (hc1 : l1.length ≤ c1) (h : za3.f k l0 l1 = some r) :
  Calls Try.prog 44 #[.slice A0 l0.length c0, .slice A1 l1.length c1] w fun e w' => e = .returned (.bool r) ∧ zbc w w' := by
 have HR0 := zab.mk hr0;have HC0 := zab.mk hc0;clear hr0 hc0;have HR1 := zab.mk hr1;have HC1 := zab.mk hc1;clear hr1 hc1
 have H : (if (l0.length : Int) = (l1.length : Int) then (za3.l0 k l0 l1 0) else (some false)) = some r := h
 clear h
 by_cases c3 : (l0.length : Int) = (l1.length : Int)
 ·rw [if_pos c3] at H
  have c3b0 : ((l0.length : Int) == (l1.length : Int)) = true := beq_iff_eq.mpr c3
  have c3b1 : ((l0.length : Int) != (l1.length : Int)) = false := bne_eq_false_iff_eq.mpr c3
  have c3b2 : (l0.length == l1.length) = true := by first | simpa using c3 | (simp at c3 ⊢; omega)
  clear c3
  have H' := zab.mk H
  clear H
  go_enter Try.func44, Try.ntmps44
  go_wp2
  repeat (go_quiet (fail); try go_wp2)
  go_loopg [5] k (fun kq v5 w' => ∃ (x5_1 : Int), v5 = .int .i64 x5_1 ∧ zab (za3.l0 kq l0 l1 x5_1 = some r) ∧ zab (kq ≤ k) ∧ zbc w w')
  case atStart => exact ⟨(0), Yfs, H', ⟨Nat.le_refl _⟩, by repeat (first | exact zbc.refl _ | apply zbc.step)⟩
  case round =>
   clear H'
   obtain ⟨x5_1, rfl, HA, HK1, ⟨m1, rfl⟩⟩ := hrel
   cases gk with
   | zero => exact absurd HA.out (by simp [za3.l0])
   | succ k1 =>
    have H := HA.out;clear HA
    simp only [za3.l0] at H
    by_cases c4 : x5_1 < (l0.length : Int)
    ·rw [if_pos c4] at H
     have c4b0 := decide_eq_true c4
     clear c4
     by_cases c5 : 0 ≤ x5_1
     ·rw [if_pos c5] at H
      have c5b0 := decide_eq_true c5
      clear c5
      by_cases c6 : x5_1 < (l1.length : Int)
      ·rw [if_pos c6] at H
       have c6b0 := decide_eq_true c6
       clear c6
       by_cases c7 : (rd l0 x5_1) = (rd l1 x5_1)
       ·rw [if_pos c7] at H
        have c7b0 : ((rd l0 x5_1) == (rd l1 x5_1)) = true := beq_iff_eq.mpr c7
        have c7b1 : ((rd l0 x5_1) != (rd l1 x5_1)) = false := bne_eq_false_iff_eq.mpr c7
        clear c7
        have H' := zab.mk H
        clear H
        have p101 : 0 ≤ (x5_1 : Int) := Yod
        have q101 : x5_1 < (l0.length : Int) := Yod
        obtain ⟨ad101, e101, hx101_0⟩ := Kd.zb1 HR0.out x5_1 p101 q101
        cases e101
        replace p101 := eq_true p101
        replace q101 := eq_true q101
        have p102 : 0 ≤ (x5_1 : Int) := Yod
        have q102 : x5_1 < (l1.length : Int) := Yod
        obtain ⟨ad102, e102, hx102_0⟩ := Kd.zb1 HR1.out x5_1 p102 q102
        cases e102
        replace p102 := eq_true p102
        replace q102 := eq_true q102
        go_wp2
        repeat (go_quiet (fail); try go_wp2)
        go_roundg k1
        case measure => have := HK1.out; omega
        case rel => exact ⟨(wrap64 (x5_1 + 1)), Yfs, H', ⟨by have := HK1.out; omega⟩, by repeat (first | exact zbc.refl _ | apply zbc.step)⟩
       ·rw [if_neg c7] at H
        have c7b0 : ((rd l0 x5_1) == (rd l1 x5_1)) = false := beq_eq_false_iff_ne.mpr c7
        have c7b1 : ((rd l0 x5_1) != (rd l1 x5_1)) = true := bne_iff_ne.mpr c7
        obtain rfl := Option.some.inj H
        have p101 : 0 ≤ (x5_1 : Int) := Yod
        have q101 : x5_1 < (l0.length : Int) := Yod
        obtain ⟨ad101, e101, hx101_0⟩ := Kd.zb1 HR0.out x5_1 p101 q101
        cases e101
        replace p101 := eq_true p101
        replace q101 := eq_true q101
        have p102 : 0 ≤ (x5_1 : Int) := Yod
        have q102 : x5_1 < (l1.length : Int) := Yod
        obtain ⟨ad102, e102, hx102_0⟩ := Kd.zb1 HR1.out x5_1 p102 q102
        cases e102
        replace p102 := eq_true p102
        replace q102 := eq_true q102
        go_wp2
        repeat (go_quiet (fail); try go_wp2)
        go_ret
        exact ⟨Yfs, by repeat (first | exact zbc.refl _ | apply zbc.step)⟩
      ·rw [if_neg c6] at H
       exact absurd H (by simp)
     ·rw [if_neg c5] at H
      exact absurd H (by simp)
    ·rw [if_neg c4] at H
     have c4b0 := decide_eq_false c4
     clear c4;obtain rfl := Option.some.inj H;go_wp2
     repeat (go_quiet (fail); try go_wp2)
     go_ret
     exact ⟨Yfs, by repeat (first | exact zbc.refl _ | apply zbc.step)⟩
 ·rw [if_neg c3] at H
  have c3b0 : ((l0.length : Int) == (l1.length : Int)) = false := beq_eq_false_iff_ne.mpr c3
  have c3b1 : ((l0.length : Int) != (l1.length : Int)) = true := bne_iff_ne.mpr c3
  have c3b2 : (l0.length == l1.length) = false := by first | simpa using c3 | (simp at c3 ⊢; omega)
  obtain rfl := Option.some.inj H
  go_enter Try.func44, Try.ntmps44
  go_wp2
  repeat (go_quiet (fail); try go_wp2)
  go_ret
  exact ⟨Yfs, by repeat (first | exact zbc.refl _ | apply zbc.step)⟩
def zcd.f (k : Nat) (l0 : List Int) (l1 : List Int) : Option (Bool) := (za3.f k l0 l1).bind fun t103 => (some t103)
theorem zcd.calls (k : Nat) (A0 : Option Addr) (c0 : Nat) (l0 : List Int) (A1 : Option Addr) (c1 : Nat) (l1 : List Int) (r : Bool) (w : World) (hr0 : Kd.C (Kd.int .i64) w A0 l0.length l0) (hc0 : l0.length ≤ c0) (hr1 : Kd.C (Kd.int .i64) w A1 l1.length l1) (hc1 : l1.length ≤ c1) (h : zcd.f k l0 l1 = some r) :
  Calls Try.prog 24 #[.slice A0 l0.length c0, .slice A1 l1.length c1] w fun e w' => e = .returned (.bool r) ∧ zbc w w' := by
 have HR0 := zab.mk hr0;have HC0 := zab.mk hc0;clear hr0 hc0;have HR1 := zab.mk hr1;have HC1 := zab.mk hc1;clear hr1 hc1
 have H : ((za3.f k l0 l1).bind fun t103 => (some t103)) = some r := h
 clear h;replace H := Option.bind_eq_some_iff.mp H
 obtain ⟨t103, A30, H⟩ := H
 replace H : (some t103) = some r := H
 have A3 := zab.mk A30;clear A30;obtain rfl := Option.some.inj H
 go_enter Try.func24, Try.ntmps24
 go_wp2_with (first | ((with_reducible refine za6 (f := 44) rfl ?_); refine Ygl (some 7) Try.func44 #[.slice A0 l0.length c0, .slice A1 l1.length c1] ?_; (with_reducible refine (za3.calls k _ _ l0 _ _ l1 t103 _ ?side1 HC0.out ?side3 HC1.out A3.out).mono ?_); (case side1 => repeat (first | exact HR0.out | (with_reducible refine Kd.C_alloc ?_ _) | (with_reducible refine Kd.C_drewN ?_ _) | (with_reducible refine Kd.C_drew ?_))); (case side3 => repeat (first | exact HR1.out | (with_reducible refine Kd.C_alloc ?_ _) | (with_reducible refine Kd.C_drewN ?_ _) | (with_reducible refine Kd.C_drew ?_))); rintro e w' ⟨rfl, ⟨nd, rfl⟩⟩; refine ⟨_, rfl, ?_⟩))
 go_ret
 exact ⟨Yfs, by repeat (first | exact zbc.refl _ | apply zbc.step)⟩
def zcd.Pure : Prop := ∀ (l0 : List Int) (l1 : List Int), l0.length ≤ maxLen → l0.length * 8 ≤ 140737488351232 → (∀ x ∈ l0, (Lit.int .i64 x).wf = true) → l1.length ≤ maxLen → l1.length * 8 ≤ 140737488351232 → (∀ x ∈ l1, (Lit.int .i64 x).wf = true) → ∃ k, zcd.f k l0 l1 = some true
end Go.Proofs.ZZ.PInts
end
section
namespace Go.Proofs.ZZ.GAwake
open Go Go.RowKit Go.Shelf Go.Maps Go.Proofs.ZW.PrintWords Go.Proofs.ZW.PrintLast Go.Proofs.ZZ.RangeG Go.Proofs.ZZ.GMap Go.Proofs.ZZ.GK Go.Proofs.ZZ.G16 Go.Proofs.ZZ.GGr Go.Proofs.ZZ.GAdd Go.Proofs.ZZ.GTop Go.Proofs.ZZ.GStk Go.Proofs.ZZ.GPush Go.Proofs.ZZ.GBack Go.Proofs.ZZ.GCount Go.Proofs.ZZ.GSeq Go.Proofs.ZZ.GRow Go.Proofs.ZZ.GPaths
theorem zfl {g : List Nd} (h1 : g.length ≤ 4096) (h2 : (marks g).Pairwise mlt) (h3 : ∀ x ∈ g, NdOk g.length x) (h4 : ∀ x ∈ g, ∀ k ∈ x.2.2, (g.getD k.toNat (0, 0, [])).2.1 ≤ x.2.1) : FitG g := by
 refine ⟨h1, h2, h3, ?_⟩
 rintro m m' ⟨x, hx, rfl, k, hk, k0, hk'⟩
 have := h4 x hx k hk
 obtain ⟨y, hy, rfl⟩ : ∃ y, g[k.toNat]? = some y ∧ mrk y = m' := by
  unfold marks at hk'
  rw [List.getElem?_map] at hk'
  obtain ⟨y, hy, he⟩ := Option.map_eq_some_iff.1 hk'
  exact ⟨y, hy, he⟩
 rw [List.getD_eq_getElem?_getD, hy] at this
 exact this
def X0 : List Nd := [(0, 0, [])]
def X1 : List Nd := [(0, 0, []), (1, 1, [0])]
def X2 : List Nd := [(0, 0, []), (1, 1, [0]), (2, 1, [0])]
def X3 : List Nd := [(0, 0, []), (1, 1, [0]), (2, 1, [0]), (3, 2, [1])]
def X4 : List Nd := [(0, 0, []), (1, 1, [0]), (2, 1, [0]), (3, 2, [1, 2])]
theorem nd_ok {n : Nat} {x : Nd} (h : 0 ≤ x.1 ∧ x.1 ≤ 65535 ∧ 0 ≤ x.2.1 ∧ x.2.1 ≤ 65535 ∧ x.2.2.Pairwise (· < ·) ∧ ∀ k ∈ x.2.2, 0 ≤ k ∧ k < (n : Int)) : NdOk n x := ⟨h.1, h.2.1, h.2.2.1, h.2.2.2.1, h.2.2.2.2.1, h.2.2.2.2.2⟩
theorem fit0 : FitG X0 := zfl (by decide) (by unfold X0 marks; simp) (fun x hx => nd_ok (by unfold X0 at *; simp at hx; subst hx; simp)) (fun x hx k hk => by unfold X0 at *; simp at hx; subst hx; simp at hk)
theorem fit1 : FitG X1 := zfl (by decide) (by unfold X1 marks mlt mrk; simp) (fun x hx => nd_ok (by unfold X1 at *; simp at hx; rcases hx with rfl | rfl <;> simp)) (fun x hx k hk => by unfold X1 at *; simp at hx; rcases hx with rfl | rfl <;> simp at hk <;> subst hk <;> simp)
theorem fit2 : FitG X2 := zfl (by decide) (by unfold X2 marks mlt mrk; simp) (fun x hx => nd_ok (by unfold X2 at *; simp at hx; rcases hx with rfl | rfl | rfl <;> simp)) (fun x hx k hk => by unfold X2 at *; simp at hx; rcases hx with rfl | rfl | rfl <;> simp at hk <;> subst hk <;> simp)
theorem fit3 : FitG X3 := zfl (by decide) (by unfold X3 marks mlt mrk; simp) (fun x hx => nd_ok (by unfold X3 at *; simp at hx; rcases hx with rfl | rfl | rfl | rfl <;> simp)) (fun x hx k hk => by unfold X3 at *; simp at hx; rcases hx with rfl | rfl | rfl | rfl <;> simp at hk <;> subst hk <;> simp)
theorem fit4 : FitG X4 := zfl (by decide) (by unfold X4 marks mlt mrk; simp) (fun x hx => nd_ok (by unfold X4 at *; simp at hx; rcases hx with rfl | rfl | rfl | rfl <;> simp)) (fun x hx k hk => by unfold X4 at *; simp at hx; rcases hx with rfl | rfl | rfl | rfl <;> simp at hk <;> (try rcases hk with rfl | rfl) <;> (try subst hk) <;> simp)
theorem back1 : backV X4 3 1 = [1, 2] := by
 have h := zfj fit4 (node := 3) (by decide) (by decide) 1
 have e : zcv X4 3 1 = [1, 2] := zdw (lt := (· < ·)) (fun a => by omega) (fun h1 h2 => Int.lt_trans h1 h2) h.1 (by simp) (fun z => by rw [zey]; simp [Bk, lnk, X4]; try omega)
 exact e
theorem back2 : backV X4 3 2 = [0] := by
 have h := zfj fit4 (node := 3) (by decide) (by decide) 2
 have e : zcv X4 3 2 = [0] := zdw (lt := (· < ·)) (fun a => by omega) (fun h1 h2 => Int.lt_trans h1 h2) h.1 (by simp) (fun z => by rw [zey]; simp [Bk, lnk, X4]; try omega)
 exact e
theorem g1 : zbq X0 0 1 1 = (X1, 1, true) := by rfl
theorem g2 : zbq X1 0 2 1 = (X2, 2, true) := by rfl
theorem g3 : zbq X2 1 3 2 = (X3, 3, true) := by rfl
theorem g4 : zbq X3 2 3 2 = (X4, 3, true) := by rfl
theorem p4 : zd9 X4 3 2 = [[3, 1, 0], [3, 2, 0]] := by rfl
theorem f4 : PFit.za5.f 30 [⟨0, 0, []⟩, ⟨1, 1, [0]⟩, ⟨2, 1, [0]⟩, ⟨3, 2, [1, 2]⟩] = some true := by kernel_rfl
theorem i1 : PInts.zcd.f 9 [1, 2] [1, 2] = some true := by kernel_rfl
theorem i2 : PInts.zcd.f 9 [0] [0] = some true := by kernel_rfl
theorem n0 : PNew.zhh.f 0 = some [⟨0, 0, []⟩] := by rfl
theorem C_iso {α β : Type} {d : Kd α} {f : β → α} {w : World} {A : Option Addr} {n : Nat} {xs : List β} (h : Kd.C (Kd.iso d f) w A n xs) : Kd.C d w A n (xs.map f) := by
 obtain ⟨h1, h2, h3⟩ := h
 refine ⟨by simpa using h1, h2, fun h0 => ?_⟩
 obtain ⟨ad, e, hc⟩ := h3 h0
 refine ⟨ad, e, fun j p hj => ?_⟩
 rw [List.getElem?_map] at hj
 cases hx : xs[j]? with
 | none => rw [hx] at hj; cases hj
 | some x =>
  rw [hx] at hj
  obtain rfl : f x = p := by simpa using hj
  exact hc j x hx
theorem C_uniso {α β : Type} {d : Kd α} {f : β → α} {w : World} {A : Option Addr} {n : Nat} {xs : List β} (h : Kd.C d w A n (xs.map f)) : Kd.C (Kd.iso d f) w A n xs := by
 obtain ⟨h1, h2, h3⟩ := h
 refine ⟨by simpa using h1, h2, fun h0 => ?_⟩
 obtain ⟨ad, e, hc⟩ := h3 h0
 refine ⟨ad, e, fun j p hj => ?_⟩
 exact hc j (f p) (by rw [List.getElem?_map, hj]; rfl)
theorem new_calls (w : World) : Calls Try.prog 21 #[.int .i64 0] w fun e w' => ∃ A c, e = .returned (.agg #[.slice A 1 c]) ∧ 1 ≤ c ∧ Kd.C kN w' A 1 X0 ∧ Below w.heap.size w w' := by
 refine (PNew.zhh.calls 0 _ w n0).mono ?_
 rintro e w' ⟨v, rfl, hR, hB⟩
 obtain ⟨A, c, rfl, hc, h⟩ := Kd.zdh hR
 exact ⟨A, c, rfl, hc, C_iso h, hB⟩
theorem push1 (A : Option Addr) (c : Nat) (w : World) (hc : 1 ≤ c) (h : Kd.C kN w A 1 X0) : Calls Try.prog 13 #[.agg #[.slice A 1 c], .int .i64 0, .int .i64 1, .int .i64 1] w fun e w' => ∃ A' c', e = .returned (.tuple #[.agg #[.slice A' 2 c'], .int .i64 1, .bool true]) ∧ 2 ≤ c' ∧ Kd.C kN w' A' 2 X1 ∧ Below w.heap.size w w' := by
 have := ze9 A c X0 0 1 1 w h hc fit0 (by decide)
 rwa [g1] at this
theorem push2 (A : Option Addr) (c : Nat) (w : World) (hc : 2 ≤ c) (h : Kd.C kN w A 2 X1) : Calls Try.prog 13 #[.agg #[.slice A 2 c], .int .i64 0, .int .i64 2, .int .i64 1] w fun e w' => ∃ A' c', e = .returned (.tuple #[.agg #[.slice A' 3 c'], .int .i64 2, .bool true]) ∧ 3 ≤ c' ∧ Kd.C kN w' A' 3 X2 ∧ Below w.heap.size w w' := by
 have := ze9 A c X1 0 2 1 w h hc fit1 (by decide)
 rwa [g2] at this
theorem push3 (A : Option Addr) (c : Nat) (w : World) (hc : 3 ≤ c) (h : Kd.C kN w A 3 X2) : Calls Try.prog 13 #[.agg #[.slice A 3 c], .int .i64 1, .int .i64 3, .int .i64 2] w fun e w' => ∃ A' c', e = .returned (.tuple #[.agg #[.slice A' 4 c'], .int .i64 3, .bool true]) ∧ 4 ≤ c' ∧ Kd.C kN w' A' 4 X3 ∧ Below w.heap.size w w' := by
 have := ze9 A c X2 1 3 2 w h hc fit2 (by decide)
 rwa [g3] at this
theorem push4 (A : Option Addr) (c : Nat) (w : World) (hc : 4 ≤ c) (h : Kd.C kN w A 4 X3) : Calls Try.prog 13 #[.agg #[.slice A 4 c], .int .i64 2, .int .i64 3, .int .i64 2] w fun e w' => ∃ A' c', e = .returned (.tuple #[.agg #[.slice A' 4 c'], .int .i64 3, .bool true]) ∧ 4 ≤ c' ∧ Kd.C kN w' A' 4 X4 ∧ Below w.heap.size w w' := by
 have := ze9 A c X3 2 3 2 w h hc fit3 (by decide)
 rwa [g4] at this
theorem paths4 (A : Option Addr) (c : Nat) (w : World) (h : Kd.C kN w A 4 X4) : Calls Try.prog 10 #[.agg #[.slice A 4 c], .int .i64 3, .int .i64 2] w fun e w' => ∃ A' c' ec, e = .returned (.tuple #[.slice A' 2 c', .int .i64 ec]) ∧ ec = 0 ∧ Below w.heap.size w w' := by
 refine (paths_calls A c X4 3 2 w h fit4).mono ?_
 rintro e w' ⟨v, ys, ec, rfl, ho, _, hB, _, hs⟩
 have hs : ec = 0 ∧ ys.map (·.2) = zd9 X4 3 2 := by
  rcases hs with hs | ⟨_, _, hs⟩
  ·exact hs
  ·exact absurd hs (by decide)
 have hy : ys.length = 2 := by
  have := congrArg List.length hs.2
  rw [p4] at this
  simpa using this
 rw [hy] at ho
 rcases ho.2 with ⟨_, h0⟩ | ⟨g, cap, cur, hv, _⟩
 ·omega
 ·exact ⟨_, _, ec, by rw [hv], hs.1, hB⟩
theorem back4 (A : Option Addr) (c : Nat) (w : World) (n : Int) (l : List Int) (hl : backV X4 3 n = l) (h : Kd.C kN w A 4 X4) : Calls Try.prog 11 #[.agg #[.slice A 4 c], .int .i64 3, .int .i64 n] w fun e w' => ∃ A' c', e = .returned (.slice A' l.length c') ∧ l.length ≤ c' ∧ Kd.C (Kd.int .i64) w' A' l.length l ∧ Below w.heap.size w w' := by
 refine (back_calls A c X4 3 n w h fit4).mono ?_
 rintro e w' ⟨v, rfl, hR, hB⟩
 rw [hl] at hR
 obtain ⟨A', c', rfl, hc, h⟩ := Kd.zdh hR
 exact ⟨A', c', rfl, hc, h, hB⟩
theorem fit4_calls (A : Option Addr) (c : Nat) (w : World) (hc : 4 ≤ c) (h : Kd.C kN w A 4 X4) : Calls Try.prog 19 #[.agg #[.slice A 4 c]] w fun e w' => e = .returned (.bool true) ∧ Below w.heap.size w w' :=
 PFit.za5.calls 30 A c [⟨0, 0, []⟩, ⟨1, 1, [0]⟩, ⟨2, 1, [0]⟩, ⟨3, 2, [1, 2]⟩] true w (C_uniso h) hc f4
theorem not_box {w : World} {b : Nat} {v : Value} {t : TypeId} {fr : Nat × Nat} (hb : w.heap[b]? = some (.cells #[v] t fr)) (hv : ∀ i, v ≠ .int .i64 i) {a : Addr} {x : Int} (h : w.cell? a = some (.int .i64 x)) : a.block ≠ b := by
 intro e
 unfold World.cell? at h
 rw [e, hb] at h
 simp at h
 obtain ⟨_, h⟩ := h
 cases ho : a.off with
 | zero => rw [ho] at h; simp at h; exact hv _ h
 | succ k => rw [ho] at h; simp at h
theorem add_block (a : Addr) (k : Nat) : (a.add k).block = a.block := by
 unfold Addr.add
 split <;> rfl
theorem rows_box {α : Type} {K : Kd α} {w w' : World} {b : Nat} (hk : ∀ (a : Addr) u, w.cell? a = some u → a.block ≠ b → w'.cell? a = some u) {A : Option Addr} {n : Nat} {xs : List α} (h : Kd.C K w A n xs) (hK : ∀ p cs, K.K w p cs → K.K w' p cs) (hne : ∀ ad, A = some ad → 0 < n → ad.block ≠ b) : Kd.C K w' A n xs := by
 obtain ⟨h1, h2, h3⟩ := h
 refine ⟨h1, h2, fun h0 => ?_⟩
 obtain ⟨ad, e, hc⟩ := h3 h0
 refine ⟨ad, e, fun j p hj => ?_⟩
 obtain ⟨cs, hl, hKp, hcs⟩ := hc j p hj
 exact ⟨cs, hl, hK _ _ hKp, fun i u hi => hk _ _ (hcs i u hi) (by rw [add_block]; exact hne ad e h0)⟩
theorem ints_box {w w' : World} {b : Nat} {v : Value} {t : TypeId} {fr : Nat × Nat} (hb : w.heap[b]? = some (.cells #[v] t fr)) (hv : ∀ i, v ≠ .int .i64 i) (hk : ∀ (a : Addr) u, w.cell? a = some u → a.block ≠ b → w'.cell? a = some u) {A : Option Addr} {l : List Int} (h : Kd.C (Kd.int .i64) w A l.length l) : Kd.C (Kd.int .i64) w' A l.length l :=
 rows_box hk h (fun _ _ h => h) (fun ad e h0 => by
  obtain ⟨ad2, e2, hc⟩ := atI h (List.getElem?_eq_getElem h0)
  rw [e] at e2
  injection e2 with e2
  subst e2
  have := not_box hb hv hc
  rwa [add_block] at this)
theorem nodes_box {w w' : World} {b : Nat} {v : Value} {t : TypeId} {fr : Nat × Nat} (hb : w.heap[b]? = some (.cells #[v] t fr)) (hv : ∀ i, v ≠ .int .i64 i) (hk : ∀ (a : Addr) u, w.cell? a = some u → a.block ≠ b → w'.cell? a = some u) {A : Option Addr} {xs : List Nd} (h : Kd.C kN w A xs.length xs) : Kd.C kN w' A xs.length xs :=
 rows_box hk h (fun p cs h => by
  obtain ⟨A, c, rfl, l, g⟩ := kN_open h
  exact kN_mk l (ints_box hb hv hk g)) (fun ad e h0 => by
  obtain ⟨ad2, A2, c2, e2, hc, _⟩ := zd2 h (List.getElem?_eq_getElem h0)
  rw [e] at e2
  injection e2 with e2
  subst e2
  have := not_box hb hv hc
  rwa [add_block] at this)
theorem set_cell_far {w : World} {b : Nat} {v : Value} (a : Addr) (u : Value) (h : w.cell? a = some u) (hne : a.block ≠ b) : (w.setCell ⟨b, 0, none⟩ v).cell? a = some u := by
 unfold World.cell? at h ⊢
 rw [Below.heap_setCell _ _ _ _ hne]
 exact h
theorem zfk {W V : World} {b n : Nat} {v : Value} {A : Option Addr} {c : Nat} {xs : List Nd} (hB : W.heap[b]? = some (.cells #[v] TG (0, 0))) (hv : ∀ i, v ≠ .int .i64 i) (hV : W.setCell ⟨b, 0, none⟩ (.slice A n c) = V) (hn : xs.length = n) (h : Kd.C kN W A n xs) : Kd.C kN V A n xs ∧ V.heap[b]? = some (.cells #[.slice A n c] TG (0, 0)) ∧ V.heap.size = W.heap.size := by
 subst hn;subst hV
 exact ⟨nodes_box hB hv set_cell_far h, Boxed.set _ hB, by simp⟩
theorem box_new {W V : World} {n : Nat} {A : Option Addr} {c : Nat} {xs : List Nd} (hV : W.alloc (.cells #[.slice A n c] TG) = V) (h : Kd.C kN W A n xs) : Kd.C kN V A n xs ∧ V.heap[W.heap.size]? = some (.cells #[.slice A n c] TG (0, 0)) ∧ Below W.heap.size W V := by
 subst hV
 exact ⟨Kd.za4 h ((Below.refl _ _).alloc (Nat.le_refl _) _), zbp _ _, (Below.refl _ _).alloc (Nat.le_refl _) _⟩
theorem zid (A0 A1 : Option Addr) (c0 c1 : Nat) (l : List Int) (w : World) (h0 : Kd.C (Kd.int .i64) w A0 l.length l) (h1 : Kd.C (Kd.int .i64) w A1 l.length l) (hc0 : l.length ≤ c0) (hc1 : l.length ≤ c1) (h : PInts.zcd.f 9 l l = some true) : Calls Try.prog 24 #[.slice A0 l.length c0, .slice A1 l.length c1] w fun e w' => e = .returned (.bool true) ∧ Below w.heap.size w w' := by
 refine (PInts.zcd.calls 9 A0 c0 l A1 c1 l true w h0 hc0 h1 hc1 h).mono ?_
 rintro e w' ⟨rfl, hd⟩
 exact ⟨rfl, hd.below⟩
theorem ints_two (A0 A1 : Option Addr) (c0 : Nat) (w : World) (h0 : Kd.C (Kd.int .i64) w A0 2 [1, 2]) (h1 : Kd.C (Kd.int .i64) w A1 2 [1, 2]) (hc0 : 2 ≤ c0) : Calls Try.prog 24 #[.slice A0 2 c0, .slice A1 2 2] w fun e w' => e = .returned (.bool true) ∧ Below w.heap.size w w' := zid A0 A1 c0 2 [1, 2] w h0 h1 hc0 (by decide) i1
theorem ints_one (A0 A1 : Option Addr) (c0 : Nat) (w : World) (h0 : Kd.C (Kd.int .i64) w A0 1 [0]) (h1 : Kd.C (Kd.int .i64) w A1 1 [0]) (hc0 : 1 ≤ c0) : Calls Try.prog 24 #[.slice A0 1 c0, .slice A1 1 1] w fun e w' => e = .returned (.bool true) ∧ Below w.heap.size w w' := zid A0 A1 c0 1 [0] w h0 h1 hc0 (by decide) i2
theorem row_new (W : World) (l : List Int) (V : World) (hV : W.alloc (.cells ((l.map (Value.int .i64)).toArray) TI) = V) (hl : l.length ≤ 100) : Kd.C (Kd.int .i64) V (some ⟨W.heap.size, 0, none⟩) l.length l := by
 have ho : V.ownsRow W.heap.size TI 1 (.slice (some ⟨W.heap.size, 0, none⟩) l.length l.length) l.length (ints l) := by
  refine ⟨by rw [ints_len]; omega, .inr ⟨W.heap.size, l.length, (l.map (Value.int .i64)).toArray, rfl, Nat.le_refl _, by rw [← hV]; exact zbp W _, by omega, by unfold maxLen; omega, by simp, by rw [Nat.mul_one]; show List.take l.length (List.map (Value.int IntKind.i64) l) = List.map (Value.int IntKind.i64) l; exact List.take_of_length_le (by simp)⟩⟩
 obtain ⟨A, c, e, _, h⟩ := Kd.zdh (GSrt.own_R ho)
 injection e with e1 _ _
 rw [e1]
 exact h
theorem row_two {W V : World} (h : W.alloc (.cells #[.int .i64 1, .int .i64 2] TI) = V) : Kd.C (Kd.int .i64) V (some ⟨W.heap.size, 0, none⟩) [1, 2].length [1, 2] := row_new W [1, 2] V h (by decide)
theorem row_one' {W V : World} (h : W.alloc (.cells #[.int .i64 0] TI) = V) : Kd.C (Kd.int .i64) V (some ⟨W.heap.size, 0, none⟩) [0].length [0] := row_new W [0] V h (by decide)
theorem row_below {W V : World} {o : Obj} (h : W.alloc o = V) : Below W.heap.size W V := by
 rw [← h]
 exact (Below.refl _ _).alloc (Nat.le_refl _) _
theorem awake_calls (w : World) : Calls Try.prog 9 #[] w fun e w' => e = .returned (.bool true) ∧ Below w.heap.size w w' := by
 have hnew := new_calls w
 go_enter Try.func9, Try.ntmps9
 go_wp2_with (first
  | (go_at_call 21; refine hnew.mono ?_; rintro e W1 ⟨A1, c1, rfl, k1, h1, b1⟩)
  | (go_at_call 13; with_reducible refine (push1 A1 c1 W1 k1 h1).mono ?_; rintro e W2 ⟨A2, c2, rfl, k2, h2, b2⟩; clear hnew h1; obtain ⟨V2, hV2⟩ : ∃ X, W2.alloc (.cells #[.slice A2 2 c2] TG) = X := ⟨_, rfl⟩; obtain ⟨C2, B2, d2⟩ := box_new hV2 h2; have cc2 := zaf B2 0)
  | (go_at_call 13; with_reducible refine (push2 A2 c2 V2 k2 C2).mono ?_; rintro e W3 ⟨A3, c3, rfl, k3, h3, b3⟩; clear C2 h2; have B3 := zax B2 b3; have cc3 := zaf B3 0; have ff3 := zbr B3 0; obtain ⟨V3, hV3⟩ : ∃ X, W3.setCell ⟨W2.heap.size, 0, none⟩ (.slice A3 3 c3) = X := ⟨_, rfl⟩; obtain ⟨C3, B4, z3⟩ := zfk B3 (fun i h => by cases h) hV3 rfl h3; have cc4 := zaf B4 0; have Z3 := Lib.hid z3; clear z3)
  | (go_at_call 13; with_reducible refine (push3 A3 c3 V3 k3 C3).mono ?_; rintro e W4 ⟨A4, c4, rfl, k4, h4, b4⟩; clear C3 h3; obtain ⟨V4, hV4⟩ : ∃ X, W4.alloc (.cells #[.slice A4 4 c4] TG) = X := ⟨_, rfl⟩; obtain ⟨C4, B5, d4⟩ := box_new hV4 h4; have cc5 := zaf B5 0)
  | (go_at_call 13; with_reducible refine (push4 A4 c4 V4 k4 C4).mono ?_; rintro e W5 ⟨A5, c5, rfl, k5, h5, b5⟩; clear C4 h4; have B6 := zax B5 b5; have cc6 := zaf B6 0; have ff6 := zbr B6 0; obtain ⟨V5, hV5⟩ : ∃ X, W5.setCell ⟨W4.heap.size, 0, none⟩ (.slice A5 4 c5) = X := ⟨_, rfl⟩; obtain ⟨C5, B7, z5⟩ := zfk B6 (fun i h => by cases h) hV5 rfl h5; have cc7 := zaf B7 0; have Z5 := Lib.hid z5; clear z5)
  | (go_at_call 10; refine (paths4 A5 c5 V5 C5).mono ?_; rintro e W6 ⟨A6, c6, ec, rfl, rfl, b6⟩; have C6 := Kd.za4 C5 b6; have B8x := zax B7 b6; have cc8 := zaf B8x 0)
  | (go_at_call 11; with_reducible refine (back4 A5 c5 W6 1 [1, 2] back1 C6).mono ?_; rintro e W7 ⟨A7, c7, rfl, k7, h7, b7⟩; have C7 := Kd.za4 C6 b7; have B9x := zax B8x b7; have cc9 := zaf B9x 0; obtain ⟨V7, hV7⟩ : ∃ X, W7.alloc (.cells #[.int .i64 1, .int .i64 2] TI) = X := ⟨_, rfl⟩; have r7 := row_two hV7; have d7 := row_below hV7; have g7 := Kd.za4 h7 d7; have D7 := Kd.za4 C7 d7; have B10x := zax B9x d7; have cc10 := zaf B10x 0)
  | (go_at_call 24; have q7 := ints_two A7 _ c7 V7 g7 r7 k7; with_reducible refine q7.mono ?_; rintro e W8 ⟨rfl, b8⟩; have C8 := Kd.za4 D7 b8; have B11x := zax B10x b8; have cc11 := zaf B11x 0)
  | (go_at_call 11; with_reducible refine (back4 A5 c5 W8 2 [0] back2 C8).mono ?_; rintro e W9 ⟨A9, c9, rfl, k9, h9, b9⟩; have C9 := Kd.za4 C8 b9; have B12x := zax B11x b9; have cc12 := zaf B12x 0; obtain ⟨V9, hV9⟩ : ∃ X, W9.alloc (.cells #[.int .i64 0] TI) = X := ⟨_, rfl⟩; have r9 := row_one' hV9; have d9 := row_below hV9; have g9 := Kd.za4 h9 d9; have D9 := Kd.za4 C9 d9; have B13x := zax B12x d9; have cc13 := zaf B13x 0)
  | (go_at_call 24; have q9 := ints_one A9 _ c9 V9 g9 r9 k9; with_reducible refine q9.mono ?_; rintro e W10 ⟨rfl, b10⟩; have C10 := Kd.za4 D9 b10; have B14x := zax B13x b10; have cc14 := zaf B14x 0)
  | (go_at_call 19; refine (fit4_calls A5 c5 W10 k5 C10).mono ?_; rintro e W11 ⟨rfl, b11⟩)
  | go_in)
 go_ret
 refine ⟨rfl, ?_⟩
 have x2 := b1.trans (b2.mono b1.size)
 have y2 := x2.trans (d2.mono x2.size)
 have x3 := y2.trans (b3.mono y2.size)
 have y3 : Below w.heap.size w V3 := by rw [← hV3]; exact x3.setCell (p := ⟨W2.heap.size, 0, none⟩) x2.size _
 have x4 := y3.trans (b4.mono y3.size)
 have y4 := x4.trans (d4.mono x4.size)
 have x5 := y4.trans (b5.mono y4.size)
 have y5 : Below w.heap.size w V5 := by rw [← hV5]; exact x5.setCell (p := ⟨W4.heap.size, 0, none⟩) x4.size _
 have x6 := y5.trans (b6.mono y5.size)
 have x7 := x6.trans (b7.mono x6.size)
 have y7 := x7.trans (d7.mono x7.size)
 have x8 := y7.trans (b8.mono y7.size)
 have x9 := x8.trans (b9.mono x8.size)
 have y9 := x9.trans (d9.mono x9.size)
 have x10 := y9.trans (b10.mono y9.size)
 exact x10.trans (b11.mono x10.size)
end Go.Proofs.ZZ.GAwake
end
section
namespace Go.Proofs.ZZ.GGiv
open Go Go.RowKit Go.Shelf Go.Maps Go.Proofs.ZW.PrintWords Go.Proofs.ZW.PrintLast Go.Proofs.ZZ.GK Go.Proofs.ZZ.G16 Go.Proofs.ZZ.GGr Go.Proofs.ZZ.GAdd
instance mltDec (a b : Mk) : Decidable (mlt a b) := by unfold mlt; infer_instance
def fitB (g : List Nd) : Bool := decide (g.length ≤ 4096) && decide ((marks g).Pairwise mlt) && g.all fun x => decide (0 ≤ x.1) && decide (x.1 ≤ 65535) && decide (0 ≤ x.2.1) && decide (x.2.1 ≤ 65535) && decide (x.2.2.Pairwise (· < ·)) && x.2.2.all fun k => decide (0 ≤ k) && decide (k < (g.length : Int)) && decide ((g.getD k.toNat (0, 0, [])).2.1 ≤ x.2.1)
theorem fit_fit {g : List Nd} (h : fitB g = true) : FitG g := by
 unfold fitB at h
 simp only [Bool.and_eq_true, decide_eq_true_eq, List.all_eq_true] at h
 obtain ⟨⟨h1, h2⟩, h3⟩ := h
 refine GAwake.zfl h1 h2 (fun x hx => ?_) (fun x hx k hk => ((h3 x hx).2 k hk).2)
 obtain ⟨⟨⟨⟨⟨a, b⟩, c⟩, d⟩, e⟩, f⟩ := h3 x hx
 exact ⟨a, b, c, d, e, fun k hk => (f k hk).1⟩
theorem zhz {g : List Nd} (h : FitG g) : fitB g = true := by
 unfold fitB
 simp only [Bool.and_eq_true, decide_eq_true_eq, List.all_eq_true]
 refine ⟨⟨h.len, h.rise⟩, fun x hx => ?_⟩
 have o := h.ok x hx
 refine ⟨⟨⟨⟨⟨o.s0, o.s1⟩, o.a0⟩, o.a1⟩, o.up⟩, fun k hk => ⟨o.inn k hk, ?_⟩⟩
 obtain ⟨k0, k1⟩ := o.inn k hk
 have hl : k.toNat < g.length := by omega
 have := h.back (mrk x) (mrk g[k.toNat]) ⟨x, hx, rfl, k, hk, k0, by unfold marks; rw [List.getElem?_map, List.getElem?_eq_getElem hl]; rfl⟩
 rw [List.getD_eq_getElem?_getD, List.getElem?_eq_getElem hl]
 exact this
theorem R_map {α β : Type} {d : Kd α} {d' : Kd β} {g : α → β} {e : Nat} {w : World} {base : Nat} {ok : Nat → Prop} {v : Value} {xs : List α} (hz : d'.sz = d.sz) (hM : ∀ ok x cs, d.M w base ok x cs → d'.M w base ok (g x) cs) (h : Kd.R d e w base ok v xs) : Kd.R d' e w base ok v (xs.map g) := by
 obtain ⟨h0, inner, ho, hr⟩ := h
 refine ⟨h0, inner, by rw [List.length_map, hz]; exact ho, by rw [List.length_map, hz]; exact hr.1, fun j p hj => ?_⟩
 rw [List.getElem?_map] at hj
 cases hx : xs[j]? with
 | none => rw [hx] at hj; cases hj
 | some x =>
  rw [hx] at hj
  obtain rfl : g x = p := by simpa using hj
  rw [hz]
  exact hM _ _ _ (hr.2 j x hx)
end Go.Proofs.ZZ.GGiv
end
section
namespace Go.Proofs.ZZ.GGivK
open Go Go.RowKit Go.Shelf Go.Maps Go.Proofs.ZW.PrintWords Go.Proofs.ZW.PrintLast Go.Proofs.ZW.PrintMore Go.Proofs.ZZ.GK Go.Proofs.ZZ.G16 Go.Proofs.ZZ.GGr Go.Proofs.ZZ.GAdd Go.Proofs.ZZ.GRow
def pathsE (g : List Nd) (node n : Int) : List (List Int) × Int := if (GPaths.zd9 g node n).length ≤ 4000 then (GPaths.zd9 g node n, 0) else ([], 15)
theorem push_V {α : Type} {d : Kd α} {f : Nd → α} {P : Nat → Prop} {w' : World} {e base : Nat} {v : Value} {r : List Nd} (hR : Kd.R d e w' base (fun _ => True) v (r.map f)) : Kd.V d e w' base (fun k => P k ∨ base ≤ k) v (r.map f) := Kd.R_V (Kd.zbw (Kd.zc7 hR) (fun k hk => .inr hk.2.1))
theorem zbs {α : Type} {d : Kd α} {e base n c g : Nat} {W : World} {ok : Nat → Prop} {ad : Addr} {xs : List α} (h : Kd.V d e W base ok (.slice (some ad) n c) xs) (hn : 0 < n) (hok : ∀ k, ok k → k ≠ g) (hz : 0 < d.sz) : ad.block ≠ g := by
 obtain ⟨hl, _, hF⟩ := Kd.V_at h
 rintro rfl
 have rd : ∀ W' : World, d.C W' (some ad) xs.length xs → ∃ u, W'.cell? (ad.add 0) = some u := fun W' hC => by
  obtain ⟨ad', e', hc⟩ := hC.2.2 (by omega)
  obtain rfl : ad = ad' := by injection e'
  obtain ⟨cs, h1, _, h3⟩ := hc 0 _ (List.getElem?_eq_getElem (by omega))
  obtain ⟨u, hu⟩ : ∃ u, cs[0]? = some u := ⟨cs[0]'(by omega), List.getElem?_eq_getElem (by omega)⟩
  exact ⟨u, by have := h3 0 u hu; rwa [Nat.zero_mul] at this⟩
 obtain ⟨u, hu⟩ := rd W (Foot.now hF)
 have hlt : ad.block < W.heap.size := World.block_lt_of_cell? W (ad.add 0) hu
 obtain ⟨u', hu'⟩ := rd { W with heap := W.heap.set ad.block (.map #[] 0) hlt } (hF _ (fun k hk _ => by
  show (W.heap.set ad.block _ hlt)[k]? = _
  rw [Array.getElem?_set, if_neg (fun e => hok k hk e.symm)]))
 have : World.cell? { W with heap := W.heap.set ad.block (.map #[] 0) hlt } (ad.add 0) = none := by
  unfold World.cell?
  show (match (W.heap.set ad.block (.map #[] 0) hlt)[ad.block]? with | some (.cells cs _ _) => _ | _ => _) = none
  rw [Array.getElem?_set, if_pos rfl]
 rw [this] at hu'
 cases hu'
end Go.Proofs.ZZ.GGivK
end
