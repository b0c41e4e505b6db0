import Derived.Test.YtkfjhkkbbcpjjaaProg
import Derived.Below
import Derived.Deep.Draws
import Derived.Deep.AppendLies
import Derived.Maps.AppendAt
import Derived.OwnWalk
import Derived.Laws.BytesArg
import Derived.Laws.MakeOwn
import Derived.Laws.OwnMore
import Derived.Deep.OwnRows
import Derived.Tactics
import Derived.Lib.ConvBytes
import Derived.Laws.Slices
import Derived.WalkKit
import Derived.KernelRfl
import Derived.RowKit3
import Derived.Deep.LoopGhost
import Derived.Deep.QuietTactic
import Derived.BigQuiet
import Derived.WideLaws
import Derived.Deep.DeepCutAuto
import Derived.Deep.CutBlock
import Derived.Deep.RegionHeld3
import Derived.Laws.Rows
import Derived.Lib.AppendStr
import Derived.ArgAppend
import Derived.Laws.IdiomCopy
import Derived.OrdersHeld
import Derived.Laws.BitsLemmas
import Derived.RowKit
import Derived.Lib.Strings
import Derived.Lib.Bytealg
import Derived.Lib.Slices
import Derived.Lib.Walk
import Derived.Test.YtkfjhkkbbcpjjaaPackGssPushes3
set_option linter.unusedVariables false
set_option linter.unusedSimpArgs false
set_option maxRecDepth 100000
set_option maxHeartbeats 8000000
section
namespace Go.Proofs.ZZ.PGssPushes
open Go.RowKit Go.Proofs.ZW.PrintWords Go.Proofs.ZW.PrintLast Go.Proofs.ZW.PrintMore
attribute [local go_sem] zch zct
theorem info3 : (Try.prog.info? 3).map (fun i => (i.zero, i.size, i.bytes)) = some (some (.int .i64 0), 1, 8) := by kernel_rfl
theorem info38 : (Try.prog.info? 38).map (fun i => (i.zero, i.size, i.bytes)) = some (some (.agg #[(.int .i64 0), (.int .i64 0), (.slice none 0 0)]), 3, 40) := by kernel_rfl
structure S38 where
 f0 : Int
 f1 : Int
 f2 : (List Int)
def z38 : S38 := ⟨(0 : Int), (0 : Int), ([] : List Int)⟩
def k38 : Kd S38 := Kd.iso (Kd.pair (Kd.int .i64) (Kd.pair (Kd.int .i64) (Kd.slice 3 (Kd.int .i64)))) (fun x : S38 => (x.f0, x.f1, x.f2))
theorem zcw : Kd.Heap k38 := Kd.heap_iso _ (Kd.heap_pair (Kd.zh2 .i64) (Kd.heap_pair (Kd.zh2 .i64) (Kd.heap_slice 3 (Kd.zh2 .i64))))
theorem zfm {w : World} {x : S38} {cs : List Value} (h : k38.K w x cs) : ∃ A2 c2, cs = [.int .i64 x.f0, .int .i64 x.f1, .slice A2 x.f2.length c2] ∧ x.f2.length ≤ c2 ∧ (Kd.int .i64).C w A2 x.f2.length x.f2 := by
 obtain ⟨_, _, rfl, rfl, ⟨_, _, rfl, rfl, ⟨A2, c2, rfl, l2, g2⟩⟩⟩ := h
 exact ⟨A2, c2, rfl, l2, g2⟩
theorem k38_mk (w : World) (x : S38) {A2 : Option Addr} {c2 : Nat} (l2 : x.f2.length ≤ c2) (g2 : (Kd.int .i64).C w A2 x.f2.length x.f2) : k38.K w x [.int .i64 x.f0, .int .i64 x.f1, .slice A2 x.f2.length c2] := ⟨[.int .i64 x.f0], [.int .i64 x.f1, .slice A2 x.f2.length c2], rfl, rfl, ⟨[.int .i64 x.f1], [.slice A2 x.f2.length c2], rfl, rfl, ⟨A2, c2, rfl, l2, g2⟩⟩⟩
theorem zhi (w : World) (base : Nat) (ok : Nat → Prop) (x : S38) {v2 : Value} (g2 : (Kd.int .i64).R 3 w base ok v2 x.f2) : k38.M w base ok x [.int .i64 x.f0, .int .i64 x.f1, v2] := ⟨[.int .i64 x.f0], [.int .i64 x.f1, v2], rfl, rfl, ⟨[.int .i64 x.f1], [v2], rfl, rfl, ⟨v2, rfl, g2⟩⟩⟩
theorem zb5 {W : World} {ok : Nat → Prop} {x : S38} {cs : List Value} (h : Kd.FK k38 W ok x cs) : ∃ A2 c2, cs = [.int .i64 x.f0, .int .i64 x.f1, .slice A2 x.f2.length c2] ∧ x.f2.length ≤ c2 ∧ Kd.F (Kd.int .i64) W ok A2 x.f2.length x.f2 := by
 obtain ⟨A2, c2, rfl, l2, _⟩ := zfm (Kd.zf2 h)
 exact ⟨A2, c2, rfl, l2, (fun W' hW => by obtain ⟨A2_, c2_, he, l2_, g2_⟩ := zfm (h W' hW); injection (Option.some.inj (show some (Value.slice A2 x.f2.length c2) = some (Value.slice A2_ x.f2.length c2_) from congrArg (fun l => l[2]?) he)) with ha_ _ _; rw [ha_]; exact g2_)⟩
theorem k38_mkF (W : World) (ok : Nat → Prop) (x : S38) {A2 : Option Addr} {c2 : Nat} (l2 : x.f2.length ≤ c2) (g2 : Kd.F (Kd.int .i64) W ok A2 x.f2.length x.f2) : Kd.FK k38 W ok x [.int .i64 x.f0, .int .i64 x.f1, .slice A2 x.f2.length c2] := fun W2 hW => k38_mk W2 x l2 (g2 W2 hW)
def zaa (xs : List S38) (i : Int) : S38 := xs.getD i.toNat z38
theorem zbn {w : World} {A : Option Addr} {n : Nat} {xs : List S38} (h : Kd.C k38 w A n xs) (i : Int) (h0 : 0 ≤ i) (h1 : i < n) : ∃ ad A2 c2, A = some ad ∧ w.cell? (ad.add (i.toNat * 3)) = some (.int .i64 (zaa xs i).f0) ∧ w.cell? ⟨(ad.add (i.toNat * 3)).block, (ad.add (i.toNat * 3)).off + 1, none⟩ = some (.int .i64 (zaa xs i).f1) ∧ w.cell? ⟨(ad.add (i.toNat * 3)).block, (ad.add (i.toNat * 3)).off + 2, none⟩ = some (.slice A2 (zaa xs i).f2.length c2) ∧ (zaa xs i).f2.length ≤ c2 ∧ (Kd.int .i64).C w A2 (zaa xs i).f2.length (zaa xs i).f2 := by
 obtain ⟨ad, c, e, _, hK, hc0⟩ := Kd.C_get h z38 i h0 h1
 have hc : ∀ j u, c[j]? = some u → w.cell? (ad.add (i.toNat * 3 + j)) = some u := hc0
 obtain ⟨A2, c2, rfl, l2, g2⟩ := zfm hK
 exact ⟨ad, A2, c2, e, hc 0 _ rfl, by rw [← zb0 _ _ 1 (by omega)]; exact hc 1 _ rfl, by rw [← zb0 _ _ 2 (by omega)]; exact hc 2 _ rfl, l2, g2⟩
structure S24 where
 f0 : (List S38)
theorem Yb_PGssPushesx1_0 {n : Nat} {w w' : World} (h : Below n w w' := by repeat (first | (with_reducible first | exact HB.out | apply za8 | apply za2 | apply zav | refine zau ?_ GE101.out) | exact HB.out)) : Below n w w' := h
theorem Yb_PGssPushesx1_1 {n : Nat} {w w' : World} (h : Below n w w' := by repeat (first | (with_reducible first | exact HB.out | apply za8 | apply za2 | apply zav | refine zau ?_ GE103.out) | exact HB.out)) : Below n w w' := h
theorem Yb_PGssPushesx1_2 {n : Nat} {w w' : World} (h : Below n w w' := by repeat (first | (with_reducible first | exact HB.out | apply za8 | apply za2 | apply zav | refine zau ?_ GE103.out | refine zau ?_ GE104.out) | exact HB.out)) : Below n w w' := h
def za9.l0 : Nat → Int → Int → List (S38) → Option (Bool)
 | 0, _, _, _ => none
 | k + 1, x3, x4, x102000 => if x4 < (x102000.length : Int) then (if x3 ≥ 0 then (if 0 ≤ x4 then (za9.l0 k (wrap64 ((wrap64 (x3 - 1)) - (((zaa x102000 x4).f2).length : Int))) (wrap64 (x4 + 1)) x102000) else (none)) else (some false)) else (if x3 ≥ 0 then (some (decide ((x102000.length : Int) ≤ 120))) else (some false))
def za9.f (k : Nat) (l0_0 : List (S38)) : Option (Bool) := za9.l0 k 3000 0 l0_0
theorem za9.calls (k : Nat) (A0_0 : Option Addr) (c0_0 : Nat) (l0_0 : List (S38)) (r : Bool) (w : World) (hr0_0 : Kd.C k38 w A0_0 l0_0.length l0_0) (hc0_0 : l0_0.length ≤ c0_0) (h : za9.f k l0_0 = some r) :
  Calls Try.prog 7 #[.agg #[.slice A0_0 l0_0.length c0_0]] w fun e w' => e = .returned (.bool r) ∧ Below w.heap.size w w' := by
 have hu24 := Try.underlying24
 have HR0_0 := zab.mk hr0_0;have HC0_0 := zab.mk hc0_0;clear hr0_0 hc0_0
 have HB := zab.mk (Below.refl w.heap.size w)
 have H : (za9.l0 k 3000 0 l0_0) = some r := h
 clear h
 have H' := zab.mk H
 clear H
 go_enter Try.func7, Try.ntmps7
 go_wp2_with (first | ((with_reducible refine zbb (N := 1) rfl ?_); (try (refine zdk (by rfl) ?_; dsimp only)); refine Ybx 1 #[.slice A0_0 l0_0.length c0_0] 24 ?_; intro gb101 hg w2 hbox hb; obtain ⟨BK101, GW101, GE101, HB⟩ := Yb4 hbox hg hb Ybe; clear hb hbox hg))
 go_loopg [3, 4] k (fun kq v3 v4 w' => ∃ (x3_1 : Int) (x4_1 : Int), v3 = .int .i64 x3_1 ∧ v4 = .int .i64 x4_1 ∧ zab (za9.l0 kq x3_1 x4_1 l0_0 = some r) ∧ zab (kq ≤ k) ∧ zab (w'.heap[gb101]? = some (.cells #[(.slice A0_0 l0_0.length c0_0)] 24 (0, 0))) ∧ zab (Below w.heap.size w w'))
 case atStart => exact ⟨(3000), (0), Yfs, Yfs, H', ⟨Nat.le_refl _⟩, ⟨Yg BK101⟩, ⟨Yb_PGssPushesx1_0⟩⟩
 case round =>
  clear H'
  obtain ⟨x3_1, x4_1, rfl, rfl, HA, HK1, BK101, HB⟩ := hrel
  cases gk with
  | zero => exact absurd HA.out (by simp [za9.l0])
  | succ k1 =>
   have H := HA.out;clear HA
   simp only [za9.l0] at H
   by_cases c3 : x4_1 < (l0_0.length : Int)
   ·rw [if_pos c3] at H
    have c3b0 := decide_eq_true c3
    clear c3
    by_cases c4 : x3_1 ≥ 0
    ·rw [if_pos c4] at H
     have c4b0 := decide_eq_true c4
     clear c4
     by_cases c5 : 0 ≤ x4_1
     ·rw [if_pos c5] at H
      have c5b0 := decide_eq_true c5
      clear c5
      have H' := zab.mk H
      clear H
      obtain ⟨hcz6_0, hfz6_0⟩ := Yc1 BK101.out
      have p102 : 0 ≤ (x4_1 : Int) := Yod
      have q102 : x4_1 < (l0_0.length : Int) := Yod
      obtain ⟨ad102, A102_2, c102_2, e102, hx102_0, hx102_1, hx102_2, hl102_2, hi102_2⟩ := zbn HR0_0.out x4_1 p102 q102
      cases e102
      replace hx102_0 := zai HB.out hx102_0
      replace hx102_1 := zai HB.out hx102_1
      replace hx102_2 := zai HB.out hx102_2
      have HR102_2 := zab.mk hi102_2;have HC102_2 := zab.mk hl102_2;clear hi102_2 hl102_2
      replace p102 := eq_true p102
      replace q102 := eq_true q102
      go_wp2
      go_roundg k1
      case measure => have := HK1.out; omega
      case rel => exact ⟨(wrap64 ((wrap64 (x3_1 - 1)) - (((zaa l0_0 x4_1).f2).length : Int))), (wrap64 (x4_1 + 1)), Yfs, Yfs, H', ⟨by have := HK1.out; omega⟩, ⟨Yg BK101⟩, ⟨Yb_PGssPushesx1_0⟩⟩
     ·rw [if_neg c5] at H
      exact absurd H (by simp)
    ·rw [if_neg c4] at H
     have c4b0 := decide_eq_false c4
     clear c4;obtain rfl := Option.some.inj H
     obtain ⟨hcz7_0, hfz7_0⟩ := Yc1 BK101.out
     go_wp2;go_ret
     exact ⟨Yfi, Yb_PGssPushesx1_0⟩
   ·rw [if_neg c3] at H
    have c3b0 := decide_eq_false c3
    clear c3
    by_cases c8 : x3_1 ≥ 0
    ·rw [if_pos c8] at H
     have c8b0 := decide_eq_true c8
     clear c8;obtain rfl := Option.some.inj H
     obtain ⟨hcz9_0, hfz9_0⟩ := Yc1 BK101.out
     go_wp2;go_ret
     exact ⟨Yfi, Yb_PGssPushesx1_0⟩
    ·rw [if_neg c8] at H
     have c8b0 := decide_eq_false c8
     clear c8;obtain rfl := Option.some.inj H
     obtain ⟨hcz10_0, hfz10_0⟩ := Yc1 BK101.out
     go_wp2;go_ret
     exact ⟨Yfi, Yb_PGssPushesx1_0⟩
def zba.f (a0 : Int) : Option (Bool) := if a0 ≥ 0 then (some (decide (a0 ≤ 65535))) else (some false)
theorem zba.calls (a0 : Int) (r : Bool) (w : World) (h : zba.f a0 = some r) :
  Calls Try.prog 30 #[.int .i64 a0] w fun e w' => e = .returned (.bool r) ∧ zbc w w' := by
 have H : (if a0 ≥ 0 then (some (decide (a0 ≤ 65535))) else (some false)) = some r := h
 clear h
 by_cases c2 : a0 ≥ 0
 ·rw [if_pos c2] at H
  have c2b0 := decide_eq_true c2
  clear c2;obtain rfl := Option.some.inj H
  go_enter Try.func30, Try.ntmps30
  go_wp2;go_ret
  exact ⟨Yfs, by repeat (first | exact zbc.refl _ | apply zbc.step)⟩
 ·rw [if_neg c2] at H
  have c2b0 := decide_eq_false c2
  clear c2;obtain rfl := Option.some.inj H
  go_enter Try.func30, Try.ntmps30
  go_wp2;go_ret
  exact ⟨Yfs, by repeat (first | exact zbc.refl _ | apply zbc.step)⟩
def zbl.f (a0_0 : Int) (a0_1 : Int) (l0_2 : List Int) (a1_0 : Int) (a1_1 : Int) (l1_2 : List Int) : Option (Bool) := if a0_1 < a1_1 then (some true) else (if a0_1 = a1_1 then (some (decide (a0_0 < a1_0))) else (some false))
theorem zbl.calls (a0_0 : Int) (a0_1 : Int) (A0_2 : Option Addr) (c0_2 : Nat) (l0_2 : List Int) (a1_0 : Int) (a1_1 : Int) (A1_2 : Option Addr) (c1_2 : Nat) (l1_2 : List Int) (r : Bool) (w : World) (hr0_2 : Kd.C (Kd.int .i64) w A0_2 l0_2.length l0_2) (hc0_2 : l0_2.length ≤ c0_2) (hr1_2 : Kd.C (Kd.int .i64) w A1_2 l1_2.length l1_2) (hc1_2 : l1_2.length ≤ c1_2) (h : zbl.f a0_0 a0_1 l0_2 a1_0 a1_1 l1_2 = some r) :
  Calls Try.prog 31 #[.agg #[.int .i64 a0_0, .int .i64 a0_1, .slice A0_2 l0_2.length c0_2], .agg #[.int .i64 a1_0, .int .i64 a1_1, .slice A1_2 l1_2.length c1_2]] w fun e w' => e = .returned (.bool r) ∧ Below w.heap.size w w' := by
 have hu38 := Try.underlying38
 have HR0_2 := zab.mk hr0_2;have HC0_2 := zab.mk hc0_2;clear hr0_2 hc0_2;have HR1_2 := zab.mk hr1_2;have HC1_2 := zab.mk hc1_2;clear hr1_2 hc1_2
 have HB := zab.mk (Below.refl w.heap.size w)
 have H : (if a0_1 < a1_1 then (some true) else (if a0_1 = a1_1 then (some (decide (a0_0 < a1_0))) else (some false))) = some r := h
 clear h
 by_cases c3 : a0_1 < a1_1
 ·rw [if_pos c3] at H
  have c3b0 := decide_eq_true c3
  clear c3;obtain rfl := Option.some.inj H
  go_enter Try.func31, Try.ntmps31
  go_wp2_with (first | ((with_reducible refine zbb (N := 2) rfl ?_); refine Ybx 2 #[.int .i64 a0_0, .int .i64 a0_1, .slice A0_2 l0_2.length c0_2] 38 ?_; intro gb103 hg w4 hbox hb; obtain ⟨BK103, GW103, GE103, HB⟩ := Yb4 hbox hg hb Ybe; clear hb hbox hg) | ((with_reducible refine zbb (N := 3) rfl ?_); refine Ybx 3 #[.int .i64 a1_0, .int .i64 a1_1, .slice A1_2 l1_2.length c1_2] 38 ?_; intro gb104 hg w5 hbox hb; obtain ⟨BK104, GW104, GE104, HB⟩ := Yb4 hbox hg hb Yb_PGssPushesx1_1; have NB103_104 := Ynl BK103 hg; have NB104_103 := Yng BK103 hg; replace BK103 := Ykb BK103 hb; clear hb hbox hg; have hnb6 := NB103_104.out; have hnc6 := NB104_103.out; obtain ⟨hcz7_0, hfz7_0, hcz7_1, hfz7_1, hcz7_2, hfz7_2⟩ := Yc3 BK103.out; obtain ⟨hcz8_0, hfz8_0, hcz8_1, hfz8_1, hcz8_2, hfz8_2⟩ := Yc3 BK104.out))
  go_ret
  exact ⟨Yfi, Yb_PGssPushesx1_2⟩
 ·rw [if_neg c3] at H
  have c3b0 := decide_eq_false c3
  clear c3
  by_cases c9 : a0_1 = a1_1
  ·rw [if_pos c9] at H
   have c9b0 : (a0_1 == a1_1) = true := beq_iff_eq.mpr c9
   have c9b1 : (a0_1 != a1_1) = false := bne_eq_false_iff_eq.mpr c9
   clear c9;obtain rfl := Option.some.inj H
   go_enter Try.func31, Try.ntmps31
   go_wp2_with (first | ((with_reducible refine zbb (N := 2) rfl ?_); refine Ybx 2 #[.int .i64 a0_0, .int .i64 a0_1, .slice A0_2 l0_2.length c0_2] 38 ?_; intro gb103 hg w10 hbox hb; obtain ⟨BK103, GW103, GE103, HB⟩ := Yb4 hbox hg hb Ybe; clear hb hbox hg) | ((with_reducible refine zbb (N := 3) rfl ?_); refine Ybx 3 #[.int .i64 a1_0, .int .i64 a1_1, .slice A1_2 l1_2.length c1_2] 38 ?_; intro gb104 hg w11 hbox hb; obtain ⟨BK104, GW104, GE104, HB⟩ := Yb4 hbox hg hb Yb_PGssPushesx1_1; have NB103_104 := Ynl BK103 hg; have NB104_103 := Yng BK103 hg; replace BK103 := Ykb BK103 hb; clear hb hbox hg; have hnb12 := NB103_104.out; have hnc12 := NB104_103.out; obtain ⟨hcz13_0, hfz13_0, hcz13_1, hfz13_1, hcz13_2, hfz13_2⟩ := Yc3 BK103.out; obtain ⟨hcz14_0, hfz14_0, hcz14_1, hfz14_1, hcz14_2, hfz14_2⟩ := Yc3 BK104.out))
   go_ret
   exact ⟨Yfi, Yb_PGssPushesx1_2⟩
  ·rw [if_neg c9] at H
   have c9b0 : (a0_1 == a1_1) = false := beq_eq_false_iff_ne.mpr c9
   have c9b1 : (a0_1 != a1_1) = true := bne_iff_ne.mpr c9
   obtain rfl := Option.some.inj H
   go_enter Try.func31, Try.ntmps31
   go_wp2_with (first | ((with_reducible refine zbb (N := 2) rfl ?_); refine Ybx 2 #[.int .i64 a0_0, .int .i64 a0_1, .slice A0_2 l0_2.length c0_2] 38 ?_; intro gb103 hg w15 hbox hb; obtain ⟨BK103, GW103, GE103, HB⟩ := Yb4 hbox hg hb Ybe; clear hb hbox hg) | ((with_reducible refine zbb (N := 3) rfl ?_); refine Ybx 3 #[.int .i64 a1_0, .int .i64 a1_1, .slice A1_2 l1_2.length c1_2] 38 ?_; intro gb104 hg w16 hbox hb; obtain ⟨BK104, GW104, GE104, HB⟩ := Yb4 hbox hg hb Yb_PGssPushesx1_1; have NB103_104 := Ynl BK103 hg; have NB104_103 := Yng BK103 hg; replace BK103 := Ykb BK103 hb; clear hb hbox hg; have hnb17 := NB103_104.out; have hnc17 := NB104_103.out; obtain ⟨hcz18_0, hfz18_0, hcz18_1, hfz18_1, hcz18_2, hfz18_2⟩ := Yc3 BK103.out; obtain ⟨hcz19_0, hfz19_0, hcz19_1, hfz19_1, hcz19_2, hfz19_2⟩ := Yc3 BK104.out))
   go_ret
   exact ⟨Yfi, Yb_PGssPushesx1_2⟩
theorem Yb_PGssPushesx2_0 {n : Nat} {w w' : World} (h : Below n w w' := by repeat (first | (with_reducible first | exact HB.out | apply za8 | apply za2 | apply zav | refine zau ?_ GE105.out) | exact HB.out)) : Below n w w' := h
theorem Yb_PGssPushesx2_1 {n : Nat} {w w' : World} (h : Below n w w' := by repeat (first | (with_reducible first | exact HB.out | apply za8 | apply za2 | apply zav | refine zau ?_ GE105.out | refine zau ?_ GE107.out) | exact HB.out)) : Below n w w' := h
mutual
def zah.l0 : Nat → Int → Int → List (S38) → Option (Bool)
 | 0, _, _, _ => none
 | k + 1, x3, x4, x106000 => if x4 < x3 then (zah.j1 k x3 x4 (decide (x3 ≤ 4096)) x106000) else (zah.j1 k x3 x4 false x106000)
def zah.j1 : Nat → Int → Int → Bool → List (S38) → Option (Bool)
 | 0, _, _, _, _ => none
 | k + 1, x3, x4, x17, x106000 => if x17 = true then (if 0 ≤ x4 then (if x4 < (x106000.length : Int) then ((zba.f ((zaa x106000 x4).f0)).bind fun t108 => (if t108 = true then ((zba.f ((zaa x106000 x4).f1)).bind fun t109 => (if t109 = true then (if x4 > 0 then (if 0 ≤ (wrap64 (x4 - 1)) then (if (wrap64 (x4 - 1)) < (x106000.length : Int) then ((zbl.f ((zaa x106000 (wrap64 (x4 - 1))).f0) ((zaa x106000 (wrap64 (x4 - 1))).f1) ((zaa x106000 (wrap64 (x4 - 1))).f2) ((zaa x106000 x4).f0) ((zaa x106000 x4).f1) ((zaa x106000 x4).f2)).bind fun t111 => (zah.j2 k x3 x4 (!t111) x106000 ((zaa x106000 x4).f0) ((zaa x106000 x4).f1) ((zaa x106000 x4).f2))) else (none)) else (none)) else (zah.j2 k x3 x4 false x106000 ((zaa x106000 x4).f0) ((zaa x106000 x4).f1) ((zaa x106000 x4).f2))) else (zah.j2 k x3 x4 true x106000 ((zaa x106000 x4).f0) ((zaa x106000 x4).f1) ((zaa x106000 x4).f2)))) else (zah.j2 k x3 x4 true x106000 ((zaa x106000 x4).f0) ((zaa x106000 x4).f1) ((zaa x106000 x4).f2)))) else (none)) else (none)) else (some (decide (x3 ≤ 4096)))
def zah.j2 : Nat → Int → Int → Bool → List (S38) → Int → Int → List Int → Option (Bool)
 | 0, _, _, _, _, _, _, _ => none
 | k + 1, x3, x4, x49, x106000, x108000, x108001, x108002 => if x49 = true then (some false) else (zah.l1 k x3 x4 0 x106000 x108000 x108001 x108002)
def zah.l1 : Nat → Int → Int → Int → List (S38) → Int → Int → List Int → Option (Bool)
 | 0, _, _, _, _, _, _, _ => none
 | k + 1, x3, x4, x6, x106000, x108000, x108001, x108002 => if x6 < (x108002.length : Int) then (if 0 ≤ x6 then (if (rd x108002 x6) < 0 then (some false) else (if (rd x108002 x6) ≥ x3 then (some false) else (if 0 ≤ (rd x108002 x6) then (if (rd x108002 x6) < (x106000.length : Int) then (if ((zaa x106000 (rd x108002 x6)).f1) > x108001 then (some false) else (if x6 > 0 then (if 0 ≤ (wrap64 (x6 - 1)) then (if (wrap64 (x6 - 1)) < (x108002.length : Int) then (if (rd x108002 (wrap64 (x6 - 1))) ≥ (rd x108002 x6) then (some false) else (zah.l1 k x3 x4 (wrap64 (x6 + 1)) x106000 x108000 x108001 x108002)) else (none)) else (none)) else (zah.l1 k x3 x4 (wrap64 (x6 + 1)) x106000 x108000 x108001 x108002))) else (none)) else (none)))) else (none)) else (zah.l0 k x3 (wrap64 (x4 + 1)) x106000)
end
def zah.f (k : Nat) (l0_0 : List (S38)) : Option (Bool) := zah.l0 k (l0_0.length : Int) 0 l0_0
def zah.T6 : Bool × List (List Nat × List Nat) := (true, [([], []), ([0], [0]), ([1], [1]), ([2], [2]), ([3, 2], [3]), ([4], [4]), ([5, 4], [4, 5]), ([6, 4, 4], [4, 6]), ([7, 4], [4, 7]), ([4, 8], [4, 8]), ([9, 7], [9]), ([10], [10]), ([11, 10], [10, 11]), ([12, 10, 10], [10, 12]), ([13], [13]), ([14, 13], [13, 14]), ([13], [13]), ([16, 13], [13, 16]), ([15, 17, 13], [13, 15, 17]), ([18, 13], [13, 18]), ([13], [13]), ([19, 20, 13, 13], [13, 19, 20]), ([21, 13], [13, 21]), ([13, 22, 10], [10, 13, 22]), ([10, 23], [10, 23])])
def zah.B6 : List Nat := [0, 1, 3, 7, 15, 31, 63, 127, 255, 511, 1023, 2047, 4095, 8191, 16383, 32767, 16383, 81919, 262143, 524287, 16383, 2097151, 4194303, 8388607, 16777215]
theorem zah.tab6 : rtab .any (opsOf Try.f8 6) = zah.T6 := by kernel_rfl
theorem zah.ze3 : zc4 zah.T6.2 zah.B6 = true := by kernel_rfl
def zah.T12 : Bool × List (List Nat × List Nat) := (true, [([], []), ([0], [0]), ([1], [1]), ([2], [2]), ([2], [2]), ([3, 4, 2], [2, 3, 4]), ([2, 5], [2, 5]), ([6, 2], [6]), ([7], [7]), ([8, 7], [7, 8]), ([7], [7]), ([9, 10, 7], [7, 9, 10]), ([11, 7], [7, 11]), ([12, 7], [7, 12]), ([7], [7]), ([14, 7], [7, 14]), ([13, 15, 7], [7, 13, 15]), ([7, 16], [7, 16]), ([17, 7], [17]), ([18], [18]), ([19, 18], [18, 19]), ([20, 18, 18], [18, 20]), ([21], [21]), ([22, 21], [21, 22]), ([21], [21]), ([24, 21], [21, 24]), ([23, 25, 21], [21, 23, 25]), ([26, 21], [21, 26]), ([21], [21]), ([27, 28, 21], [21, 27, 28]), ([21, 29, 18], [18, 21, 29]), ([18, 30], [18, 30])])
def zah.B12 : List Nat := [0, 1, 3, 7, 7, 31, 63, 127, 255, 511, 255, 2047, 4095, 8191, 255, 16639, 65535, 131071, 262143, 524287, 1048575, 2097151, 4194303, 8388607, 4194303, 20971519, 67108863, 134217727, 4194303, 536870911, 1073741823, 2147483647]
theorem zah.zeo : rtab .any (opsOf Try.f8 12) = zah.T12 := by kernel_rfl
theorem zah.zd6 : zc4 zah.T12.2 zah.B12 = true := by kernel_rfl
theorem zah.calls (k : Nat) (A0_0 : Option Addr) (c0_0 : Nat) (l0_0 : List (S38)) (r : Bool) (w : World) (hr0_0 : Kd.C k38 w A0_0 l0_0.length l0_0) (hc0_0 : l0_0.length ≤ c0_0) (h : zah.f k l0_0 = some r) :
  Calls Try.prog 8 #[.agg #[.slice A0_0 l0_0.length c0_0]] w fun e w' => e = .returned (.bool r) ∧ Below w.heap.size w w' := by
 have hu24 := Try.underlying24
 have hu38 := Try.underlying38
 have HR0_0 := zab.mk hr0_0;have HC0_0 := zab.mk hc0_0;clear hr0_0 hc0_0
 have HB := zab.mk (Below.refl w.heap.size w)
 have H : (zah.l0 k (l0_0.length : Int) 0 l0_0) = some r := h
 clear h
 have H' := zab.mk H
 clear H
 go_enter Try.func8, Try.ntmps8
 go_wp2_with (first | ((with_reducible refine zbb (N := 1) rfl ?_); refine Ybx 1 #[.slice A0_0 l0_0.length c0_0] 24 ?_; intro gb105 hg w2 hbox hb; obtain ⟨BK105, GW105, GE105, HB⟩ := Yb4 hbox hg hb Ybe; clear hb hbox hg; obtain ⟨hcz3_0, hfz3_0⟩ := Yc1 BK105.out))
 go_loopg [4] k (fun kq v4 w' => ∃ (x4_1 : Int), v4 = .int .i64 x4_1 ∧ zab (zah.l0 kq (l0_0.length : Int) x4_1 l0_0 = some r) ∧ zab (kq ≤ k) ∧ zab (w'.heap[gb105]? = some (.cells #[(.slice A0_0 l0_0.length c0_0)] 24 (0, 0))) ∧ zab (Below w.heap.size w w'))
 case atStart => exact ⟨(0), Yfs, H', ⟨Nat.le_refl _⟩, ⟨Yg BK105⟩, ⟨Yb_PGssPushesx2_0⟩⟩
 case round =>
  clear H'
  obtain ⟨x4_1, rfl, HA, HK1, BK105, HB⟩ := hrel
  cases gk with
  | zero => exact absurd HA.out (by simp [zah.l0])
  | succ k1 =>
   have H := HA.out;clear HA
   simp only [zah.l0] at H
   have HC4 := zab.mk H;clear H
   go_upto_region 3 with (fail)
   go_cut [17] (fun v17 wc => ∃ (kq : Nat) (x17_3 : Bool), v17 = .bool x17_3 ∧ zab (zah.j1 kq (l0_0.length : Int) x4_1 x17_3 l0_0 = some r) ∧ zab (kq ≤ k1) ∧ zab (wc.heap[gb105]? = some (.cells #[(.slice A0_0 l0_0.length c0_0)] 24 (0, 0))) ∧ zab (Below w.heap.size w wc))
   case first =>
    have H := HC4.out;clear HC4
    by_cases c5 : x4_1 < (l0_0.length : Int)
    ·rw [if_pos c5] at H
     have c5b0 := decide_eq_true c5
     clear c5
     (first | rw [c5b0] | (simp only [zcm, zcz]; rw [c5b0]) | skip)
     have H' := zab.mk H
     clear H;go_wp2
     (first | go_meet | (refine Met.intro ?_; go_step; (repeat apply Exists.intro); refine ⟨?rel, ?eq_⟩; (case eq_ => first | (rw [c5b0]; done))))
     case rel => exact ⟨_, (decide ((l0_0.length : Int) ≤ 4096)), Yfs, H', ⟨by have := HK1.out; first | omega | exact Nat.le_refl _⟩, ⟨Yg BK105⟩, ⟨Yb_PGssPushesx2_0⟩⟩
    ·rw [if_neg c5] at H
     have c5b0 := decide_eq_false c5
     clear c5
     (first | rw [c5b0] | (simp only [zcm, zcz]; rw [c5b0]) | skip)
     have H' := zab.mk H
     clear H;go_wp2
     (first | go_meet | (refine Met.intro ?_; go_step; (repeat apply Exists.intro); refine ⟨?rel, ?eq_⟩; (case eq_ => first | (rw [c5b0]; done))))
     case rel => exact ⟨_, (false), Yfs, H', ⟨by have := HK1.out; first | omega | exact Nat.le_refl _⟩, ⟨Yg BK105⟩, ⟨Yb_PGssPushesx2_0⟩⟩
   case rest =>
    clear HC4
    obtain ⟨kq, x17_3, rfl, HA, HJ3, BK105, HB⟩ := hcut
    cases kq with
    | zero => exact absurd HA.out (by simp [zah.j1])
    | succ kj3 =>
     have H := HA.out;clear HA
     simp only [zah.j1] at H
     by_cases c6 : x17_3 = true
     ·subst c6
      have H1 : (if 0 ≤ x4_1 then (if x4_1 < (l0_0.length : Int) then ((zba.f ((zaa l0_0 x4_1).f0)).bind fun t108 => (if t108 = true then ((zba.f ((zaa l0_0 x4_1).f1)).bind fun t109 => (if t109 = true then (if x4_1 > 0 then (if 0 ≤ (wrap64 (x4_1 - 1)) then (if (wrap64 (x4_1 - 1)) < (l0_0.length : Int) then ((zbl.f ((zaa l0_0 (wrap64 (x4_1 - 1))).f0) ((zaa l0_0 (wrap64 (x4_1 - 1))).f1) ((zaa l0_0 (wrap64 (x4_1 - 1))).f2) ((zaa l0_0 x4_1).f0) ((zaa l0_0 x4_1).f1) ((zaa l0_0 x4_1).f2)).bind fun t111 => (zah.j2 kj3 (l0_0.length : Int) x4_1 (!t111) l0_0 ((zaa l0_0 x4_1).f0) ((zaa l0_0 x4_1).f1) ((zaa l0_0 x4_1).f2))) else (none)) else (none)) else (zah.j2 kj3 (l0_0.length : Int) x4_1 false l0_0 ((zaa l0_0 x4_1).f0) ((zaa l0_0 x4_1).f1) ((zaa l0_0 x4_1).f2))) else (zah.j2 kj3 (l0_0.length : Int) x4_1 true l0_0 ((zaa l0_0 x4_1).f0) ((zaa l0_0 x4_1).f1) ((zaa l0_0 x4_1).f2)))) else (zah.j2 kj3 (l0_0.length : Int) x4_1 true l0_0 ((zaa l0_0 x4_1).f0) ((zaa l0_0 x4_1).f1) ((zaa l0_0 x4_1).f2)))) else (none)) else (none)) = some r := by rw [if_pos rfl] at H; exact H
      clear H;have H := H1;clear H1
      by_cases c7 : 0 ≤ x4_1
      ·rw [if_pos c7] at H
       have c7b0 := decide_eq_true c7
       clear c7
       by_cases c8 : x4_1 < (l0_0.length : Int)
       ·rw [if_pos c8] at H
        have c8b0 := decide_eq_true c8
        clear c8;have HC9 := zab.mk H;clear H
        obtain ⟨hcz10_0, hfz10_0⟩ := Yc1 BK105.out
        have p106 : 0 ≤ (x4_1 : Int) := Yod
        have q106 : x4_1 < (l0_0.length : Int) := Yod
        obtain ⟨ad106, A106_2, c106_2, e106, hx106_0, hx106_1, hx106_2, hl106_2, hi106_2⟩ := zbn HR0_0.out x4_1 p106 q106
        cases e106
        replace hx106_0 := zai HB.out hx106_0
        replace hx106_1 := zai HB.out hx106_1
        replace hx106_2 := zai HB.out hx106_2
        have HR106_2 := zab.mk hi106_2;have HC106_2 := zab.mk hl106_2;clear hi106_2 hl106_2
        replace p106 := eq_true p106
        replace q106 := eq_true q106
        go_upto_region 6 with (first | ((with_reducible refine zbb (N := 5) rfl ?_); refine Ybx 5 #[.int .i64 0, .int .i64 0, .slice none 0 0] 38 ?_; intro gb107 hg w11 hbox hb; obtain ⟨BK107, GW107, GE107, HB⟩ := Yb4 hbox hg hb Yb_PGssPushesx2_0; have NB105_107 := Ynl BK105 hg; have NB107_105 := Yng BK105 hg; replace BK105 := Ykb BK105 hb; clear hb hbox hg; have hnb12 := NB107_105.out; have hnc12 := NB105_107.out; obtain ⟨hcz13_0, hfz13_0, hcz13_1, hfz13_1, hcz13_2, hfz13_2⟩ := Yc3 BK107.out))
        (try simp only [Act.put, Y1, Y2, Y3])
        go_cut [49] (fun v49 wc => ∃ (kq : Nat) (x49_8 : Bool), v49 = .bool x49_8 ∧ zab (zah.j2 kq (l0_0.length : Int) x4_1 x49_8 l0_0 ((zaa l0_0 x4_1).f0) ((zaa l0_0 x4_1).f1) ((zaa l0_0 x4_1).f2) = some r) ∧ zab (kq ≤ kj3) ∧ zab (wc.heap[gb105]? = some (.cells #[(.slice (some ad106) l0_0.length c0_0)] 24 (0, 0))) ∧ zab (wc.heap[gb107]? = some (.cells #[.int .i64 ((zaa l0_0 x4_1).f0), .int .i64 ((zaa l0_0 x4_1).f1), (.slice A106_2 ((zaa l0_0 x4_1).f2).length c106_2)] 38 (0, 0))) ∧ zab (Below w.heap.size w wc))
        case first =>
         have H := HC9.out;clear HC9;replace H := Option.bind_eq_some_iff.mp H
         obtain ⟨t108, A140, H⟩ := H
         replace H : (if t108 = true then ((zba.f ((zaa l0_0 x4_1).f1)).bind fun t109 => (if t109 = true then (if x4_1 > 0 then (if 0 ≤ (wrap64 (x4_1 - 1)) then (if (wrap64 (x4_1 - 1)) < (l0_0.length : Int) then ((zbl.f ((zaa l0_0 (wrap64 (x4_1 - 1))).f0) ((zaa l0_0 (wrap64 (x4_1 - 1))).f1) ((zaa l0_0 (wrap64 (x4_1 - 1))).f2) ((zaa l0_0 x4_1).f0) ((zaa l0_0 x4_1).f1) ((zaa l0_0 x4_1).f2)).bind fun t111 => (zah.j2 kj3 (l0_0.length : Int) x4_1 (!t111) l0_0 ((zaa l0_0 x4_1).f0) ((zaa l0_0 x4_1).f1) ((zaa l0_0 x4_1).f2))) else (none)) else (none)) else (zah.j2 kj3 (l0_0.length : Int) x4_1 false l0_0 ((zaa l0_0 x4_1).f0) ((zaa l0_0 x4_1).f1) ((zaa l0_0 x4_1).f2))) else (zah.j2 kj3 (l0_0.length : Int) x4_1 true l0_0 ((zaa l0_0 x4_1).f0) ((zaa l0_0 x4_1).f1) ((zaa l0_0 x4_1).f2)))) else (zah.j2 kj3 (l0_0.length : Int) x4_1 true l0_0 ((zaa l0_0 x4_1).f0) ((zaa l0_0 x4_1).f1) ((zaa l0_0 x4_1).f2))) = some r := H
         have A14 := zab.mk A140;clear A140
         by_cases c15 : t108 = true
         ·subst c15
          have H1 : ((zba.f ((zaa l0_0 x4_1).f1)).bind fun t109 => (if t109 = true then (if x4_1 > 0 then (if 0 ≤ (wrap64 (x4_1 - 1)) then (if (wrap64 (x4_1 - 1)) < (l0_0.length : Int) then ((zbl.f ((zaa l0_0 (wrap64 (x4_1 - 1))).f0) ((zaa l0_0 (wrap64 (x4_1 - 1))).f1) ((zaa l0_0 (wrap64 (x4_1 - 1))).f2) ((zaa l0_0 x4_1).f0) ((zaa l0_0 x4_1).f1) ((zaa l0_0 x4_1).f2)).bind fun t111 => (zah.j2 kj3 (l0_0.length : Int) x4_1 (!t111) l0_0 ((zaa l0_0 x4_1).f0) ((zaa l0_0 x4_1).f1) ((zaa l0_0 x4_1).f2))) else (none)) else (none)) else (zah.j2 kj3 (l0_0.length : Int) x4_1 false l0_0 ((zaa l0_0 x4_1).f0) ((zaa l0_0 x4_1).f1) ((zaa l0_0 x4_1).f2))) else (zah.j2 kj3 (l0_0.length : Int) x4_1 true l0_0 ((zaa l0_0 x4_1).f0) ((zaa l0_0 x4_1).f1) ((zaa l0_0 x4_1).f2)))) = some r := by rw [if_pos rfl] at H; exact H
          clear H;have H := H1;clear H1;replace H := Option.bind_eq_some_iff.mp H
          obtain ⟨t109, A160, H⟩ := H
          replace H : (if t109 = true then (if x4_1 > 0 then (if 0 ≤ (wrap64 (x4_1 - 1)) then (if (wrap64 (x4_1 - 1)) < (l0_0.length : Int) then ((zbl.f ((zaa l0_0 (wrap64 (x4_1 - 1))).f0) ((zaa l0_0 (wrap64 (x4_1 - 1))).f1) ((zaa l0_0 (wrap64 (x4_1 - 1))).f2) ((zaa l0_0 x4_1).f0) ((zaa l0_0 x4_1).f1) ((zaa l0_0 x4_1).f2)).bind fun t111 => (zah.j2 kj3 (l0_0.length : Int) x4_1 (!t111) l0_0 ((zaa l0_0 x4_1).f0) ((zaa l0_0 x4_1).f1) ((zaa l0_0 x4_1).f2))) else (none)) else (none)) else (zah.j2 kj3 (l0_0.length : Int) x4_1 false l0_0 ((zaa l0_0 x4_1).f0) ((zaa l0_0 x4_1).f1) ((zaa l0_0 x4_1).f2))) else (zah.j2 kj3 (l0_0.length : Int) x4_1 true l0_0 ((zaa l0_0 x4_1).f0) ((zaa l0_0 x4_1).f1) ((zaa l0_0 x4_1).f2))) = some r := H
          have A16 := zab.mk A160;clear A160
          by_cases c17 : t109 = true
          ·subst c17
           have H1 : (if x4_1 > 0 then (if 0 ≤ (wrap64 (x4_1 - 1)) then (if (wrap64 (x4_1 - 1)) < (l0_0.length : Int) then ((zbl.f ((zaa l0_0 (wrap64 (x4_1 - 1))).f0) ((zaa l0_0 (wrap64 (x4_1 - 1))).f1) ((zaa l0_0 (wrap64 (x4_1 - 1))).f2) ((zaa l0_0 x4_1).f0) ((zaa l0_0 x4_1).f1) ((zaa l0_0 x4_1).f2)).bind fun t111 => (zah.j2 kj3 (l0_0.length : Int) x4_1 (!t111) l0_0 ((zaa l0_0 x4_1).f0) ((zaa l0_0 x4_1).f1) ((zaa l0_0 x4_1).f2))) else (none)) else (none)) else (zah.j2 kj3 (l0_0.length : Int) x4_1 false l0_0 ((zaa l0_0 x4_1).f0) ((zaa l0_0 x4_1).f1) ((zaa l0_0 x4_1).f2))) = some r := by rw [if_pos rfl] at H; exact H
           clear H;have H := H1;clear H1
           by_cases c18 : x4_1 > 0
           ·rw [if_pos c18] at H
            have c18b0 := decide_eq_true c18
            clear c18
            (first | rw [c18b0] | (simp only [zcm, zcz]; rw [c18b0]) | skip)
            obtain ⟨ji19, hji19⟩ : ∃ j_ : Int, (wrap64 (x4_1 - 1)) = j_ := ⟨_, rfl⟩
            replace H : (if 0 ≤ (ji19) then (if (ji19) < (l0_0.length : Int) then ((zbl.f ((zaa l0_0 (ji19)).f0) ((zaa l0_0 (ji19)).f1) ((zaa l0_0 (ji19)).f2) ((zaa l0_0 x4_1).f0) ((zaa l0_0 x4_1).f1) ((zaa l0_0 x4_1).f2)).bind fun t111 => (zah.j2 kj3 (l0_0.length : Int) x4_1 (!t111) l0_0 ((zaa l0_0 x4_1).f0) ((zaa l0_0 x4_1).f1) ((zaa l0_0 x4_1).f2))) else (none)) else (none)) = some r := by first | (rw [hji19] at H; exact H) | (simp only [hji19] at H ⊢; exact H)
            (try rw [hji19] at A14)
            (try rw [hji19] at A16)
            have hji19w : (IntKind.i64.wrap (x4_1 - 1)) = ji19 := (zcm _).trans hji19
            by_cases c20 : 0 ≤ (ji19)
            ·rw [if_pos c20] at H
             have c20b0 := decide_eq_true c20
             clear c20
             by_cases c21 : (ji19) < (l0_0.length : Int)
             ·rw [if_pos c21] at H
              have c21b0 := decide_eq_true c21
              clear c21;replace H := Option.bind_eq_some_iff.mp H
              obtain ⟨t111, A220, H⟩ := H
              replace H : (zah.j2 kj3 (l0_0.length : Int) x4_1 (!t111) l0_0 ((zaa l0_0 x4_1).f0) ((zaa l0_0 x4_1).f1) ((zaa l0_0 x4_1).f2)) = some r := H
              have A22 := zab.mk A220;clear A220
              have H' := zab.mk H
              clear H
              try go_wp2
              have n0_ : zab ((((w11.setCell ⟨gb107, 0, none⟩ (.int .i64 ((zaa l0_0 x4_1).f0))).setCell ⟨gb107, 1, none⟩ (.int .i64 ((zaa l0_0 x4_1).f1))).setCell ⟨gb107, 2, none⟩ (.slice A106_2 ((zaa l0_0 x4_1).f2).length c106_2)).heap[gb105]? = some (.cells #[.slice (some ad106) l0_0.length c0_0] 24 (0, 0))) := ⟨by (with_reducible repeat (first | refine zae ?_ _ | refine zac ?_ | refine zad ?_ _)); refine zaj ?_ NB105_107.out _; (with_reducible repeat (first | refine zae ?_ _ | refine zac ?_ | refine zad ?_ _)); refine zaj ?_ NB105_107.out _; (with_reducible repeat (first | refine zae ?_ _ | refine zac ?_ | refine zad ?_ _)); refine zaj ?_ NB105_107.out _; (with_reducible repeat (first | refine zae ?_ _ | refine zac ?_ | refine zad ?_ _)); exact BK105.out⟩
              have n1_ : zab ((((w11.setCell ⟨gb107, 0, none⟩ (.int .i64 ((zaa l0_0 x4_1).f0))).setCell ⟨gb107, 1, none⟩ (.int .i64 ((zaa l0_0 x4_1).f1))).setCell ⟨gb107, 2, none⟩ (.slice A106_2 ((zaa l0_0 x4_1).f2).length c106_2)).heap[gb107]? = some (.cells #[.int .i64 ((zaa l0_0 x4_1).f0), .int .i64 ((zaa l0_0 x4_1).f1), .slice A106_2 ((zaa l0_0 x4_1).f2).length c106_2] 38 (0, 0))) := ⟨by (with_reducible repeat (first | refine zae ?_ _ | refine zac ?_ | refine zad ?_ _)); refine zas (cs := #[.int .i64 ((zaa l0_0 x4_1).f0), .int .i64 ((zaa l0_0 x4_1).f1), .slice none 0 0]) ?_ 2 _ rfl; (with_reducible repeat (first | refine zae ?_ _ | refine zac ?_ | refine zad ?_ _)); refine zas (cs := #[.int .i64 ((zaa l0_0 x4_1).f0), .int .i64 0, .slice none 0 0]) ?_ 1 _ rfl; (with_reducible repeat (first | refine zae ?_ _ | refine zac ?_ | refine zad ?_ _)); refine zas (cs := #[.int .i64 0, .int .i64 0, .slice none 0 0]) ?_ 0 _ rfl; (with_reducible repeat (first | refine zae ?_ _ | refine zac ?_ | refine zad ?_ _)); exact BK107.out⟩
              have n2_ : zab (Below w.heap.size w (((w11.setCell ⟨gb107, 0, none⟩ (.int .i64 ((zaa l0_0 x4_1).f0))).setCell ⟨gb107, 1, none⟩ (.int .i64 ((zaa l0_0 x4_1).f1))).setCell ⟨gb107, 2, none⟩ (.slice A106_2 ((zaa l0_0 x4_1).f2).length c106_2))) := ⟨Yb_PGssPushesx2_1⟩
              (try clear BK105)
              (try clear BK107)
              (try clear HB)
              generalize (((w11.setCell ⟨gb107, 0, none⟩ (.int .i64 ((zaa l0_0 x4_1).f0))).setCell ⟨gb107, 1, none⟩ (.int .i64 ((zaa l0_0 x4_1).f1))).setCell ⟨gb107, 2, none⟩ (.slice A106_2 ((zaa l0_0 x4_1).f2).length c106_2)) = w23 at n0_ n1_ n2_ ⊢
              have BK105 := n0_;have BK107 := n1_;have HB := n2_;clear n0_ n1_ n2_
              replace BK105 := zab.mk (zac BK105.out)
              replace BK107 := zab.mk (zac BK107.out)
              replace HB := zab.mk (zav HB.out)
              have p110 : 0 ≤ ((ji19) : Int) := Yod
              have q110 : (ji19) < (l0_0.length : Int) := Yod
              obtain ⟨ad110, A110_2, c110_2, e110, hx110_0, hx110_1, hx110_2, hl110_2, hi110_2⟩ := zbn HR0_0.out (ji19) p110 q110
              have hw110_2 := hx110_2;have hw110_1 := hx110_1;have hw110_0 := hx110_0
              obtain rfl : ad106 = ad110 := (by injection e110)
              replace hx110_0 := zai HB.out hx110_0
              replace hx110_1 := zai HB.out hx110_1
              replace hx110_2 := zai HB.out hx110_2
              have HR110_2 := zab.mk hi110_2;have HC110_2 := zab.mk hl110_2;clear hi110_2 hl110_2
              replace p110 := eq_true p110
              replace q110 := eq_true q110
              refine zbt (n := 25) (S := fun w' => w'.cell? ⟨gb107, 0, none⟩ = some (.int .i64 ((zaa l0_0 x4_1).f0)) ∧ w'.cell? ⟨gb107, 1, none⟩ = some (.int .i64 ((zaa l0_0 x4_1).f1)) ∧ w'.cell? ⟨gb107, 2, none⟩ = some (.slice A106_2 ((zaa l0_0 x4_1).f2).length c106_2) ∧ w'.cell? ⟨gb105, 0, none⟩ = some (.slice (some ad106) l0_0.length c0_0) ∧ w'.cell? (ad106.add (((ji19)).toNat * 3)) = some (.int .i64 ((zaa l0_0 (ji19)).f0)) ∧ w'.cell? ⟨(ad106.add (((ji19)).toNat * 3)).block, (ad106.add (((ji19)).toNat * 3)).off + 1, none⟩ = some (.int .i64 ((zaa l0_0 (ji19)).f1)) ∧ w'.cell? ⟨(ad106.add (((ji19)).toNat * 3)).block, (ad106.add (((ji19)).toNat * 3)).off + 2, none⟩ = some (.slice A110_2 ((zaa l0_0 (ji19)).f2).length c110_2)) (ds := []) (Ymk 25 0) (by kernel_rfl) rfl rfl ⟨(zaf BK107.out 0).trans rfl, (zaf BK107.out 1).trans rfl, (zaf BK107.out 2).trans rfl, (zaf BK105.out 0).trans rfl, ((HB.out.cell (World.block_lt_of_cell? w _ hw110_0)).trans hw110_0), ((HB.out.cell (World.block_lt_of_cell? w _ hw110_1)).trans hw110_1), ((HB.out.cell (World.block_lt_of_cell? w _ hw110_2)).trans hw110_2)⟩ (fun hHeld => ?_); refine zbo zah.tab6 zah.ze3 (fun HT_ HW_ => ?_)
              generalize w23.drew = w24 at BK105 BK107 HB HR110_2 hx110_0 hx110_1 hx110_2 hHeld ⊢
              refine Ypt 0 25 25 1 HT_ ?_
              refine Ytt 1 26 25 3 HT_ HW_ hHeld ?_
              refine Yot 2 27 25 7 HT_ (fun K hK => ?_)
              refine Ygs Try.func30 #[.int .i64 ((zaa l0_0 x4_1).f0)] ?_
              with_reducible refine (zba.calls ((zaa l0_0 x4_1).f0) true _ A14.out).mono ?_
              rintro e w' ⟨rfl, ⟨nd, rfl⟩⟩
              refine ⟨_, rfl, ?_⟩
              refine hK.out _ _ ⟨(zaf BK107.out 0).trans rfl, (zaf BK107.out 1).trans rfl, (zaf BK107.out 2).trans rfl, (zaf BK105.out 0).trans rfl, ((HB.out.cell (World.block_lt_of_cell? w _ hw110_0)).trans hw110_0), ((HB.out.cell (World.block_lt_of_cell? w _ hw110_1)).trans hw110_1), ((HB.out.cell (World.block_lt_of_cell? w _ hw110_2)).trans hw110_2)⟩ (fun hHeld => ?_)
              clear hK K
              refine Ynw 27 ?_
              refine Ypt 3 28 25 15 HT_ ?_
              refine Ypt 4 29 25 31 HT_ ?_
              refine Ypt 5 30 25 63 HT_ ?_
              refine Ytt 6 31 25 127 HT_ HW_ hHeld ?_
              refine Yot 7 32 25 255 HT_ (fun K hK => ?_)
              refine Ygs Try.func30 #[.int .i64 ((zaa l0_0 x4_1).f1)] ?_
              with_reducible refine (zba.calls ((zaa l0_0 x4_1).f1) true _ A16.out).mono ?_
              rintro e w' ⟨rfl, ⟨nd, rfl⟩⟩
              refine ⟨_, rfl, ?_⟩
              refine hK.out _ _ ⟨(zaf BK107.out 0).trans rfl, (zaf BK107.out 1).trans rfl, (zaf BK107.out 2).trans rfl, (zaf BK105.out 0).trans rfl, ((HB.out.cell (World.block_lt_of_cell? w _ hw110_0)).trans hw110_0), ((HB.out.cell (World.block_lt_of_cell? w _ hw110_1)).trans hw110_1), ((HB.out.cell (World.block_lt_of_cell? w _ hw110_2)).trans hw110_2)⟩ (fun hHeld => ?_)
              clear hK K
              refine Ynw 32 ?_
              refine Ypt 8 33 25 511 HT_ ?_
              refine Ypt 9 34 25 1023 HT_ ?_
              refine Ypt 10 35 25 2047 HT_ ?_
              refine Ypt 11 36 25 4095 HT_ ?_
              refine Ypt 12 37 25 8191 HT_ ?_
              refine Ypt 13 38 25 16383 HT_ ?_
              refine Ypt 14 39 25 32767 HT_ ?_
              refine Ypt 16 41 25 98303 HT_ ?_
              refine Ypt 17 42 25 229375 HT_ ?_
              refine Ytt 15 40 25 262143 HT_ HW_ hHeld ?_
              refine Ypt 18 43 25 524287 HT_ ?_
              refine Ytt 19 44 25 1048575 HT_ HW_ hHeld ?_
              refine Ytt 20 45 25 2097151 HT_ HW_ hHeld ?_
              refine Yot 21 46 25 4194303 HT_ (fun K hK => ?_)
              refine goes_ Try.func31 (by kernel_rfl) rfl #[.agg #[.int .i64 ((zaa l0_0 (ji19)).f0), .int .i64 ((zaa l0_0 (ji19)).f1), .slice A110_2 ((zaa l0_0 (ji19)).f2).length c110_2], .agg #[.int .i64 ((zaa l0_0 x4_1).f0), .int .i64 ((zaa l0_0 x4_1).f1), .slice A106_2 ((zaa l0_0 x4_1).f2).length c106_2]] (by rfl) rfl rfl (by (try simp only [List.map_toArray, List.map_cons, List.map_nil]); first | done | (simp only [hji19]; rfl) | rfl | (simp only [List.length_drop, List.length_take]; rfl)) ?_
              with_reducible refine (zbl.calls ((zaa l0_0 (ji19)).f0) ((zaa l0_0 (ji19)).f1) _ _ ((zaa l0_0 (ji19)).f2) ((zaa l0_0 x4_1).f0) ((zaa l0_0 x4_1).f1) _ _ ((zaa l0_0 x4_1).f2) t111 _ (Kd.za4 HR110_2.out Yb_PGssPushesx2_1) HC110_2.out (Kd.za4 HR106_2.out Yb_PGssPushesx2_1) HC106_2.out A22.out).mono ?_
              rintro e w25 ⟨rfl, hb⟩
              refine ⟨_, rfl, ?_⟩
              replace BK105 := Ykb BK105 hb
              replace BK107 := Ykb BK107 hb
              replace HB := zab.mk (za1 Yb_PGssPushesx2_1 hb)
              (try clear hb)
              (try clear hb2)
              (try clear hk)
              (try clear hi)
              refine hK.out _ _ ⟨(zaf BK107.out 0).trans rfl, (zaf BK107.out 1).trans rfl, (zaf BK107.out 2).trans rfl, (zaf BK105.out 0).trans rfl, ((HB.out.cell (World.block_lt_of_cell? w _ hw110_0)).trans hw110_0), ((HB.out.cell (World.block_lt_of_cell? w _ hw110_1)).trans hw110_1), ((HB.out.cell (World.block_lt_of_cell? w _ hw110_2)).trans hw110_2)⟩ (fun hHeld => ?_)
              clear hK K
              refine Ynw 46 ?_
              refine Ypt 22 47 25 8388607 HT_ ?_
              refine Ypt 23 48 25 16777215 HT_ ?_
              refine Ypt 24 49 25 33554431 HT_ ?_
              refine zby (zbv HT_.out (by kernel_rfl)) ?_
              try go_wp2
              (first | go_meet | (refine Met.intro ?_; go_step; (repeat apply Exists.intro); refine ⟨?rel, ?eq_⟩; (case eq_ => first | (rw [c21b0]; done) | (rw [c20b0]; done) | (rw [c18b0]; done) | (rw [c8b0]; done) | (rw [c7b0]; done))))
              case rel => exact ⟨_, (!t111), Yfs, H', ⟨by have := HK1.out; have := HJ3.out; first | omega | exact Nat.le_refl _⟩, ⟨Yg BK105⟩, ⟨Yg BK107⟩, ⟨Yb_PGssPushesx2_1⟩⟩
             ·rw [if_neg c21] at H
              exact absurd H (by simp)
            ·rw [if_neg c20] at H
             exact absurd H (by simp)
           ·rw [if_neg c18] at H
            have c18b0 := decide_eq_false c18
            clear c18
            (first | rw [c18b0] | (simp only [zcm, zcz]; rw [c18b0]) | skip)
            have H' := zab.mk H
            clear H
            try go_wp2
            have n0_ : zab ((((w11.setCell ⟨gb107, 0, none⟩ (.int .i64 ((zaa l0_0 x4_1).f0))).setCell ⟨gb107, 1, none⟩ (.int .i64 ((zaa l0_0 x4_1).f1))).setCell ⟨gb107, 2, none⟩ (.slice A106_2 ((zaa l0_0 x4_1).f2).length c106_2)).heap[gb105]? = some (.cells #[.slice (some ad106) l0_0.length c0_0] 24 (0, 0))) := ⟨by (with_reducible repeat (first | refine zae ?_ _ | refine zac ?_ | refine zad ?_ _)); refine zaj ?_ NB105_107.out _; (with_reducible repeat (first | refine zae ?_ _ | refine zac ?_ | refine zad ?_ _)); refine zaj ?_ NB105_107.out _; (with_reducible repeat (first | refine zae ?_ _ | refine zac ?_ | refine zad ?_ _)); refine zaj ?_ NB105_107.out _; (with_reducible repeat (first | refine zae ?_ _ | refine zac ?_ | refine zad ?_ _)); exact BK105.out⟩
            have n1_ : zab ((((w11.setCell ⟨gb107, 0, none⟩ (.int .i64 ((zaa l0_0 x4_1).f0))).setCell ⟨gb107, 1, none⟩ (.int .i64 ((zaa l0_0 x4_1).f1))).setCell ⟨gb107, 2, none⟩ (.slice A106_2 ((zaa l0_0 x4_1).f2).length c106_2)).heap[gb107]? = some (.cells #[.int .i64 ((zaa l0_0 x4_1).f0), .int .i64 ((zaa l0_0 x4_1).f1), .slice A106_2 ((zaa l0_0 x4_1).f2).length c106_2] 38 (0, 0))) := ⟨by (with_reducible repeat (first | refine zae ?_ _ | refine zac ?_ | refine zad ?_ _)); refine zas (cs := #[.int .i64 ((zaa l0_0 x4_1).f0), .int .i64 ((zaa l0_0 x4_1).f1), .slice none 0 0]) ?_ 2 _ rfl; (with_reducible repeat (first | refine zae ?_ _ | refine zac ?_ | refine zad ?_ _)); refine zas (cs := #[.int .i64 ((zaa l0_0 x4_1).f0), .int .i64 0, .slice none 0 0]) ?_ 1 _ rfl; (with_reducible repeat (first | refine zae ?_ _ | refine zac ?_ | refine zad ?_ _)); refine zas (cs := #[.int .i64 0, .int .i64 0, .slice none 0 0]) ?_ 0 _ rfl; (with_reducible repeat (first | refine zae ?_ _ | refine zac ?_ | refine zad ?_ _)); exact BK107.out⟩
            have n2_ : zab (Below w.heap.size w (((w11.setCell ⟨gb107, 0, none⟩ (.int .i64 ((zaa l0_0 x4_1).f0))).setCell ⟨gb107, 1, none⟩ (.int .i64 ((zaa l0_0 x4_1).f1))).setCell ⟨gb107, 2, none⟩ (.slice A106_2 ((zaa l0_0 x4_1).f2).length c106_2))) := ⟨Yb_PGssPushesx2_1⟩
            (try clear BK105)
            (try clear BK107)
            (try clear HB)
            generalize (((w11.setCell ⟨gb107, 0, none⟩ (.int .i64 ((zaa l0_0 x4_1).f0))).setCell ⟨gb107, 1, none⟩ (.int .i64 ((zaa l0_0 x4_1).f1))).setCell ⟨gb107, 2, none⟩ (.slice A106_2 ((zaa l0_0 x4_1).f2).length c106_2)) = w26 at n0_ n1_ n2_ ⊢
            have BK105 := n0_;have BK107 := n1_;have HB := n2_;clear n0_ n1_ n2_
            replace BK105 := zab.mk (zac BK105.out)
            replace BK107 := zab.mk (zac BK107.out)
            replace HB := zab.mk (zav HB.out)
            refine zbt (n := 25) (S := fun w' => w'.cell? ⟨gb107, 0, none⟩ = some (.int .i64 ((zaa l0_0 x4_1).f0)) ∧ w'.cell? ⟨gb107, 1, none⟩ = some (.int .i64 ((zaa l0_0 x4_1).f1)) ∧ w'.cell? ⟨gb107, 2, none⟩ = some (.slice A106_2 ((zaa l0_0 x4_1).f2).length c106_2)) (ds := []) (Ymk 25 0) (by kernel_rfl) rfl rfl ⟨(zaf BK107.out 0).trans rfl, (zaf BK107.out 1).trans rfl, (zaf BK107.out 2).trans rfl⟩ (fun hHeld => ?_); refine zbo zah.tab6 zah.ze3 (fun HT_ HW_ => ?_)
            generalize w26.drew = w27 at BK105 BK107 HB hHeld ⊢
            refine Ypt 0 25 25 1 HT_ ?_
            refine Ytt 1 26 25 3 HT_ HW_ hHeld ?_
            refine Yot 2 27 25 7 HT_ (fun K hK => ?_)
            refine Ygs Try.func30 #[.int .i64 ((zaa l0_0 x4_1).f0)] ?_
            with_reducible refine (zba.calls ((zaa l0_0 x4_1).f0) true _ A14.out).mono ?_
            rintro e w' ⟨rfl, ⟨nd, rfl⟩⟩
            refine ⟨_, rfl, ?_⟩
            refine hK.out _ _ ⟨(zaf BK107.out 0).trans rfl, (zaf BK107.out 1).trans rfl, (zaf BK107.out 2).trans rfl⟩ (fun hHeld => ?_)
            clear hK K
            refine Ynw 27 ?_
            refine Ypt 3 28 25 15 HT_ ?_
            refine Ypt 4 29 25 31 HT_ ?_
            refine Ypt 5 30 25 63 HT_ ?_
            refine Ytt 6 31 25 127 HT_ HW_ hHeld ?_
            refine Yot 7 32 25 255 HT_ (fun K hK => ?_)
            refine Ygs Try.func30 #[.int .i64 ((zaa l0_0 x4_1).f1)] ?_
            with_reducible refine (zba.calls ((zaa l0_0 x4_1).f1) true _ A16.out).mono ?_
            rintro e w' ⟨rfl, ⟨nd, rfl⟩⟩
            refine ⟨_, rfl, ?_⟩
            refine hK.out _ _ ⟨(zaf BK107.out 0).trans rfl, (zaf BK107.out 1).trans rfl, (zaf BK107.out 2).trans rfl⟩ (fun hHeld => ?_)
            clear hK K
            refine Ynw 32 ?_
            refine Ypt 8 33 25 511 HT_ ?_
            refine Ypt 9 34 25 1023 HT_ ?_
            refine Ypt 10 35 25 2047 HT_ ?_
            refine Ypt 11 36 25 4095 HT_ ?_
            refine Ypt 12 37 25 8191 HT_ ?_
            refine Ypt 13 38 25 16383 HT_ ?_
            refine Ypu 14 39 25 32767 HT_ ?_
            refine Ypu 15 40 25 65535 HT_ ?_
            refine Ypu 16 41 25 131071 HT_ ?_
            refine Ypu 17 42 25 262143 HT_ ?_
            refine Ypu 18 43 25 524287 HT_ ?_
            refine Ypu 19 44 25 1048575 HT_ ?_
            refine Ypu 20 45 25 2097151 HT_ ?_
            refine Ypu 21 46 25 4194303 HT_ ?_
            refine Ypu 22 47 25 8388607 HT_ ?_
            refine Ypt 23 48 25 16777215 HT_ ?_
            refine Ypt 24 49 25 33554431 HT_ ?_
            refine zby (zbv HT_.out (by kernel_rfl)) ?_
            try go_wp2
            (first | go_meet | (refine Met.intro ?_; go_step; (repeat apply Exists.intro); refine ⟨?rel, ?eq_⟩; (case eq_ => first | (rw [c18b0]; done) | (rw [c8b0]; done) | (rw [c7b0]; done))))
            case rel => exact ⟨_, (false), Yfs, H', ⟨by have := HK1.out; have := HJ3.out; first | omega | exact Nat.le_refl _⟩, ⟨Yg BK105⟩, ⟨Yg BK107⟩, ⟨Yb_PGssPushesx2_1⟩⟩
          ·replace c17 := Bool.eq_false_iff.mpr c17
           subst c17
           have H1 : (zah.j2 kj3 (l0_0.length : Int) x4_1 true l0_0 ((zaa l0_0 x4_1).f0) ((zaa l0_0 x4_1).f1) ((zaa l0_0 x4_1).f2)) = some r := by rw [if_neg (show ¬ (false = true) by decide)] at H; exact H
           clear H;have H := H1;clear H1
           have H' := zab.mk H
           clear H
           try go_wp2
           have n0_ : zab ((((w11.setCell ⟨gb107, 0, none⟩ (.int .i64 ((zaa l0_0 x4_1).f0))).setCell ⟨gb107, 1, none⟩ (.int .i64 ((zaa l0_0 x4_1).f1))).setCell ⟨gb107, 2, none⟩ (.slice A106_2 ((zaa l0_0 x4_1).f2).length c106_2)).heap[gb105]? = some (.cells #[.slice (some ad106) l0_0.length c0_0] 24 (0, 0))) := ⟨by (with_reducible repeat (first | refine zae ?_ _ | refine zac ?_ | refine zad ?_ _)); refine zaj ?_ NB105_107.out _; (with_reducible repeat (first | refine zae ?_ _ | refine zac ?_ | refine zad ?_ _)); refine zaj ?_ NB105_107.out _; (with_reducible repeat (first | refine zae ?_ _ | refine zac ?_ | refine zad ?_ _)); refine zaj ?_ NB105_107.out _; (with_reducible repeat (first | refine zae ?_ _ | refine zac ?_ | refine zad ?_ _)); exact BK105.out⟩
           have n1_ : zab ((((w11.setCell ⟨gb107, 0, none⟩ (.int .i64 ((zaa l0_0 x4_1).f0))).setCell ⟨gb107, 1, none⟩ (.int .i64 ((zaa l0_0 x4_1).f1))).setCell ⟨gb107, 2, none⟩ (.slice A106_2 ((zaa l0_0 x4_1).f2).length c106_2)).heap[gb107]? = some (.cells #[.int .i64 ((zaa l0_0 x4_1).f0), .int .i64 ((zaa l0_0 x4_1).f1), .slice A106_2 ((zaa l0_0 x4_1).f2).length c106_2] 38 (0, 0))) := ⟨by (with_reducible repeat (first | refine zae ?_ _ | refine zac ?_ | refine zad ?_ _)); refine zas (cs := #[.int .i64 ((zaa l0_0 x4_1).f0), .int .i64 ((zaa l0_0 x4_1).f1), .slice none 0 0]) ?_ 2 _ rfl; (with_reducible repeat (first | refine zae ?_ _ | refine zac ?_ | refine zad ?_ _)); refine zas (cs := #[.int .i64 ((zaa l0_0 x4_1).f0), .int .i64 0, .slice none 0 0]) ?_ 1 _ rfl; (with_reducible repeat (first | refine zae ?_ _ | refine zac ?_ | refine zad ?_ _)); refine zas (cs := #[.int .i64 0, .int .i64 0, .slice none 0 0]) ?_ 0 _ rfl; (with_reducible repeat (first | refine zae ?_ _ | refine zac ?_ | refine zad ?_ _)); exact BK107.out⟩
           have n2_ : zab (Below w.heap.size w (((w11.setCell ⟨gb107, 0, none⟩ (.int .i64 ((zaa l0_0 x4_1).f0))).setCell ⟨gb107, 1, none⟩ (.int .i64 ((zaa l0_0 x4_1).f1))).setCell ⟨gb107, 2, none⟩ (.slice A106_2 ((zaa l0_0 x4_1).f2).length c106_2))) := ⟨Yb_PGssPushesx2_1⟩
           (try clear BK105)
           (try clear BK107)
           (try clear HB)
           generalize (((w11.setCell ⟨gb107, 0, none⟩ (.int .i64 ((zaa l0_0 x4_1).f0))).setCell ⟨gb107, 1, none⟩ (.int .i64 ((zaa l0_0 x4_1).f1))).setCell ⟨gb107, 2, none⟩ (.slice A106_2 ((zaa l0_0 x4_1).f2).length c106_2)) = w28 at n0_ n1_ n2_ ⊢
           have BK105 := n0_;have BK107 := n1_;have HB := n2_;clear n0_ n1_ n2_
           replace BK105 := zab.mk (zac BK105.out)
           replace BK107 := zab.mk (zac BK107.out)
           replace HB := zab.mk (zav HB.out)
           refine zbt (n := 25) (S := fun w' => w'.cell? ⟨gb107, 0, none⟩ = some (.int .i64 ((zaa l0_0 x4_1).f0)) ∧ w'.cell? ⟨gb107, 1, none⟩ = some (.int .i64 ((zaa l0_0 x4_1).f1)) ∧ w'.cell? ⟨gb107, 2, none⟩ = some (.slice A106_2 ((zaa l0_0 x4_1).f2).length c106_2)) (ds := []) (Ymk 25 0) (by kernel_rfl) rfl rfl ⟨(zaf BK107.out 0).trans rfl, (zaf BK107.out 1).trans rfl, (zaf BK107.out 2).trans rfl⟩ (fun hHeld => ?_); refine zbo zah.tab6 zah.ze3 (fun HT_ HW_ => ?_)
           generalize w28.drew = w29 at BK105 BK107 HB hHeld ⊢
           refine Ypt 0 25 25 1 HT_ ?_
           refine Ytt 1 26 25 3 HT_ HW_ hHeld ?_
           refine Yot 2 27 25 7 HT_ (fun K hK => ?_)
           refine Ygs Try.func30 #[.int .i64 ((zaa l0_0 x4_1).f0)] ?_
           with_reducible refine (zba.calls ((zaa l0_0 x4_1).f0) true _ A14.out).mono ?_
           rintro e w' ⟨rfl, ⟨nd, rfl⟩⟩
           refine ⟨_, rfl, ?_⟩
           refine hK.out _ _ ⟨(zaf BK107.out 0).trans rfl, (zaf BK107.out 1).trans rfl, (zaf BK107.out 2).trans rfl⟩ (fun hHeld => ?_)
           clear hK K
           refine Ynw 27 ?_
           refine Ypt 3 28 25 15 HT_ ?_
           refine Ypt 4 29 25 31 HT_ ?_
           refine Ypt 5 30 25 63 HT_ ?_
           refine Ytt 6 31 25 127 HT_ HW_ hHeld ?_
           refine Yot 7 32 25 255 HT_ (fun K hK => ?_)
           refine Ygs Try.func30 #[.int .i64 ((zaa l0_0 x4_1).f1)] ?_
           with_reducible refine (zba.calls ((zaa l0_0 x4_1).f1) false _ A16.out).mono ?_
           rintro e w' ⟨rfl, ⟨nd, rfl⟩⟩
           refine ⟨_, rfl, ?_⟩
           refine hK.out _ _ ⟨(zaf BK107.out 0).trans rfl, (zaf BK107.out 1).trans rfl, (zaf BK107.out 2).trans rfl⟩ (fun hHeld => ?_)
           clear hK K
           refine Ynw 32 ?_
           refine Ypt 8 33 25 511 HT_ ?_
           refine Ypt 9 34 25 1023 HT_ ?_
           refine Ypt 10 35 25 2047 HT_ ?_
           refine Ypu 11 36 25 4095 HT_ ?_
           refine Ypu 12 37 25 8191 HT_ ?_
           refine Ypu 13 38 25 16383 HT_ ?_
           refine Ypu 14 39 25 32767 HT_ ?_
           refine Ypu 15 40 25 65535 HT_ ?_
           refine Ypu 16 41 25 131071 HT_ ?_
           refine Ypu 17 42 25 262143 HT_ ?_
           refine Ypu 18 43 25 524287 HT_ ?_
           refine Ypu 19 44 25 1048575 HT_ ?_
           refine Ypu 20 45 25 2097151 HT_ ?_
           refine Ypu 21 46 25 4194303 HT_ ?_
           refine Ypu 22 47 25 8388607 HT_ ?_
           refine Ypu 23 48 25 16777215 HT_ ?_
           refine Ypt 24 49 25 33554431 HT_ ?_
           refine zby (zbv HT_.out (by kernel_rfl)) ?_
           try go_wp2
           (first | go_meet | (refine Met.intro ?_; go_step; (repeat apply Exists.intro); refine ⟨?rel, ?eq_⟩; (case eq_ => first | (rw [c8b0]; done) | (rw [c7b0]; done))))
           case rel => exact ⟨_, (true), Yfs, H', ⟨by have := HK1.out; have := HJ3.out; first | omega | exact Nat.le_refl _⟩, ⟨Yg BK105⟩, ⟨Yg BK107⟩, ⟨Yb_PGssPushesx2_1⟩⟩
         ·replace c15 := Bool.eq_false_iff.mpr c15
          subst c15
          have H1 : (zah.j2 kj3 (l0_0.length : Int) x4_1 true l0_0 ((zaa l0_0 x4_1).f0) ((zaa l0_0 x4_1).f1) ((zaa l0_0 x4_1).f2)) = some r := by rw [if_neg (show ¬ (false = true) by decide)] at H; exact H
          clear H;have H := H1;clear H1
          have H' := zab.mk H
          clear H
          try go_wp2
          have n0_ : zab ((((w11.setCell ⟨gb107, 0, none⟩ (.int .i64 ((zaa l0_0 x4_1).f0))).setCell ⟨gb107, 1, none⟩ (.int .i64 ((zaa l0_0 x4_1).f1))).setCell ⟨gb107, 2, none⟩ (.slice A106_2 ((zaa l0_0 x4_1).f2).length c106_2)).heap[gb105]? = some (.cells #[.slice (some ad106) l0_0.length c0_0] 24 (0, 0))) := ⟨by (with_reducible repeat (first | refine zae ?_ _ | refine zac ?_ | refine zad ?_ _)); refine zaj ?_ NB105_107.out _; (with_reducible repeat (first | refine zae ?_ _ | refine zac ?_ | refine zad ?_ _)); refine zaj ?_ NB105_107.out _; (with_reducible repeat (first | refine zae ?_ _ | refine zac ?_ | refine zad ?_ _)); refine zaj ?_ NB105_107.out _; (with_reducible repeat (first | refine zae ?_ _ | refine zac ?_ | refine zad ?_ _)); exact BK105.out⟩
          have n1_ : zab ((((w11.setCell ⟨gb107, 0, none⟩ (.int .i64 ((zaa l0_0 x4_1).f0))).setCell ⟨gb107, 1, none⟩ (.int .i64 ((zaa l0_0 x4_1).f1))).setCell ⟨gb107, 2, none⟩ (.slice A106_2 ((zaa l0_0 x4_1).f2).length c106_2)).heap[gb107]? = some (.cells #[.int .i64 ((zaa l0_0 x4_1).f0), .int .i64 ((zaa l0_0 x4_1).f1), .slice A106_2 ((zaa l0_0 x4_1).f2).length c106_2] 38 (0, 0))) := ⟨by (with_reducible repeat (first | refine zae ?_ _ | refine zac ?_ | refine zad ?_ _)); refine zas (cs := #[.int .i64 ((zaa l0_0 x4_1).f0), .int .i64 ((zaa l0_0 x4_1).f1), .slice none 0 0]) ?_ 2 _ rfl; (with_reducible repeat (first | refine zae ?_ _ | refine zac ?_ | refine zad ?_ _)); refine zas (cs := #[.int .i64 ((zaa l0_0 x4_1).f0), .int .i64 0, .slice none 0 0]) ?_ 1 _ rfl; (with_reducible repeat (first | refine zae ?_ _ | refine zac ?_ | refine zad ?_ _)); refine zas (cs := #[.int .i64 0, .int .i64 0, .slice none 0 0]) ?_ 0 _ rfl; (with_reducible repeat (first | refine zae ?_ _ | refine zac ?_ | refine zad ?_ _)); exact BK107.out⟩
          have n2_ : zab (Below w.heap.size w (((w11.setCell ⟨gb107, 0, none⟩ (.int .i64 ((zaa l0_0 x4_1).f0))).setCell ⟨gb107, 1, none⟩ (.int .i64 ((zaa l0_0 x4_1).f1))).setCell ⟨gb107, 2, none⟩ (.slice A106_2 ((zaa l0_0 x4_1).f2).length c106_2))) := ⟨Yb_PGssPushesx2_1⟩
          (try clear BK105)
          (try clear BK107)
          (try clear HB)
          generalize (((w11.setCell ⟨gb107, 0, none⟩ (.int .i64 ((zaa l0_0 x4_1).f0))).setCell ⟨gb107, 1, none⟩ (.int .i64 ((zaa l0_0 x4_1).f1))).setCell ⟨gb107, 2, none⟩ (.slice A106_2 ((zaa l0_0 x4_1).f2).length c106_2)) = w30 at n0_ n1_ n2_ ⊢
          have BK105 := n0_;have BK107 := n1_;have HB := n2_;clear n0_ n1_ n2_
          replace BK105 := zab.mk (zac BK105.out)
          replace BK107 := zab.mk (zac BK107.out)
          replace HB := zab.mk (zav HB.out)
          refine zbt (n := 25) (S := fun w' => w'.cell? ⟨gb107, 0, none⟩ = some (.int .i64 ((zaa l0_0 x4_1).f0)) ∧ w'.cell? ⟨gb107, 1, none⟩ = some (.int .i64 ((zaa l0_0 x4_1).f1)) ∧ w'.cell? ⟨gb107, 2, none⟩ = some (.slice A106_2 ((zaa l0_0 x4_1).f2).length c106_2)) (ds := []) (Ymk 25 0) (by kernel_rfl) rfl rfl ⟨(zaf BK107.out 0).trans rfl, (zaf BK107.out 1).trans rfl, (zaf BK107.out 2).trans rfl⟩ (fun hHeld => ?_); refine zbo zah.tab6 zah.ze3 (fun HT_ HW_ => ?_)
          generalize w30.drew = w31 at BK105 BK107 HB hHeld ⊢
          refine Ypt 0 25 25 1 HT_ ?_
          refine Ytt 1 26 25 3 HT_ HW_ hHeld ?_
          refine Yot 2 27 25 7 HT_ (fun K hK => ?_)
          refine Ygs Try.func30 #[.int .i64 ((zaa l0_0 x4_1).f0)] ?_
          with_reducible refine (zba.calls ((zaa l0_0 x4_1).f0) false _ A14.out).mono ?_
          rintro e w' ⟨rfl, ⟨nd, rfl⟩⟩
          refine ⟨_, rfl, ?_⟩
          refine hK.out _ _ ⟨(zaf BK107.out 0).trans rfl, (zaf BK107.out 1).trans rfl, (zaf BK107.out 2).trans rfl⟩ (fun hHeld => ?_)
          clear hK K
          refine Ynw 27 ?_
          refine Ypt 3 28 25 15 HT_ ?_
          refine Ypt 4 29 25 31 HT_ ?_
          refine Ypu 5 30 25 63 HT_ ?_
          refine Ypu 6 31 25 127 HT_ ?_
          refine Ypu 7 32 25 255 HT_ ?_
          refine Ypu 8 33 25 511 HT_ ?_
          refine Ypt 9 34 25 1023 HT_ ?_
          refine Ypt 10 35 25 2047 HT_ ?_
          refine Ypu 11 36 25 4095 HT_ ?_
          refine Ypu 12 37 25 8191 HT_ ?_
          refine Ypu 13 38 25 16383 HT_ ?_
          refine Ypu 14 39 25 32767 HT_ ?_
          refine Ypu 15 40 25 65535 HT_ ?_
          refine Ypu 16 41 25 131071 HT_ ?_
          refine Ypu 17 42 25 262143 HT_ ?_
          refine Ypu 18 43 25 524287 HT_ ?_
          refine Ypu 19 44 25 1048575 HT_ ?_
          refine Ypu 20 45 25 2097151 HT_ ?_
          refine Ypu 21 46 25 4194303 HT_ ?_
          refine Ypu 22 47 25 8388607 HT_ ?_
          refine Ypu 23 48 25 16777215 HT_ ?_
          refine Ypt 24 49 25 33554431 HT_ ?_
          refine zby (zbv HT_.out (by kernel_rfl)) ?_
          try go_wp2
          (first | go_meet | (refine Met.intro ?_; go_step; (repeat apply Exists.intro); refine ⟨?rel, ?eq_⟩; (case eq_ => first | (rw [c8b0]; done) | (rw [c7b0]; done))))
          case rel => exact ⟨_, (true), Yfs, H', ⟨by have := HK1.out; have := HJ3.out; first | omega | exact Nat.le_refl _⟩, ⟨Yg BK105⟩, ⟨Yg BK107⟩, ⟨Yb_PGssPushesx2_1⟩⟩
        case rest =>
         clear HC9
         obtain ⟨kq, x49_8, rfl, HA, HJ8, BK105, BK107, HB⟩ := hcut
         cases kq with
         | zero => exact absurd HA.out (by simp [zah.j2])
         | succ kj8 =>
          have H := HA.out;clear HA
          simp only [zah.j2] at H
          by_cases c32 : x49_8 = true
          ·subst c32
           have H1 : (some false) = some r := by rw [if_pos rfl] at H; exact H
           clear H;have H := H1;clear H1;obtain rfl := Option.some.inj H;go_wp2;go_ret
           exact ⟨Yfi, Yb_PGssPushesx2_1⟩
          ·replace c32 := Bool.eq_false_iff.mpr c32
           subst c32
           have H1 : (zah.l1 kj8 (l0_0.length : Int) x4_1 0 l0_0 ((zaa l0_0 x4_1).f0) ((zaa l0_0 x4_1).f1) ((zaa l0_0 x4_1).f2)) = some r := by rw [if_neg (show ¬ (false = true) by decide)] at H; exact H
           clear H;have H := H1;clear H1
           have H' := zab.mk H
           clear H;go_wp2
           go_loopg [6] kj8 (fun kq v6 w' => ∃ (x6_4 : Int), v6 = .int .i64 x6_4 ∧ zab (zah.l1 kq (l0_0.length : Int) x4_1 x6_4 l0_0 ((zaa l0_0 x4_1).f0) ((zaa l0_0 x4_1).f1) ((zaa l0_0 x4_1).f2) = some r) ∧ zab (kq ≤ kj8) ∧ zab (w'.heap[gb105]? = some (.cells #[(.slice (some ad106) l0_0.length c0_0)] 24 (0, 0))) ∧ zab (w'.heap[gb107]? = some (.cells #[.int .i64 ((zaa l0_0 x4_1).f0), .int .i64 ((zaa l0_0 x4_1).f1), (.slice A106_2 ((zaa l0_0 x4_1).f2).length c106_2)] 38 (0, 0))) ∧ zab (Below w.heap.size w w'))
           case atStart => exact ⟨(0), Yfs, H', ⟨Nat.le_refl _⟩, ⟨Yg BK105⟩, ⟨Yg BK107⟩, ⟨Yb_PGssPushesx2_1⟩⟩
           case round =>
            clear H'
            obtain ⟨x6_4, rfl, HA, HK4, BK105, BK107, HB⟩ := hrel
            cases gk with
            | zero => exact absurd HA.out (by simp [zah.l1])
            | succ k4 =>
             have H := HA.out;clear HA
             simp only [zah.l1] at H
             by_cases c33 : x6_4 < (((zaa l0_0 x4_1).f2).length : Int)
             ·rw [if_pos c33] at H
              have c33b0 := decide_eq_true c33
              clear c33
              by_cases c34 : 0 ≤ x6_4
              ·rw [if_pos c34] at H
               have c34b0 := decide_eq_true c34
               clear c34
               by_cases c35 : (rd ((zaa l0_0 x4_1).f2) x6_4) < 0
               ·rw [if_pos c35] at H
                have c35b0 := decide_eq_true c35
                clear c35;obtain rfl := Option.some.inj H
                have hnb36 := NB107_105.out
                have hnc36 := NB105_107.out
                obtain ⟨hcz37_0, hfz37_0, hcz37_1, hfz37_1, hcz37_2, hfz37_2⟩ := Yc3 BK107.out
                have p112 : 0 ≤ (x6_4 : Int) := Yod
                have q112 : x6_4 < (((zaa l0_0 x4_1).f2).length : Int) := Yod
                obtain ⟨ad112, e112, hx112_0⟩ := Kd.zb1 HR106_2.out x6_4 p112 q112
                cases e112
                replace hx112_0 := zai HB.out hx112_0
                replace p112 := eq_true p112
                replace q112 := eq_true q112
                try go_wp2
                replace BK105 := zab.mk (zac BK105.out)
                replace BK107 := zab.mk (zac BK107.out)
                replace HB := zab.mk (zav HB.out)
                refine zbt (n := 32) (S := fun w' => True) (ds := []) (Ymk 32 0) (by kernel_rfl) rfl rfl trivial (fun hHeld => ?_); refine zbo zah.zeo zah.zd6 (fun HT_ HW_ => ?_)
                generalize wr.drew = w38 at BK105 BK107 HB hHeld ⊢
                refine Ypt 0 62 32 1 HT_ ?_
                refine Ypt 1 63 32 3 HT_ ?_
                refine Ypt 2 64 32 7 HT_ ?_
                refine Ypu 3 65 32 15 HT_ ?_
                refine Ypu 4 66 32 31 HT_ ?_
                refine Ypu 5 67 32 63 HT_ ?_
                refine Ypt 6 68 32 127 HT_ ?_
                refine Ypt 7 69 32 255 HT_ ?_
                refine Ypu 8 70 32 511 HT_ ?_
                refine Ypu 9 71 32 1023 HT_ ?_
                refine Ypu 10 72 32 2047 HT_ ?_
                refine Ypu 11 73 32 4095 HT_ ?_
                refine Ypu 12 74 32 8191 HT_ ?_
                refine Ypu 13 75 32 16383 HT_ ?_
                refine Ypu 14 76 32 32767 HT_ ?_
                refine Ypu 15 77 32 65535 HT_ ?_
                refine Ypu 16 78 32 131071 HT_ ?_
                refine Ypt 17 79 32 262143 HT_ ?_
                refine Ypt 18 80 32 524287 HT_ ?_
                refine Ypu 19 81 32 1048575 HT_ ?_
                refine Ypu 20 82 32 2097151 HT_ ?_
                refine Ypu 21 83 32 4194303 HT_ ?_
                refine Ypu 22 84 32 8388607 HT_ ?_
                refine Ypu 23 85 32 16777215 HT_ ?_
                refine Ypu 24 86 32 33554431 HT_ ?_
                refine Ypu 25 87 32 67108863 HT_ ?_
                refine Ypu 26 88 32 134217727 HT_ ?_
                refine Ypu 27 89 32 268435455 HT_ ?_
                refine Ypu 28 90 32 536870911 HT_ ?_
                refine Ypu 29 91 32 1073741823 HT_ ?_
                refine Ypu 30 92 32 2147483647 HT_ ?_
                refine Ypt 31 93 32 4294967295 HT_ ?_
                refine zby (zbv HT_.out (by kernel_rfl)) ?_
                try go_wp2
                go_ret
                exact ⟨Yfi, Yb_PGssPushesx2_1⟩
               ·rw [if_neg c35] at H
                have c35b0 := decide_eq_false c35
                clear c35
                by_cases c39 : (rd ((zaa l0_0 x4_1).f2) x6_4) ≥ (l0_0.length : Int)
                ·rw [if_pos c39] at H
                 have c39b0 := decide_eq_true c39
                 clear c39;obtain rfl := Option.some.inj H
                 have hnb40 := NB107_105.out
                 have hnc40 := NB105_107.out
                 obtain ⟨hcz41_0, hfz41_0, hcz41_1, hfz41_1, hcz41_2, hfz41_2⟩ := Yc3 BK107.out
                 have p112 : 0 ≤ (x6_4 : Int) := Yod
                 have q112 : x6_4 < (((zaa l0_0 x4_1).f2).length : Int) := Yod
                 obtain ⟨ad112, e112, hx112_0⟩ := Kd.zb1 HR106_2.out x6_4 p112 q112
                 cases e112
                 replace hx112_0 := zai HB.out hx112_0
                 replace p112 := eq_true p112
                 replace q112 := eq_true q112
                 try go_wp2
                 replace BK105 := zab.mk (zac BK105.out)
                 replace BK107 := zab.mk (zac BK107.out)
                 replace HB := zab.mk (zav HB.out)
                 refine zbt (n := 32) (S := fun w' => True) (ds := []) (Ymk 32 0) (by kernel_rfl) rfl rfl trivial (fun hHeld => ?_); refine zbo zah.zeo zah.zd6 (fun HT_ HW_ => ?_)
                 generalize wr.drew = w42 at BK105 BK107 HB hHeld ⊢
                 refine Ypt 0 62 32 1 HT_ ?_
                 refine Ypt 1 63 32 3 HT_ ?_
                 refine Ypt 2 64 32 7 HT_ ?_
                 refine Ypt 3 65 32 15 HT_ ?_
                 refine Ypt 4 66 32 31 HT_ ?_
                 refine Ypt 5 67 32 63 HT_ ?_
                 refine Ypt 6 68 32 127 HT_ ?_
                 refine Ypt 7 69 32 255 HT_ ?_
                 refine Ypu 8 70 32 511 HT_ ?_
                 refine Ypu 9 71 32 1023 HT_ ?_
                 refine Ypu 10 72 32 2047 HT_ ?_
                 refine Ypu 11 73 32 4095 HT_ ?_
                 refine Ypu 12 74 32 8191 HT_ ?_
                 refine Ypu 13 75 32 16383 HT_ ?_
                 refine Ypu 14 76 32 32767 HT_ ?_
                 refine Ypu 15 77 32 65535 HT_ ?_
                 refine Ypu 16 78 32 131071 HT_ ?_
                 refine Ypt 17 79 32 262143 HT_ ?_
                 refine Ypt 18 80 32 524287 HT_ ?_
                 refine Ypu 19 81 32 1048575 HT_ ?_
                 refine Ypu 20 82 32 2097151 HT_ ?_
                 refine Ypu 21 83 32 4194303 HT_ ?_
                 refine Ypu 22 84 32 8388607 HT_ ?_
                 refine Ypu 23 85 32 16777215 HT_ ?_
                 refine Ypu 24 86 32 33554431 HT_ ?_
                 refine Ypu 25 87 32 67108863 HT_ ?_
                 refine Ypu 26 88 32 134217727 HT_ ?_
                 refine Ypu 27 89 32 268435455 HT_ ?_
                 refine Ypu 28 90 32 536870911 HT_ ?_
                 refine Ypu 29 91 32 1073741823 HT_ ?_
                 refine Ypu 30 92 32 2147483647 HT_ ?_
                 refine Ypt 31 93 32 4294967295 HT_ ?_
                 refine zby (zbv HT_.out (by kernel_rfl)) ?_
                 try go_wp2
                 go_ret
                 exact ⟨Yfi, Yb_PGssPushesx2_1⟩
                ·rw [if_neg c39] at H
                 have c39b0 := decide_eq_false c39
                 clear c39
                 by_cases c43 : 0 ≤ (rd ((zaa l0_0 x4_1).f2) x6_4)
                 ·rw [if_pos c43] at H
                  have c43b0 := decide_eq_true c43
                  clear c43
                  by_cases c44 : (rd ((zaa l0_0 x4_1).f2) x6_4) < (l0_0.length : Int)
                  ·rw [if_pos c44] at H
                   have c44b0 := decide_eq_true c44
                   clear c44
                   by_cases c45 : ((zaa l0_0 (rd ((zaa l0_0 x4_1).f2) x6_4)).f1) > ((zaa l0_0 x4_1).f1)
                   ·rw [if_pos c45] at H
                    have c45b0 := decide_eq_true c45
                    clear c45;obtain rfl := Option.some.inj H
                    have hnb46 := NB107_105.out
                    have hnc46 := NB105_107.out
                    obtain ⟨hcz47_0, hfz47_0, hcz47_1, hfz47_1, hcz47_2, hfz47_2⟩ := Yc3 BK107.out
                    have p112 : 0 ≤ (x6_4 : Int) := Yod
                    have q112 : x6_4 < (((zaa l0_0 x4_1).f2).length : Int) := Yod
                    obtain ⟨ad112, e112, hx112_0⟩ := Kd.zb1 HR106_2.out x6_4 p112 q112
                    cases e112
                    replace hx112_0 := zai HB.out hx112_0
                    replace p112 := eq_true p112
                    replace q112 := eq_true q112
                    try go_wp2
                    replace BK105 := zab.mk (zac BK105.out)
                    replace BK107 := zab.mk (zac BK107.out)
                    replace HB := zab.mk (zav HB.out)
                    have p113 : 0 ≤ ((rd ((zaa l0_0 x4_1).f2) x6_4) : Int) := Yod
                    have q113 : (rd ((zaa l0_0 x4_1).f2) x6_4) < (l0_0.length : Int) := Yod
                    obtain ⟨ad113, A113_2, c113_2, e113, hx113_0, hx113_1, hx113_2, hl113_2, hi113_2⟩ := zbn HR0_0.out (rd ((zaa l0_0 x4_1).f2) x6_4) p113 q113
                    have hw113_2 := hx113_2;have hw113_1 := hx113_1;have hw113_0 := hx113_0
                    obtain rfl : ad106 = ad113 := (by injection e113)
                    replace hx113_0 := zai HB.out hx113_0
                    replace hx113_1 := zai HB.out hx113_1
                    replace hx113_2 := zai HB.out hx113_2
                    have HR113_2 := zab.mk hi113_2;have HC113_2 := zab.mk hl113_2;clear hi113_2 hl113_2
                    replace p113 := eq_true p113
                    replace q113 := eq_true q113
                    refine zbt (n := 32) (S := fun w' => w'.cell? ⟨gb105, 0, none⟩ = some (.slice (some ad106) l0_0.length c0_0) ∧ w'.cell? ⟨gb107, 0, none⟩ = some (.int .i64 ((zaa l0_0 x4_1).f0)) ∧ w'.cell? ⟨gb107, 1, none⟩ = some (.int .i64 ((zaa l0_0 x4_1).f1)) ∧ w'.cell? ⟨gb107, 2, none⟩ = some (.slice (some ad112) ((zaa l0_0 x4_1).f2).length c106_2) ∧ w'.cell? (ad106.add (((rd ((zaa l0_0 x4_1).f2) x6_4)).toNat * 3)) = some (.int .i64 ((zaa l0_0 (rd ((zaa l0_0 x4_1).f2) x6_4)).f0)) ∧ w'.cell? ⟨(ad106.add (((rd ((zaa l0_0 x4_1).f2) x6_4)).toNat * 3)).block, (ad106.add (((rd ((zaa l0_0 x4_1).f2) x6_4)).toNat * 3)).off + 1, none⟩ = some (.int .i64 ((zaa l0_0 (rd ((zaa l0_0 x4_1).f2) x6_4)).f1)) ∧ w'.cell? ⟨(ad106.add (((rd ((zaa l0_0 x4_1).f2) x6_4)).toNat * 3)).block, (ad106.add (((rd ((zaa l0_0 x4_1).f2) x6_4)).toNat * 3)).off + 2, none⟩ = some (.slice A113_2 ((zaa l0_0 (rd ((zaa l0_0 x4_1).f2) x6_4)).f2).length c113_2)) (ds := []) (Ymk 32 0) (by kernel_rfl) rfl rfl ⟨(zaf BK105.out 0).trans rfl, (zaf BK107.out 0).trans rfl, (zaf BK107.out 1).trans rfl, (zaf BK107.out 2).trans rfl, ((HB.out.cell (World.block_lt_of_cell? w _ hw113_0)).trans hw113_0), ((HB.out.cell (World.block_lt_of_cell? w _ hw113_1)).trans hw113_1), ((HB.out.cell (World.block_lt_of_cell? w _ hw113_2)).trans hw113_2)⟩ (fun hHeld => ?_); refine zbo zah.zeo zah.zd6 (fun HT_ HW_ => ?_)
                    generalize wr.drew = w48 at BK105 BK107 HB HR113_2 hx113_0 hx113_1 hx113_2 hHeld ⊢
                    refine Ypt 0 62 32 1 HT_ ?_
                    refine Ypt 1 63 32 3 HT_ ?_
                    refine Ypt 2 64 32 7 HT_ ?_
                    refine Ypt 3 65 32 15 HT_ ?_
                    refine Ypt 4 66 32 31 HT_ ?_
                    refine Ypt 5 67 32 63 HT_ ?_
                    refine Ypt 6 68 32 127 HT_ ?_
                    refine Ypt 7 69 32 255 HT_ ?_
                    refine Ypt 8 70 32 511 HT_ ?_
                    refine Ypt 10 72 32 1535 HT_ ?_
                    refine Ypt 14 76 32 17919 HT_ ?_
                    refine Ytt 9 71 32 18431 HT_ HW_ hHeld ?_
                    refine Ypt 11 73 32 20479 HT_ ?_
                    refine Ypt 12 74 32 24575 HT_ ?_
                    refine Ytt 13 75 32 32767 HT_ HW_ hHeld ?_
                    refine Ytt 15 77 32 65535 HT_ HW_ hHeld ?_
                    refine Ypt 16 78 32 131071 HT_ ?_
                    refine Ypt 17 79 32 262143 HT_ ?_
                    refine Ypt 18 80 32 524287 HT_ ?_
                    refine Ypu 19 81 32 1048575 HT_ ?_
                    refine Ypu 20 82 32 2097151 HT_ ?_
                    refine Ypu 21 83 32 4194303 HT_ ?_
                    refine Ypu 22 84 32 8388607 HT_ ?_
                    refine Ypu 23 85 32 16777215 HT_ ?_
                    refine Ypu 24 86 32 33554431 HT_ ?_
                    refine Ypu 25 87 32 67108863 HT_ ?_
                    refine Ypu 26 88 32 134217727 HT_ ?_
                    refine Ypu 27 89 32 268435455 HT_ ?_
                    refine Ypu 28 90 32 536870911 HT_ ?_
                    refine Ypu 29 91 32 1073741823 HT_ ?_
                    refine Ypu 30 92 32 2147483647 HT_ ?_
                    refine Ypt 31 93 32 4294967295 HT_ ?_
                    refine zby (zbv HT_.out (by kernel_rfl)) ?_
                    try go_wp2
                    go_ret
                    exact ⟨Yfi, Yb_PGssPushesx2_1⟩
                   ·rw [if_neg c45] at H
                    have c45b0 := decide_eq_false c45
                    clear c45
                    by_cases c49 : x6_4 > 0
                    ·rw [if_pos c49] at H
                     have c49b0 := decide_eq_true c49
                     clear c49
                     obtain ⟨ji50, hji50⟩ : ∃ j_ : Int, (wrap64 (x6_4 - 1)) = j_ := ⟨_, rfl⟩
                     replace H : (if 0 ≤ (ji50) then (if (ji50) < (((zaa l0_0 x4_1).f2).length : Int) then (if (rd ((zaa l0_0 x4_1).f2) (ji50)) ≥ (rd ((zaa l0_0 x4_1).f2) x6_4) then (some false) else (zah.l1 k4 (l0_0.length : Int) x4_1 (wrap64 (x6_4 + 1)) l0_0 ((zaa l0_0 x4_1).f0) ((zaa l0_0 x4_1).f1) ((zaa l0_0 x4_1).f2))) else (none)) else (none)) = some r := by first | (rw [hji50] at H; exact H) | (simp only [hji50] at H ⊢; exact H)
                     have hji50w : (IntKind.i64.wrap (x6_4 - 1)) = ji50 := (zcm _).trans hji50
                     by_cases c51 : 0 ≤ (ji50)
                     ·rw [if_pos c51] at H
                      have c51b0 := decide_eq_true c51
                      clear c51
                      by_cases c52 : (ji50) < (((zaa l0_0 x4_1).f2).length : Int)
                      ·rw [if_pos c52] at H
                       have c52b0 := decide_eq_true c52
                       clear c52
                       by_cases c53 : (rd ((zaa l0_0 x4_1).f2) (ji50)) ≥ (rd ((zaa l0_0 x4_1).f2) x6_4)
                       ·rw [if_pos c53] at H
                        have c53b0 := decide_eq_true c53
                        clear c53;obtain rfl := Option.some.inj H
                        have hnb54 := NB107_105.out
                        have hnc54 := NB105_107.out
                        obtain ⟨hcz55_0, hfz55_0, hcz55_1, hfz55_1, hcz55_2, hfz55_2⟩ := Yc3 BK107.out
                        have p112 : 0 ≤ (x6_4 : Int) := Yod
                        have q112 : x6_4 < (((zaa l0_0 x4_1).f2).length : Int) := Yod
                        obtain ⟨ad112, e112, hx112_0⟩ := Kd.zb1 HR106_2.out x6_4 p112 q112
                        cases e112
                        replace hx112_0 := zai HB.out hx112_0
                        replace p112 := eq_true p112
                        replace q112 := eq_true q112
                        try go_wp2
                        replace BK105 := zab.mk (zac BK105.out)
                        replace BK107 := zab.mk (zac BK107.out)
                        replace HB := zab.mk (zav HB.out)
                        have p113 : 0 ≤ ((rd ((zaa l0_0 x4_1).f2) x6_4) : Int) := Yod
                        have q113 : (rd ((zaa l0_0 x4_1).f2) x6_4) < (l0_0.length : Int) := Yod
                        obtain ⟨ad113, A113_2, c113_2, e113, hx113_0, hx113_1, hx113_2, hl113_2, hi113_2⟩ := zbn HR0_0.out (rd ((zaa l0_0 x4_1).f2) x6_4) p113 q113
                        have hw113_2 := hx113_2;have hw113_1 := hx113_1;have hw113_0 := hx113_0
                        obtain rfl : ad106 = ad113 := (by injection e113)
                        replace hx113_0 := zai HB.out hx113_0
                        replace hx113_1 := zai HB.out hx113_1
                        replace hx113_2 := zai HB.out hx113_2
                        have HR113_2 := zab.mk hi113_2;have HC113_2 := zab.mk hl113_2;clear hi113_2 hl113_2
                        replace p113 := eq_true p113
                        replace q113 := eq_true q113
                        have p114 : 0 ≤ ((ji50) : Int) := Yod
                        have q114 : (ji50) < (((zaa l0_0 x4_1).f2).length : Int) := Yod
                        obtain ⟨ad114, e114, hx114_0⟩ := Kd.zb1 HR106_2.out (ji50) p114 q114
                        have hw114_0 := hx114_0
                        obtain rfl : ad112 = ad114 := (by injection e114)
                        replace hx114_0 := zai HB.out hx114_0
                        replace p114 := eq_true p114
                        replace q114 := eq_true q114
                        refine zbt (n := 32) (S := fun w' => w'.cell? ⟨gb105, 0, none⟩ = some (.slice (some ad106) l0_0.length c0_0) ∧ w'.cell? ⟨gb107, 0, none⟩ = some (.int .i64 ((zaa l0_0 x4_1).f0)) ∧ w'.cell? ⟨gb107, 1, none⟩ = some (.int .i64 ((zaa l0_0 x4_1).f1)) ∧ w'.cell? ⟨gb107, 2, none⟩ = some (.slice (some ad112) ((zaa l0_0 x4_1).f2).length c106_2) ∧ w'.cell? (ad106.add (((rd ((zaa l0_0 x4_1).f2) x6_4)).toNat * 3)) = some (.int .i64 ((zaa l0_0 (rd ((zaa l0_0 x4_1).f2) x6_4)).f0)) ∧ w'.cell? ⟨(ad106.add (((rd ((zaa l0_0 x4_1).f2) x6_4)).toNat * 3)).block, (ad106.add (((rd ((zaa l0_0 x4_1).f2) x6_4)).toNat * 3)).off + 1, none⟩ = some (.int .i64 ((zaa l0_0 (rd ((zaa l0_0 x4_1).f2) x6_4)).f1)) ∧ w'.cell? ⟨(ad106.add (((rd ((zaa l0_0 x4_1).f2) x6_4)).toNat * 3)).block, (ad106.add (((rd ((zaa l0_0 x4_1).f2) x6_4)).toNat * 3)).off + 2, none⟩ = some (.slice A113_2 ((zaa l0_0 (rd ((zaa l0_0 x4_1).f2) x6_4)).f2).length c113_2) ∧ w'.cell? (ad112.add ((ji50)).toNat) = some (.int .i64 (rd ((zaa l0_0 x4_1).f2) (ji50)))) (ds := []) (Ymk 32 0) (by kernel_rfl) rfl rfl ⟨(zaf BK105.out 0).trans rfl, (zaf BK107.out 0).trans rfl, (zaf BK107.out 1).trans rfl, (zaf BK107.out 2).trans rfl, ((HB.out.cell (World.block_lt_of_cell? w _ hw113_0)).trans hw113_0), ((HB.out.cell (World.block_lt_of_cell? w _ hw113_1)).trans hw113_1), ((HB.out.cell (World.block_lt_of_cell? w _ hw113_2)).trans hw113_2), ((HB.out.cell (World.block_lt_of_cell? w _ hw114_0)).trans hw114_0)⟩ (fun hHeld => ?_); refine zbo zah.zeo zah.zd6 (fun HT_ HW_ => ?_)
                        generalize wr.drew = w56 at BK105 BK107 HB HR113_2 hx113_0 hx113_1 hx113_2 hx114_0 hHeld ⊢
                        refine Ypt 0 62 32 1 HT_ ?_
                        refine Ypt 1 63 32 3 HT_ ?_
                        refine Ypt 2 64 32 7 HT_ ?_
                        refine Ypt 3 65 32 15 HT_ ?_
                        refine Ypt 4 66 32 31 HT_ ?_
                        refine Ypt 5 67 32 63 HT_ ?_
                        refine Ypt 6 68 32 127 HT_ ?_
                        refine Ypt 7 69 32 255 HT_ ?_
                        refine Ypt 8 70 32 511 HT_ ?_
                        refine Ypt 10 72 32 1535 HT_ ?_
                        refine Ypt 14 76 32 17919 HT_ ?_
                        refine Ytt 9 71 32 18431 HT_ HW_ hHeld ?_
                        refine Ypt 11 73 32 20479 HT_ ?_
                        refine Ypt 12 74 32 24575 HT_ ?_
                        refine Ytt 13 75 32 32767 HT_ HW_ hHeld ?_
                        refine Ytt 15 77 32 65535 HT_ HW_ hHeld ?_
                        refine Ypt 16 78 32 131071 HT_ ?_
                        refine Ypt 17 79 32 262143 HT_ ?_
                        refine Ypt 18 80 32 524287 HT_ ?_
                        refine Ypt 19 81 32 1048575 HT_ ?_
                        refine Ypt 20 82 32 2097151 HT_ ?_
                        refine Ypt 21 83 32 4194303 HT_ ?_
                        refine Ypt 22 84 32 8388607 HT_ ?_
                        refine Ypt 24 86 32 25165823 HT_ ?_
                        refine Ypt 25 87 32 58720255 HT_ ?_
                        refine Ypt 28 90 32 327155711 HT_ ?_
                        refine Ytt 23 85 32 335544319 HT_ HW_ hHeld ?_
                        refine Ypt 26 88 32 402653183 HT_ ?_
                        refine Ytt 27 89 32 536870911 HT_ HW_ hHeld ?_
                        refine Ypt 29 91 32 1073741823 HT_ ?_
                        refine Ypt 30 92 32 2147483647 HT_ ?_
                        refine Ypt 31 93 32 4294967295 HT_ ?_
                        refine zby (zbv HT_.out (by kernel_rfl)) ?_
                        try go_wp2
                        go_ret
                        exact ⟨by first | rfl | (simp [errW_none, errW_some] <;> rfl) | (simp only [← hji50]; first | rfl | (simp [errW_none, errW_some] <;> rfl)) | (simp [*, errW_none, errW_some] <;> rfl), Yb_PGssPushesx2_1⟩
                       ·rw [if_neg c53] at H
                        have c53b0 := decide_eq_false c53
                        clear c53
                        have H' := zab.mk H
                        clear H
                        have hnb57 := NB107_105.out
                        have hnc57 := NB105_107.out
                        obtain ⟨hcz58_0, hfz58_0, hcz58_1, hfz58_1, hcz58_2, hfz58_2⟩ := Yc3 BK107.out
                        have p112 : 0 ≤ (x6_4 : Int) := Yod
                        have q112 : x6_4 < (((zaa l0_0 x4_1).f2).length : Int) := Yod
                        obtain ⟨ad112, e112, hx112_0⟩ := Kd.zb1 HR106_2.out x6_4 p112 q112
                        cases e112
                        replace hx112_0 := zai HB.out hx112_0
                        replace p112 := eq_true p112
                        replace q112 := eq_true q112
                        try go_wp2
                        replace BK105 := zab.mk (zac BK105.out)
                        replace BK107 := zab.mk (zac BK107.out)
                        replace HB := zab.mk (zav HB.out)
                        have p113 : 0 ≤ ((rd ((zaa l0_0 x4_1).f2) x6_4) : Int) := Yod
                        have q113 : (rd ((zaa l0_0 x4_1).f2) x6_4) < (l0_0.length : Int) := Yod
                        obtain ⟨ad113, A113_2, c113_2, e113, hx113_0, hx113_1, hx113_2, hl113_2, hi113_2⟩ := zbn HR0_0.out (rd ((zaa l0_0 x4_1).f2) x6_4) p113 q113
                        have hw113_2 := hx113_2;have hw113_1 := hx113_1;have hw113_0 := hx113_0
                        obtain rfl : ad106 = ad113 := (by injection e113)
                        replace hx113_0 := zai HB.out hx113_0
                        replace hx113_1 := zai HB.out hx113_1
                        replace hx113_2 := zai HB.out hx113_2
                        have HR113_2 := zab.mk hi113_2;have HC113_2 := zab.mk hl113_2;clear hi113_2 hl113_2
                        replace p113 := eq_true p113
                        replace q113 := eq_true q113
                        have p114 : 0 ≤ ((ji50) : Int) := Yod
                        have q114 : (ji50) < (((zaa l0_0 x4_1).f2).length : Int) := Yod
                        obtain ⟨ad114, e114, hx114_0⟩ := Kd.zb1 HR106_2.out (ji50) p114 q114
                        have hw114_0 := hx114_0
                        obtain rfl : ad112 = ad114 := (by injection e114)
                        replace hx114_0 := zai HB.out hx114_0
                        replace p114 := eq_true p114
                        replace q114 := eq_true q114
                        refine zbt (n := 32) (S := fun w' => w'.cell? ⟨gb105, 0, none⟩ = some (.slice (some ad106) l0_0.length c0_0) ∧ w'.cell? ⟨gb107, 0, none⟩ = some (.int .i64 ((zaa l0_0 x4_1).f0)) ∧ w'.cell? ⟨gb107, 1, none⟩ = some (.int .i64 ((zaa l0_0 x4_1).f1)) ∧ w'.cell? ⟨gb107, 2, none⟩ = some (.slice (some ad112) ((zaa l0_0 x4_1).f2).length c106_2) ∧ w'.cell? (ad106.add (((rd ((zaa l0_0 x4_1).f2) x6_4)).toNat * 3)) = some (.int .i64 ((zaa l0_0 (rd ((zaa l0_0 x4_1).f2) x6_4)).f0)) ∧ w'.cell? ⟨(ad106.add (((rd ((zaa l0_0 x4_1).f2) x6_4)).toNat * 3)).block, (ad106.add (((rd ((zaa l0_0 x4_1).f2) x6_4)).toNat * 3)).off + 1, none⟩ = some (.int .i64 ((zaa l0_0 (rd ((zaa l0_0 x4_1).f2) x6_4)).f1)) ∧ w'.cell? ⟨(ad106.add (((rd ((zaa l0_0 x4_1).f2) x6_4)).toNat * 3)).block, (ad106.add (((rd ((zaa l0_0 x4_1).f2) x6_4)).toNat * 3)).off + 2, none⟩ = some (.slice A113_2 ((zaa l0_0 (rd ((zaa l0_0 x4_1).f2) x6_4)).f2).length c113_2) ∧ w'.cell? (ad112.add ((ji50)).toNat) = some (.int .i64 (rd ((zaa l0_0 x4_1).f2) (ji50)))) (ds := []) (Ymk 32 0) (by kernel_rfl) rfl rfl ⟨(zaf BK105.out 0).trans rfl, (zaf BK107.out 0).trans rfl, (zaf BK107.out 1).trans rfl, (zaf BK107.out 2).trans rfl, ((HB.out.cell (World.block_lt_of_cell? w _ hw113_0)).trans hw113_0), ((HB.out.cell (World.block_lt_of_cell? w _ hw113_1)).trans hw113_1), ((HB.out.cell (World.block_lt_of_cell? w _ hw113_2)).trans hw113_2), ((HB.out.cell (World.block_lt_of_cell? w _ hw114_0)).trans hw114_0)⟩ (fun hHeld => ?_); refine zbo zah.zeo zah.zd6 (fun HT_ HW_ => ?_)
                        generalize wr.drew = w59 at BK105 BK107 HB HR113_2 hx113_0 hx113_1 hx113_2 hx114_0 hHeld ⊢
                        refine Ypt 0 62 32 1 HT_ ?_
                        refine Ypt 1 63 32 3 HT_ ?_
                        refine Ypt 2 64 32 7 HT_ ?_
                        refine Ypt 3 65 32 15 HT_ ?_
                        refine Ypt 4 66 32 31 HT_ ?_
                        refine Ypt 5 67 32 63 HT_ ?_
                        refine Ypt 6 68 32 127 HT_ ?_
                        refine Ypt 7 69 32 255 HT_ ?_
                        refine Ypt 8 70 32 511 HT_ ?_
                        refine Ypt 10 72 32 1535 HT_ ?_
                        refine Ypt 14 76 32 17919 HT_ ?_
                        refine Ytt 9 71 32 18431 HT_ HW_ hHeld ?_
                        refine Ypt 11 73 32 20479 HT_ ?_
                        refine Ypt 12 74 32 24575 HT_ ?_
                        refine Ytt 13 75 32 32767 HT_ HW_ hHeld ?_
                        refine Ytt 15 77 32 65535 HT_ HW_ hHeld ?_
                        refine Ypt 16 78 32 131071 HT_ ?_
                        refine Ypt 17 79 32 262143 HT_ ?_
                        refine Ypt 18 80 32 524287 HT_ ?_
                        refine Ypt 19 81 32 1048575 HT_ ?_
                        refine Ypt 20 82 32 2097151 HT_ ?_
                        refine Ypt 21 83 32 4194303 HT_ ?_
                        refine Ypt 22 84 32 8388607 HT_ ?_
                        refine Ypt 24 86 32 25165823 HT_ ?_
                        refine Ypt 25 87 32 58720255 HT_ ?_
                        refine Ypt 28 90 32 327155711 HT_ ?_
                        refine Ytt 23 85 32 335544319 HT_ HW_ hHeld ?_
                        refine Ypt 26 88 32 402653183 HT_ ?_
                        refine Ytt 27 89 32 536870911 HT_ HW_ hHeld ?_
                        refine Ypt 29 91 32 1073741823 HT_ ?_
                        refine Ypt 30 92 32 2147483647 HT_ ?_
                        refine Ypt 31 93 32 4294967295 HT_ ?_
                        refine zby (zbv HT_.out (by kernel_rfl)) ?_
                        try go_wp2
                        go_roundg k4
                        case measure => have := HK1.out; have := HJ3.out; have := HJ8.out; have := HK4.out; omega
                        case rel => exact ⟨(wrap64 (x6_4 + 1)), Yfs, H', ⟨by have := HK1.out; have := HJ3.out; have := HJ8.out; have := HK4.out; omega⟩, ⟨Yg BK105⟩, ⟨Yg BK107⟩, ⟨Yb_PGssPushesx2_1⟩⟩
                      ·rw [if_neg c52] at H
                       exact absurd H (by simp)
                     ·rw [if_neg c51] at H
                      exact absurd H (by simp)
                    ·rw [if_neg c49] at H
                     have c49b0 := decide_eq_false c49
                     clear c49
                     have H' := zab.mk H
                     clear H
                     have hnb60 := NB107_105.out
                     have hnc60 := NB105_107.out
                     obtain ⟨hcz61_0, hfz61_0, hcz61_1, hfz61_1, hcz61_2, hfz61_2⟩ := Yc3 BK107.out
                     have p112 : 0 ≤ (x6_4 : Int) := Yod
                     have q112 : x6_4 < (((zaa l0_0 x4_1).f2).length : Int) := Yod
                     obtain ⟨ad112, e112, hx112_0⟩ := Kd.zb1 HR106_2.out x6_4 p112 q112
                     cases e112
                     replace hx112_0 := zai HB.out hx112_0
                     replace p112 := eq_true p112
                     replace q112 := eq_true q112
                     try go_wp2
                     replace BK105 := zab.mk (zac BK105.out)
                     replace BK107 := zab.mk (zac BK107.out)
                     replace HB := zab.mk (zav HB.out)
                     have p113 : 0 ≤ ((rd ((zaa l0_0 x4_1).f2) x6_4) : Int) := Yod
                     have q113 : (rd ((zaa l0_0 x4_1).f2) x6_4) < (l0_0.length : Int) := Yod
                     obtain ⟨ad113, A113_2, c113_2, e113, hx113_0, hx113_1, hx113_2, hl113_2, hi113_2⟩ := zbn HR0_0.out (rd ((zaa l0_0 x4_1).f2) x6_4) p113 q113
                     have hw113_2 := hx113_2;have hw113_1 := hx113_1;have hw113_0 := hx113_0
                     obtain rfl : ad106 = ad113 := (by injection e113)
                     replace hx113_0 := zai HB.out hx113_0
                     replace hx113_1 := zai HB.out hx113_1
                     replace hx113_2 := zai HB.out hx113_2
                     have HR113_2 := zab.mk hi113_2;have HC113_2 := zab.mk hl113_2;clear hi113_2 hl113_2
                     replace p113 := eq_true p113
                     replace q113 := eq_true q113
                     refine zbt (n := 32) (S := fun w' => w'.cell? ⟨gb105, 0, none⟩ = some (.slice (some ad106) l0_0.length c0_0) ∧ w'.cell? ⟨gb107, 0, none⟩ = some (.int .i64 ((zaa l0_0 x4_1).f0)) ∧ w'.cell? ⟨gb107, 1, none⟩ = some (.int .i64 ((zaa l0_0 x4_1).f1)) ∧ w'.cell? ⟨gb107, 2, none⟩ = some (.slice (some ad112) ((zaa l0_0 x4_1).f2).length c106_2) ∧ w'.cell? (ad106.add (((rd ((zaa l0_0 x4_1).f2) x6_4)).toNat * 3)) = some (.int .i64 ((zaa l0_0 (rd ((zaa l0_0 x4_1).f2) x6_4)).f0)) ∧ w'.cell? ⟨(ad106.add (((rd ((zaa l0_0 x4_1).f2) x6_4)).toNat * 3)).block, (ad106.add (((rd ((zaa l0_0 x4_1).f2) x6_4)).toNat * 3)).off + 1, none⟩ = some (.int .i64 ((zaa l0_0 (rd ((zaa l0_0 x4_1).f2) x6_4)).f1)) ∧ w'.cell? ⟨(ad106.add (((rd ((zaa l0_0 x4_1).f2) x6_4)).toNat * 3)).block, (ad106.add (((rd ((zaa l0_0 x4_1).f2) x6_4)).toNat * 3)).off + 2, none⟩ = some (.slice A113_2 ((zaa l0_0 (rd ((zaa l0_0 x4_1).f2) x6_4)).f2).length c113_2)) (ds := []) (Ymk 32 0) (by kernel_rfl) rfl rfl ⟨(zaf BK105.out 0).trans rfl, (zaf BK107.out 0).trans rfl, (zaf BK107.out 1).trans rfl, (zaf BK107.out 2).trans rfl, ((HB.out.cell (World.block_lt_of_cell? w _ hw113_0)).trans hw113_0), ((HB.out.cell (World.block_lt_of_cell? w _ hw113_1)).trans hw113_1), ((HB.out.cell (World.block_lt_of_cell? w _ hw113_2)).trans hw113_2)⟩ (fun hHeld => ?_); refine zbo zah.zeo zah.zd6 (fun HT_ HW_ => ?_)
                     generalize wr.drew = w62 at BK105 BK107 HB HR113_2 hx113_0 hx113_1 hx113_2 hHeld ⊢
                     refine Ypt 0 62 32 1 HT_ ?_
                     refine Ypt 1 63 32 3 HT_ ?_
                     refine Ypt 2 64 32 7 HT_ ?_
                     refine Ypt 3 65 32 15 HT_ ?_
                     refine Ypt 4 66 32 31 HT_ ?_
                     refine Ypt 5 67 32 63 HT_ ?_
                     refine Ypt 6 68 32 127 HT_ ?_
                     refine Ypt 7 69 32 255 HT_ ?_
                     refine Ypt 8 70 32 511 HT_ ?_
                     refine Ypt 10 72 32 1535 HT_ ?_
                     refine Ypt 14 76 32 17919 HT_ ?_
                     refine Ytt 9 71 32 18431 HT_ HW_ hHeld ?_
                     refine Ypt 11 73 32 20479 HT_ ?_
                     refine Ypt 12 74 32 24575 HT_ ?_
                     refine Ytt 13 75 32 32767 HT_ HW_ hHeld ?_
                     refine Ytt 15 77 32 65535 HT_ HW_ hHeld ?_
                     refine Ypt 16 78 32 131071 HT_ ?_
                     refine Ypt 17 79 32 262143 HT_ ?_
                     refine Ypt 18 80 32 524287 HT_ ?_
                     refine Ypt 19 81 32 1048575 HT_ ?_
                     refine Ypt 20 82 32 2097151 HT_ ?_
                     refine Ypt 21 83 32 4194303 HT_ ?_
                     refine Ypu 22 84 32 8388607 HT_ ?_
                     refine Ypu 23 85 32 16777215 HT_ ?_
                     refine Ypu 24 86 32 33554431 HT_ ?_
                     refine Ypu 25 87 32 67108863 HT_ ?_
                     refine Ypu 26 88 32 134217727 HT_ ?_
                     refine Ypu 27 89 32 268435455 HT_ ?_
                     refine Ypu 28 90 32 536870911 HT_ ?_
                     refine Ypu 29 91 32 1073741823 HT_ ?_
                     refine Ypt 30 92 32 2147483647 HT_ ?_
                     refine Ypt 31 93 32 4294967295 HT_ ?_
                     refine zby (zbv HT_.out (by kernel_rfl)) ?_
                     try go_wp2
                     go_roundg k4
                     case measure => have := HK1.out; have := HJ3.out; have := HJ8.out; have := HK4.out; omega
                     case rel => exact ⟨(wrap64 (x6_4 + 1)), Yfs, H', ⟨by have := HK1.out; have := HJ3.out; have := HJ8.out; have := HK4.out; omega⟩, ⟨Yg BK105⟩, ⟨Yg BK107⟩, ⟨Yb_PGssPushesx2_1⟩⟩
                  ·rw [if_neg c44] at H
                   exact absurd H (by simp)
                 ·rw [if_neg c43] at H
                  exact absurd H (by simp)
              ·rw [if_neg c34] at H
               exact absurd H (by simp)
             ·rw [if_neg c33] at H
              have c33b0 := decide_eq_false c33
              clear c33
              have H' := zab.mk H
              clear H
              have hnb63 := NB107_105.out
              have hnc63 := NB105_107.out
              obtain ⟨hcz64_0, hfz64_0, hcz64_1, hfz64_1, hcz64_2, hfz64_2⟩ := Yc3 BK107.out
              go_wp2
              go_roundg k4
              case measure => have := HK1.out; have := HJ3.out; have := HJ8.out; have := HK4.out; omega
              case rel => exact ⟨(wrap64 (x4_1 + 1)), Yfs, H', ⟨by have := HK1.out; have := HJ3.out; have := HJ8.out; have := HK4.out; omega⟩, ⟨Yg BK105⟩, ⟨Yb_PGssPushesx2_1⟩⟩
       ·rw [if_neg c8] at H
        exact absurd H (by simp)
      ·rw [if_neg c7] at H
       exact absurd H (by simp)
     ·replace c6 := Bool.eq_false_iff.mpr c6
      subst c6
      have H1 : (some (decide ((l0_0.length : Int) ≤ 4096))) = some r := by rw [if_neg (show ¬ (false = true) by decide)] at H; exact H
      clear H;have H := H1;clear H1;obtain rfl := Option.some.inj H;go_wp2;go_ret
      exact ⟨Yfi, Yb_PGssPushesx2_0⟩
theorem Yb_PGssPushesx3_0 {n : Nat} {w w' : World} (h : Below n w w' := by repeat (first | (with_reducible first | exact HB.out | apply za8 | apply za2 | apply zav | refine zau ?_ GE115.out) | exact HB.out)) : Below n w w' := h
def zbk.f : Option Bool := some true
theorem zbk.calls (r : Bool) (w : World) (h : zbk.f = some r) :
  Calls Try.prog 9 #[] w fun e w' => e = .returned (.bool r) ∧ Below w.heap.size w w' := by
 obtain rfl : true = r := by injection h
 exact GAwake.awake_calls w
def ndT (x : S38) : G16.Nd := (x.f0, x.f1, x.f2)
def ndS (x : G16.Nd) : S38 := ⟨x.1, x.2.1, x.2.2⟩
theorem C_ndT {w : World} {A : Option Addr} {n : Nat} {xs : List S38} (h : Kd.C k38 w A n xs) : Kd.C GGr.kN w A n (xs.map ndT) := GAwake.C_iso (d := GGr.kN) (f := ndT) h
theorem R_ndS {e : Nat} {w : World} {base : Nat} {ok : Nat → Prop} {v : Value} {r : List G16.Nd} (h : Kd.R GGr.kN e w base ok v r) : Kd.R k38 e w base ok v (r.map ndS) := GGiv.R_map (d' := k38) rfl (fun _ _ _ h => h) h
def gss_Paths.f (l0_0 : List S38) (a1 : Int) (a2 : Int) : Option (List (List Int) × Int) := if GGiv.fitB (l0_0.map ndT) = true then some (GGivK.pathsE (l0_0.map ndT) a1 a2) else none
def gss_Back.f (l0_0 : List S38) (a1 : Int) (a2 : Int) : Option (List Int) := if GGiv.fitB (l0_0.map ndT) = true then some (GBack.backV (l0_0.map ndT) a1 a2) else none
def zc9.f (l0_0 : List S38) (a1 : Int) (a2 : Int) (a3 : Int) : Option (List S38 × Int × Bool) := if GGiv.fitB (l0_0.map ndT) = true ∧ GAdd.cntG (l0_0.map ndT) ≤ 100000000 then some ((GPush.zbq (l0_0.map ndT) a1 a2 a3).1.map ndS, (GPush.zbq (l0_0.map ndT) a1 a2 a3).2.1, (GPush.zbq (l0_0.map ndT) a1 a2 a3).2.2) else none
theorem zc9.calls (P0_0_ : Nat → Prop) (A0_0 : Option Addr) (c0_0 : Nat) (l0_0 : List S38) (a1 : Int) (a2 : Int) (a3 : Int) (r1 : List S38) (r2 : Int) (r3 : Bool) (w : World) (hs0_0 : Kd.V k38 38 w w.heap.size (fun k_ => P0_0_ k_) (.slice A0_0 l0_0.length c0_0) l0_0) (h : zc9.f l0_0 a1 a2 a3 = some (r1, r2, r3)) :
  Calls Try.prog 13 #[.agg #[.slice A0_0 l0_0.length c0_0], .int .i64 a1, .int .i64 a2, .int .i64 a3] w fun e w' => ∃ v0_ : Value, e = .returned (.tuple #[.agg #[v0_], .int .i64 r2, .bool r3]) ∧ Kd.V k38 38 w' w.heap.size (fun k_ => (P0_0_ k_ ∨ w.heap.size ≤ k_)) v0_ r1 ∧ Below w.heap.size w w' := by
 unfold zc9.f at h
 split at h
 case isFalse => cases h
 rename_i hok
 have h := Option.some.inj h
 injection h with h1 h2
 injection h2 with h2 h3
 subst h1; subst h2; subst h3
 have hl0 : (l0_0.map ndT).length = l0_0.length := by simp
 have hrd := Kd.V_reads' hs0_0
 have hc := GPush.zhs A0_0 c0_0 (l0_0.map ndT) a1 a2 a3 w (by rw [hl0]; exact C_ndT hrd.2.2) (by rw [hl0]; exact hrd.2.1) (GGiv.fit_fit hok.1) hok.2
 rw [hl0] at hc
 refine hc.mono ?_
 rintro e w' ⟨A', c', rfl, hl, hC, hB, hV⟩
 refine ⟨_, rfl, ?_, hB⟩
 rcases hV with ⟨rfl, rfl, hg⟩ | hR
 ·rw [hg, List.map_map, show (l0_0.map (ndS ∘ ndT)) = l0_0 from List.map_id' l0_0, hl0]
  exact Kd.zar (Kd.zat hs0_0 hB) (fun k hk => .inl hk)
 ·exact GGivK.push_V (R_ndS hR)
def zaw.l0 : Nat → Int → Int → Int → List (S38) → Option (Int)
 | 0, _, _, _, _ => none
 | k + 1, x1, x2, x7, x116000 => if x7 < (x116000.length : Int) then (if 0 ≤ x7 then (if ((zaa x116000 x7).f0) = x1 then (if ((zaa x116000 x7).f1) = x2 then (some x7) else (zaw.l0 k x1 x2 (wrap64 (x7 + 1)) x116000)) else (zaw.l0 k x1 x2 (wrap64 (x7 + 1)) x116000)) else (none)) else (some (-1))
def zaw.f (k : Nat) (l0_0 : List (S38)) (a1 : Int) (a2 : Int) : Option (Int) := zaw.l0 k a1 a2 0 l0_0
theorem zaw.calls (k : Nat) (A0_0 : Option Addr) (c0_0 : Nat) (l0_0 : List (S38)) (a1 : Int) (a2 : Int) (r : Int) (w : World) (hr0_0 : Kd.C k38 w A0_0 l0_0.length l0_0) (hc0_0 : l0_0.length ≤ c0_0) (h : zaw.f k l0_0 a1 a2 = some r) :
  Calls Try.prog 14 #[.agg #[.slice A0_0 l0_0.length c0_0], .int .i64 a1, .int .i64 a2] w fun e w' => e = .returned (.int .i64 r) ∧ Below w.heap.size w w' := by
 have hu24 := Try.underlying24
 have HR0_0 := zab.mk hr0_0;have HC0_0 := zab.mk hc0_0;clear hr0_0 hc0_0
 have HB := zab.mk (Below.refl w.heap.size w)
 have H : (zaw.l0 k a1 a2 0 l0_0) = some r := h
 clear h
 have H' := zab.mk H
 clear H
 go_enter Try.func14, Try.ntmps14
 go_wp2_with (first | ((with_reducible refine zbb (N := 3) rfl ?_); refine Ybx 3 #[.slice A0_0 l0_0.length c0_0] 24 ?_; intro gb115 hg w4 hbox hb; obtain ⟨BK115, GW115, GE115, HB⟩ := Yb4 hbox hg hb Ybe; clear hb hbox hg))
 go_loopg [7] k (fun kq v7 w' => ∃ (x7_1 : Int), v7 = .int .i64 x7_1 ∧ zab (zaw.l0 kq a1 a2 x7_1 l0_0 = some r) ∧ zab (kq ≤ k) ∧ zab (w'.heap[gb115]? = some (.cells #[(.slice A0_0 l0_0.length c0_0)] 24 (0, 0))) ∧ zab (Below w.heap.size w w'))
 case atStart => exact ⟨(0), Yfs, H', ⟨Nat.le_refl _⟩, ⟨Yg BK115⟩, ⟨Yb_PGssPushesx3_0⟩⟩
 case round =>
  clear H'
  obtain ⟨x7_1, rfl, HA, HK1, BK115, HB⟩ := hrel
  cases gk with
  | zero => exact absurd HA.out (by simp [zaw.l0])
  | succ k1 =>
   have H := HA.out;clear HA
   simp only [zaw.l0] at H
   by_cases c5 : x7_1 < (l0_0.length : Int)
   ·rw [if_pos c5] at H
    have c5b0 := decide_eq_true c5
    clear c5
    by_cases c6 : 0 ≤ x7_1
    ·rw [if_pos c6] at H
     have c6b0 := decide_eq_true c6
     clear c6
     by_cases c7 : ((zaa l0_0 x7_1).f0) = a1
     ·rw [if_pos c7] at H
      have c7b0 : (((zaa l0_0 x7_1).f0) == a1) = true := beq_iff_eq.mpr c7
      have c7b1 : (((zaa l0_0 x7_1).f0) != a1) = false := bne_eq_false_iff_eq.mpr c7
      clear c7
      by_cases c8 : ((zaa l0_0 x7_1).f1) = a2
      ·rw [if_pos c8] at H
       have c8b0 : (((zaa l0_0 x7_1).f1) == a2) = true := beq_iff_eq.mpr c8
       have c8b1 : (((zaa l0_0 x7_1).f1) != a2) = false := bne_eq_false_iff_eq.mpr c8
       clear c8;obtain rfl := Option.some.inj H
       obtain ⟨hcz9_0, hfz9_0⟩ := Yc1 BK115.out
       have p116 : 0 ≤ (x7_1 : Int) := Yod
       have q116 : x7_1 < (l0_0.length : Int) := Yod
       obtain ⟨ad116, A116_2, c116_2, e116, hx116_0, hx116_1, hx116_2, hl116_2, hi116_2⟩ := zbn HR0_0.out x7_1 p116 q116
       cases e116
       replace hx116_0 := zai HB.out hx116_0
       replace hx116_1 := zai HB.out hx116_1
       replace hx116_2 := zai HB.out hx116_2
       have HR116_2 := zab.mk hi116_2;have HC116_2 := zab.mk hl116_2;clear hi116_2 hl116_2
       replace p116 := eq_true p116
       replace q116 := eq_true q116
       have p117 : 0 ≤ (x7_1 : Int) := Yod
       have q117 : x7_1 < (l0_0.length : Int) := Yod
       obtain ⟨ad117, A117_2, c117_2, e117, hx117_0, hx117_1, hx117_2, hl117_2, hi117_2⟩ := zbn HR0_0.out x7_1 p117 q117
       obtain rfl : ad116 = ad117 := (by injection e117)
       replace hx117_0 := zai HB.out hx117_0
       replace hx117_1 := zai HB.out hx117_1
       replace hx117_2 := zai HB.out hx117_2
       have HR117_2 := zab.mk hi117_2;have HC117_2 := zab.mk hl117_2;clear hi117_2 hl117_2
       replace p117 := eq_true p117
       replace q117 := eq_true q117
       have ea_ := Option.some.inj (hx116_2.symm.trans hx117_2)
       injection ea_ with ea_ en_ ec_
       subst ea_;subst ec_;clear en_;go_wp2;go_ret
       exact ⟨Yfi, Yb_PGssPushesx3_0⟩
      ·rw [if_neg c8] at H
       have c8b0 : (((zaa l0_0 x7_1).f1) == a2) = false := beq_eq_false_iff_ne.mpr c8
       have c8b1 : (((zaa l0_0 x7_1).f1) != a2) = true := bne_iff_ne.mpr c8
       have H' := zab.mk H
       clear H
       obtain ⟨hcz10_0, hfz10_0⟩ := Yc1 BK115.out
       have p116 : 0 ≤ (x7_1 : Int) := Yod
       have q116 : x7_1 < (l0_0.length : Int) := Yod
       obtain ⟨ad116, A116_2, c116_2, e116, hx116_0, hx116_1, hx116_2, hl116_2, hi116_2⟩ := zbn HR0_0.out x7_1 p116 q116
       cases e116
       replace hx116_0 := zai HB.out hx116_0
       replace hx116_1 := zai HB.out hx116_1
       replace hx116_2 := zai HB.out hx116_2
       have HR116_2 := zab.mk hi116_2;have HC116_2 := zab.mk hl116_2;clear hi116_2 hl116_2
       replace p116 := eq_true p116
       replace q116 := eq_true q116
       have p117 : 0 ≤ (x7_1 : Int) := Yod
       have q117 : x7_1 < (l0_0.length : Int) := Yod
       obtain ⟨ad117, A117_2, c117_2, e117, hx117_0, hx117_1, hx117_2, hl117_2, hi117_2⟩ := zbn HR0_0.out x7_1 p117 q117
       obtain rfl : ad116 = ad117 := (by injection e117)
       replace hx117_0 := zai HB.out hx117_0
       replace hx117_1 := zai HB.out hx117_1
       replace hx117_2 := zai HB.out hx117_2
       have HR117_2 := zab.mk hi117_2;have HC117_2 := zab.mk hl117_2;clear hi117_2 hl117_2
       replace p117 := eq_true p117
       replace q117 := eq_true q117
       have ea_ := Option.some.inj (hx116_2.symm.trans hx117_2)
       injection ea_ with ea_ en_ ec_
       subst ea_;subst ec_;clear en_;go_wp2
       go_roundg k1
       case measure => have := HK1.out; omega
       case rel => exact ⟨(wrap64 (x7_1 + 1)), Yfs, H', ⟨by have := HK1.out; omega⟩, ⟨Yg BK115⟩, ⟨Yb_PGssPushesx3_0⟩⟩
     ·rw [if_neg c7] at H
      have c7b0 : (((zaa l0_0 x7_1).f0) == a1) = false := beq_eq_false_iff_ne.mpr c7
      have c7b1 : (((zaa l0_0 x7_1).f0) != a1) = true := bne_iff_ne.mpr c7
      have H' := zab.mk H
      clear H
      obtain ⟨hcz11_0, hfz11_0⟩ := Yc1 BK115.out
      have p116 : 0 ≤ (x7_1 : Int) := Yod
      have q116 : x7_1 < (l0_0.length : Int) := Yod
      obtain ⟨ad116, A116_2, c116_2, e116, hx116_0, hx116_1, hx116_2, hl116_2, hi116_2⟩ := zbn HR0_0.out x7_1 p116 q116
      cases e116
      replace hx116_0 := zai HB.out hx116_0
      replace hx116_1 := zai HB.out hx116_1
      replace hx116_2 := zai HB.out hx116_2
      have HR116_2 := zab.mk hi116_2;have HC116_2 := zab.mk hl116_2;clear hi116_2 hl116_2
      replace p116 := eq_true p116
      replace q116 := eq_true q116
      go_wp2
      go_roundg k1
      case measure => have := HK1.out; omega
      case rel => exact ⟨(wrap64 (x7_1 + 1)), Yfs, H', ⟨by have := HK1.out; omega⟩, ⟨Yg BK115⟩, ⟨Yb_PGssPushesx3_0⟩⟩
    ·rw [if_neg c6] at H
     exact absurd H (by simp)
   ·rw [if_neg c5] at H
    have c5b0 := decide_eq_false c5
    clear c5;obtain rfl := Option.some.inj H
    obtain ⟨hcz12_0, hfz12_0⟩ := Yc1 BK115.out
    go_wp2;go_ret
    exact ⟨Yfi, Yb_PGssPushesx3_0⟩
theorem Yb_PGssPushesx4_0 {n : Nat} {w w' : World} (h : Below n w w' := by repeat (first | (with_reducible first | exact HB.out | apply za8 | apply za2 | apply zav | refine zau ?_ GE118.out) | exact HB.out)) : Below n w w' := h
theorem Yb_PGssPushesx4_1 {n : Nat} {w w' : World} (h : Below n w w' := by repeat (first | (with_reducible first | exact HB.out | apply za8 | apply za2 | apply zav | refine zau ?_ GE118.out | refine zau ?_ GE119.out) | exact HB.out)) : Below n w w' := h
theorem Yb_PGssPushesx4_2 {n : Nat} {w w' : World} (h : Below n w w' := by repeat (first | (with_reducible first | exact HB.out | apply za8 | apply za2 | apply zav | refine zau ?_ GE118.out | refine zau ?_ GE119.out | refine zau ?_ GE120.out) | exact HB.out)) : Below n w w' := h
theorem Yb_PGssPushesx4_3 {n : Nat} {w w' : World} (h : Below n w w' := by repeat (first | (with_reducible first | exact HB.out | apply za8 | apply za2 | apply zav | refine zau ?_ GE118.out | refine zau ?_ GE119.out | refine zau ?_ GE120.out | refine zau ?_ GE123.out) | exact HB.out)) : Below n w w' := h
theorem Yb_PGssPushesx4_4 {n : Nat} {w w' : World} (h : Below n w w' := by repeat (first | (with_reducible first | exact HB.out | apply za8 | apply za2 | apply zav | refine zau ?_ GE118.out | refine zau ?_ GE119.out | refine zau ?_ GE120.out | refine zau ?_ GE123.out | refine zau ?_ GE129.out) | exact HB.out)) : Below n w w' := h
mutual
def zal.j1 : Nat → Int → List (S38) → Int → Int → List Int → Option ((List (S38)))
 | 0, _, _, _, _, _ => none
 | k + 1, x5, x119000, x120000, x120001, x120002 => zal.l1 k x5 0 x119000 x120000 x120001 x120002 ([] : List (S38))
def zal.l1 : Nat → Int → Int → List (S38) → Int → Int → List Int → List (S38) → Option ((List (S38)))
 | 0, _, _, _, _, _, _, _ => none
 | k + 1, x5, x7, x119000, x120000, x120001, x120002, x124000 => if x7 ≤ (x119000.length : Int) then (if x7 = x5 then (if x124000.length < 3518437208883 then (zal.j3 k x5 x7 x119000 x120000 x120001 x120002 (x124000 ++ [(⟨x120000, x120001, ([] : List Int)⟩ : S38)])) else (none)) else (zal.j3 k x5 x7 x119000 x120000 x120001 x120002 x124000)) else (some x124000)
def zal.j3 : Nat → Int → Int → List (S38) → Int → Int → List Int → List (S38) → Option ((List (S38)))
 | 0, _, _, _, _, _, _, _ => none
 | k + 1, x5, x7, x119000, x120000, x120001, x120002, x124000 => if x7 = (x119000.length : Int) then (some x124000) else (if 0 ≤ x7 then (if x7 < (x119000.length : Int) then (zal.l2 k x5 x7 0 x119000 x120000 x120001 x120002 x124000 ((zaa x119000 x7).f0) ((zaa x119000 x7).f1) ([] : List Int)) else (none)) else (none))
def zal.l2 : Nat → Int → Int → Int → List (S38) → Int → Int → List Int → List (S38) → Int → Int → List Int → Option ((List (S38)))
 | 0, _, _, _, _, _, _, _, _, _, _, _ => none
 | k + 1, x5, x7, x9, x119000, x120000, x120001, x120002, x124000, x130000, x130001, x130002 => if 0 ≤ x7 then (if x7 < (x119000.length : Int) then (if x9 < (((zaa x119000 x7).f2).length : Int) then (if 0 ≤ x9 then (if (rd ((zaa x119000 x7).f2) x9) ≥ x5 then (if x130002.length < 17592186044416 then (zal.l2 k x5 x7 (wrap64 (x9 + 1)) x119000 x120000 x120001 x120002 x124000 x130000 x130001 (x130002 ++ [wrap64 ((rd ((zaa x119000 x7).f2) x9) + 1)])) else (none)) else (if x130002.length < 17592186044416 then (zal.l2 k x5 x7 (wrap64 (x9 + 1)) x119000 x120000 x120001 x120002 x124000 x130000 x130001 (x130002 ++ [rd ((zaa x119000 x7).f2) x9])) else (none))) else (none)) else (if x124000.length < 3518437208883 then (zal.l1 k x5 (wrap64 (x7 + 1)) x119000 x120000 x120001 x120002 (x124000 ++ [(⟨x130000, x130001, x130002⟩ : S38)])) else (none))) else (none)) else (none)
def zal.l0 : Nat → Int → List (S38) → Int → Int → List Int → Option ((List (S38)))
 | 0, _, _, _, _, _ => none
 | k + 1, x5, x119000, x120000, x120001, x120002 => if x5 < (x119000.length : Int) then (if 0 ≤ x5 then ((zbl.f ((zaa x119000 x5).f0) ((zaa x119000 x5).f1) ((zaa x119000 x5).f2) x120000 x120001 x120002).bind fun t122 => (if t122 = true then (zal.l0 k (wrap64 (x5 + 1)) x119000 x120000 x120001 x120002) else (zal.j1 k x5 x119000 x120000 x120001 x120002))) else (none)) else (zal.j1 k x5 x119000 x120000 x120001 x120002)
end
def zal.f (k : Nat) (l0_0 : List (S38)) (a1_0 : Int) (a1_1 : Int) (l1_2 : List Int) : Option ((List (S38))) := zal.l0 k 0 l0_0 a1_0 a1_1 l1_2
def zal.T2 : Bool × List (List Nat × List Nat) := (true, [([], []), ([], []), ([1], [1]), ([2], [2]), ([0, 3], [0, 3]), ([4], [4]), ([5], [5]), ([6, 5], [5, 6]), ([5], [5]), ([7, 8, 5], [5, 7, 8]), ([9, 5], [5, 9]), ([5], [5]), ([10, 11, 5, 5], [5, 10, 11]), ([5, 12], [5, 12])])
def zal.B2 : List Nat := [0, 0, 2, 6, 15, 31, 63, 127, 63, 511, 1023, 63, 4095, 8191]
theorem zal.tab2 : rtab .any (opsOf Try.f42 2) = zal.T2 := by kernel_rfl
theorem zal.bits2 : zc4 zal.T2.2 zal.B2 = true := by kernel_rfl
def zal.T11 : Bool × List (List Nat × List Nat) := (true, [([], []), ([0], [0]), ([], []), ([1, 2], [1, 2]), ([3], [3]), ([4], [4]), ([], []), ([6], [6]), ([], []), ([7, 8], [7, 8]), ([9], [9]), ([10], [10]), ([5, 11], [5, 11]), ([], []), ([13, 12, 0, 1, 2, 3, 4, 5, 6, 7, 8, 9, 10, 11, 12, 13], [12, 13])])
def zal.B11 : List Nat := [0, 1, 0, 7, 15, 31, 0, 64, 0, 448, 960, 1984, 4095, 0, 16383]
theorem zal.tab11 : rtab .any (opsOf Try.f42 11) = zal.T11 := by kernel_rfl
theorem zal.bits11 : zc4 zal.T11.2 zal.B11 = true := by kernel_rfl
theorem zal.calls (k : Nat) (A0_0 : Option Addr) (c0_0 : Nat) (l0_0 : List (S38)) (a1_0 : Int) (a1_1 : Int) (A1_2 : Option Addr) (c1_2 : Nat) (l1_2 : List Int) (r : List (S38)) (w : World) (hr0_0 : Kd.C k38 w A0_0 l0_0.length l0_0) (hc0_0 : l0_0.length ≤ c0_0) (hr1_2 : Kd.C (Kd.int .i64) w A1_2 l1_2.length l1_2) (hc1_2 : l1_2.length ≤ c1_2) (h : zal.f k l0_0 a1_0 a1_1 l1_2 = some r) :
  Calls Try.prog 42 #[.agg #[.slice A0_0 l0_0.length c0_0], .agg #[.int .i64 a1_0, .int .i64 a1_1, .slice A1_2 l1_2.length c1_2]] w fun e w' => ∃ v0_ : Value, e = .returned (.agg #[v0_]) ∧ Kd.R k38 38 w' w.heap.size (fun _ => True) v0_ r ∧ Below w.heap.size w w' := by
 have hu24 := Try.underlying24
 have hu38 := Try.underlying38
 have HR0_0 := zab.mk hr0_0;have HC0_0 := zab.mk hc0_0;clear hr0_0 hc0_0;have HR1_2 := zab.mk hr1_2;have HC1_2 := zab.mk hc1_2;clear hr1_2 hc1_2
 have HB := zab.mk (Below.refl w.heap.size w)
 have H : (zal.l0 k 0 l0_0 a1_0 a1_1 l1_2) = some r := h
 clear h;have HC3 := zab.mk H;clear H
 go_enter Try.func42, Try.ntmps42
 go_upto_block 0 with (first | ((with_reducible refine zbb (N := 2) rfl ?_); refine Ybx 2 #[.slice A0_0 l0_0.length c0_0] 24 ?_; intro gb118 hg w4 hbox hb; obtain ⟨BK118, GW118, GE118, HB⟩ := Yb4 hbox hg hb Ybe; clear hb hbox hg) | ((with_reducible refine zbb (N := 3) rfl ?_); refine Ybx 3 #[.int .i64 a1_0, .int .i64 a1_1, .slice A1_2 l1_2.length c1_2] 38 ?_; intro gb119 hg w5 hbox hb; obtain ⟨BK119, GW119, GE119, HB⟩ := Yb4 hbox hg hb Yb_PGssPushesx4_0; have NB118_119 := Ynl BK118 hg; have NB119_118 := Yng BK118 hg; replace BK118 := Ykb BK118 hb; clear hb hbox hg) | ((with_reducible refine zbb (N := 4) rfl ?_); refine Ybx 4 #[.slice none 0 0] 24 ?_; intro gb120 hg w6 hbox hb; obtain ⟨BK120, GW120, GE120, HB⟩ := Yb4 hbox hg hb Yb_PGssPushesx4_1; have NB118_120 := Ynl BK118 hg; have NB120_118 := Yng BK118 hg; replace BK118 := Ykb BK118 hb; have NB119_120 := Ynl BK119 hg; have NB120_119 := Yng BK119 hg; replace BK119 := Ykb BK119 hb; clear hb hbox hg))
 (try simp only [Act.put, Y1, Y2, Y3])
 go_cut [5] (fun v5 wc => ∃ (kq : Nat) (x5_2 : Int), v5 = .int .i64 x5_2 ∧ zab (zal.j1 kq x5_2 l0_0 a1_0 a1_1 l1_2 = some r) ∧ zab (kq ≤ k) ∧ zab (wc.heap[gb118]? = some (.cells #[(.slice A0_0 l0_0.length c0_0)] 24 (0, 0))) ∧ zab (wc.heap[gb119]? = some (.cells #[.int .i64 a1_0, .int .i64 a1_1, (.slice A1_2 l1_2.length c1_2)] 38 (0, 0))) ∧ zab (wc.heap[gb120]? = some (.cells #[(.slice none 0 0)] 24 (0, 0))) ∧ zab (Below w.heap.size w wc))
 case first =>
  have H := HC3.out;clear HC3
  have H' := zab.mk H
  clear H;go_wp2
  go_loopg [5] k (fun kq v5 w' => ∃ (x5_1 : Int), v5 = .int .i64 x5_1 ∧ zab (zal.l0 kq x5_1 l0_0 a1_0 a1_1 l1_2 = some r) ∧ zab (kq ≤ k) ∧ zab (w'.heap[gb118]? = some (.cells #[(.slice A0_0 l0_0.length c0_0)] 24 (0, 0))) ∧ zab (w'.heap[gb119]? = some (.cells #[.int .i64 a1_0, .int .i64 a1_1, (.slice A1_2 l1_2.length c1_2)] 38 (0, 0))) ∧ zab (w'.heap[gb120]? = some (.cells #[(.slice none 0 0)] 24 (0, 0))) ∧ zab (Below w.heap.size w w'))
  case atStart => exact ⟨(0), Yfs, H', ⟨Nat.le_refl _⟩, ⟨Yg BK118⟩, ⟨Yg BK119⟩, ⟨Yg BK120⟩, ⟨Yb_PGssPushesx4_2⟩⟩
  case round =>
   clear H'
   obtain ⟨x5_1, rfl, HA, HK1, BK118, BK119, BK120, HB⟩ := hrel
   cases gk with
   | zero => exact absurd HA.out (by simp [zal.l0])
   | succ k1 =>
    have H := HA.out;clear HA
    simp only [zal.l0] at H
    by_cases c7 : x5_1 < (l0_0.length : Int)
    ·rw [if_pos c7] at H
     have c7b0 := decide_eq_true c7
     clear c7
     (first | rw [c7b0] | (simp only [zcm, zcz]; rw [c7b0]) | skip)
     by_cases c8 : 0 ≤ x5_1
     ·rw [if_pos c8] at H
      have c8b0 := decide_eq_true c8
      clear c8;replace H := Option.bind_eq_some_iff.mp H
      obtain ⟨t122, A90, H⟩ := H
      replace H : (if t122 = true then (zal.l0 k1 (wrap64 (x5_1 + 1)) l0_0 a1_0 a1_1 l1_2) else (zal.j1 k1 x5_1 l0_0 a1_0 a1_1 l1_2)) = some r := H
      have A9 := zab.mk A90;clear A90
      by_cases c10 : t122 = true
      ·subst c10
       have H1 : (zal.l0 k1 (wrap64 (x5_1 + 1)) l0_0 a1_0 a1_1 l1_2) = some r := by rw [if_pos rfl] at H; exact H
       clear H;have H := H1;clear H1
       have H' := zab.mk H
       clear H
       try go_wp2
       replace BK118 := zab.mk (zac BK118.out)
       replace BK119 := zab.mk (zac BK119.out)
       replace BK120 := zab.mk (zac BK120.out)
       replace HB := zab.mk (zav HB.out)
       have p121 : 0 ≤ (x5_1 : Int) := Yod
       have q121 : x5_1 < (l0_0.length : Int) := Yod
       obtain ⟨ad121, A121_2, c121_2, e121, hx121_0, hx121_1, hx121_2, hl121_2, hi121_2⟩ := zbn HR0_0.out x5_1 p121 q121
       have hw121_2 := hx121_2;have hw121_1 := hx121_1;have hw121_0 := hx121_0
       cases e121
       replace hx121_0 := zai HB.out hx121_0
       replace hx121_1 := zai HB.out hx121_1
       replace hx121_2 := zai HB.out hx121_2
       have HR121_2 := zab.mk hi121_2;have HC121_2 := zab.mk hl121_2;clear hi121_2 hl121_2
       replace p121 := eq_true p121
       replace q121 := eq_true q121
       refine zbt (n := 14) (S := fun w' => w'.cell? ⟨gb118, 0, none⟩ = some (.slice (some ad121) l0_0.length c0_0) ∧ w'.cell? ⟨gb119, 0, none⟩ = some (.int .i64 a1_0) ∧ w'.cell? ⟨gb119, 1, none⟩ = some (.int .i64 a1_1) ∧ w'.cell? ⟨gb119, 2, none⟩ = some (.slice A1_2 l1_2.length c1_2) ∧ w'.cell? (ad121.add ((x5_1).toNat * 3)) = some (.int .i64 ((zaa l0_0 x5_1).f0)) ∧ w'.cell? ⟨(ad121.add ((x5_1).toNat * 3)).block, (ad121.add ((x5_1).toNat * 3)).off + 1, none⟩ = some (.int .i64 ((zaa l0_0 x5_1).f1)) ∧ w'.cell? ⟨(ad121.add ((x5_1).toNat * 3)).block, (ad121.add ((x5_1).toNat * 3)).off + 2, none⟩ = some (.slice A121_2 ((zaa l0_0 x5_1).f2).length c121_2)) (ds := []) (Ymk 14 0) (by kernel_rfl) rfl rfl ⟨(zaf BK118.out 0).trans rfl, (zaf BK119.out 0).trans rfl, (zaf BK119.out 1).trans rfl, (zaf BK119.out 2).trans rfl, ((HB.out.cell (World.block_lt_of_cell? w _ hw121_0)).trans hw121_0), ((HB.out.cell (World.block_lt_of_cell? w _ hw121_1)).trans hw121_1), ((HB.out.cell (World.block_lt_of_cell? w _ hw121_2)).trans hw121_2)⟩ (fun hHeld => ?_); refine zbo zal.tab2 zal.bits2 (fun HT_ HW_ => ?_)
       generalize wr.drew = w11 at BK118 BK119 BK120 HB HR121_2 hx121_0 hx121_1 hx121_2 hHeld ⊢
       refine Ypt 0 11 14 1 HT_ ?_
       refine Ypt 1 12 14 3 HT_ ?_
       refine Ytt 2 13 14 7 HT_ HW_ hHeld ?_
       refine Ypt 3 14 14 15 HT_ ?_
       refine Ypt 4 15 14 31 HT_ ?_
       refine Ypt 5 16 14 63 HT_ ?_
       refine Ypt 6 17 14 127 HT_ ?_
       refine Ypt 8 19 14 383 HT_ ?_
       refine Ytt 7 18 14 511 HT_ HW_ hHeld ?_
       refine Ypt 9 20 14 1023 HT_ ?_
       refine Ytt 10 21 14 2047 HT_ HW_ hHeld ?_
       refine Ytt 11 22 14 4095 HT_ HW_ hHeld ?_
       refine Yot 12 23 14 8191 HT_ (fun K hK => ?_)
       refine Ygs Try.func31 #[.agg #[.int .i64 ((zaa l0_0 x5_1).f0), .int .i64 ((zaa l0_0 x5_1).f1), .slice A121_2 ((zaa l0_0 x5_1).f2).length c121_2], .agg #[.int .i64 a1_0, .int .i64 a1_1, .slice A1_2 l1_2.length c1_2]] ?_
       with_reducible refine (zbl.calls ((zaa l0_0 x5_1).f0) ((zaa l0_0 x5_1).f1) _ _ ((zaa l0_0 x5_1).f2) a1_0 a1_1 _ _ l1_2 true _ ?side1 HC121_2.out (Kd.za4 HR1_2.out Ybe) HC1_2.out A9.out).mono ?_
       (case side1 => repeat (first | exact (Kd.za4 HR121_2.out HB.out) | exact HR121_2.out | (with_reducible refine Kd.C_alloc ?_ _) | (with_reducible refine Kd.C_drewN ?_ _) | (with_reducible refine Kd.C_drew ?_)))
       rintro e w12 ⟨rfl, hb⟩
       refine ⟨_, rfl, ?_⟩
       replace BK118 := Ykb BK118 hb
       replace BK119 := Ykb BK119 hb
       replace BK120 := Ykb BK120 hb
       replace HB := zab.mk (za1 Yb_PGssPushesx4_2 hb)
       (try clear hb)
       (try clear hb2)
       (try clear hk)
       (try clear hi)
       refine hK.out _ _ ⟨(zaf BK118.out 0).trans rfl, (zaf BK119.out 0).trans rfl, (zaf BK119.out 1).trans rfl, (zaf BK119.out 2).trans rfl, ((HB.out.cell (World.block_lt_of_cell? w _ hw121_0)).trans hw121_0), ((HB.out.cell (World.block_lt_of_cell? w _ hw121_1)).trans hw121_1), ((HB.out.cell (World.block_lt_of_cell? w _ hw121_2)).trans hw121_2)⟩ (fun hHeld => ?_)
       clear hK K
       refine Ynw 23 ?_
       refine Ypt 13 24 14 16383 HT_ ?_
       refine zby (zbv HT_.out (by kernel_rfl)) ?_
       try go_wp2
       go_roundg k1
       case measure => have := HK1.out; omega
       case rel => exact ⟨(wrap64 (x5_1 + 1)), Yfs, H', ⟨by have := HK1.out; omega⟩, ⟨Yg BK118⟩, ⟨Yg BK119⟩, ⟨Yg BK120⟩, ⟨Yb_PGssPushesx4_2⟩⟩
      ·replace c10 := Bool.eq_false_iff.mpr c10
       subst c10
       have H1 : (zal.j1 k1 x5_1 l0_0 a1_0 a1_1 l1_2) = some r := by rw [if_neg (show ¬ (false = true) by decide)] at H; exact H
       clear H;have H := H1;clear H1
       have H' := zab.mk H
       clear H
       try go_wp2
       replace BK118 := zab.mk (zac BK118.out)
       replace BK119 := zab.mk (zac BK119.out)
       replace BK120 := zab.mk (zac BK120.out)
       replace HB := zab.mk (zav HB.out)
       have p121 : 0 ≤ (x5_1 : Int) := Yod
       have q121 : x5_1 < (l0_0.length : Int) := Yod
       obtain ⟨ad121, A121_2, c121_2, e121, hx121_0, hx121_1, hx121_2, hl121_2, hi121_2⟩ := zbn HR0_0.out x5_1 p121 q121
       have hw121_2 := hx121_2;have hw121_1 := hx121_1;have hw121_0 := hx121_0
       cases e121
       replace hx121_0 := zai HB.out hx121_0
       replace hx121_1 := zai HB.out hx121_1
       replace hx121_2 := zai HB.out hx121_2
       have HR121_2 := zab.mk hi121_2;have HC121_2 := zab.mk hl121_2;clear hi121_2 hl121_2
       replace p121 := eq_true p121
       replace q121 := eq_true q121
       refine zbt (n := 14) (S := fun w' => w'.cell? ⟨gb118, 0, none⟩ = some (.slice (some ad121) l0_0.length c0_0) ∧ w'.cell? ⟨gb119, 0, none⟩ = some (.int .i64 a1_0) ∧ w'.cell? ⟨gb119, 1, none⟩ = some (.int .i64 a1_1) ∧ w'.cell? ⟨gb119, 2, none⟩ = some (.slice A1_2 l1_2.length c1_2) ∧ w'.cell? (ad121.add ((x5_1).toNat * 3)) = some (.int .i64 ((zaa l0_0 x5_1).f0)) ∧ w'.cell? ⟨(ad121.add ((x5_1).toNat * 3)).block, (ad121.add ((x5_1).toNat * 3)).off + 1, none⟩ = some (.int .i64 ((zaa l0_0 x5_1).f1)) ∧ w'.cell? ⟨(ad121.add ((x5_1).toNat * 3)).block, (ad121.add ((x5_1).toNat * 3)).off + 2, none⟩ = some (.slice A121_2 ((zaa l0_0 x5_1).f2).length c121_2)) (ds := []) (Ymk 14 0) (by kernel_rfl) rfl rfl ⟨(zaf BK118.out 0).trans rfl, (zaf BK119.out 0).trans rfl, (zaf BK119.out 1).trans rfl, (zaf BK119.out 2).trans rfl, ((HB.out.cell (World.block_lt_of_cell? w _ hw121_0)).trans hw121_0), ((HB.out.cell (World.block_lt_of_cell? w _ hw121_1)).trans hw121_1), ((HB.out.cell (World.block_lt_of_cell? w _ hw121_2)).trans hw121_2)⟩ (fun hHeld => ?_); refine zbo zal.tab2 zal.bits2 (fun HT_ HW_ => ?_)
       generalize wr.drew = w13 at BK118 BK119 BK120 HB HR121_2 hx121_0 hx121_1 hx121_2 hHeld ⊢
       refine Ypt 0 11 14 1 HT_ ?_
       refine Ypt 1 12 14 3 HT_ ?_
       refine Ytt 2 13 14 7 HT_ HW_ hHeld ?_
       refine Ypt 3 14 14 15 HT_ ?_
       refine Ypt 4 15 14 31 HT_ ?_
       refine Ypt 5 16 14 63 HT_ ?_
       refine Ypt 6 17 14 127 HT_ ?_
       refine Ypt 8 19 14 383 HT_ ?_
       refine Ytt 7 18 14 511 HT_ HW_ hHeld ?_
       refine Ypt 9 20 14 1023 HT_ ?_
       refine Ytt 10 21 14 2047 HT_ HW_ hHeld ?_
       refine Ytt 11 22 14 4095 HT_ HW_ hHeld ?_
       refine Yot 12 23 14 8191 HT_ (fun K hK => ?_)
       refine Ygs Try.func31 #[.agg #[.int .i64 ((zaa l0_0 x5_1).f0), .int .i64 ((zaa l0_0 x5_1).f1), .slice A121_2 ((zaa l0_0 x5_1).f2).length c121_2], .agg #[.int .i64 a1_0, .int .i64 a1_1, .slice A1_2 l1_2.length c1_2]] ?_
       with_reducible refine (zbl.calls ((zaa l0_0 x5_1).f0) ((zaa l0_0 x5_1).f1) _ _ ((zaa l0_0 x5_1).f2) a1_0 a1_1 _ _ l1_2 false _ ?side1 HC121_2.out (Kd.za4 HR1_2.out Ybe) HC1_2.out A9.out).mono ?_
       (case side1 => repeat (first | exact (Kd.za4 HR121_2.out HB.out) | exact HR121_2.out | (with_reducible refine Kd.C_alloc ?_ _) | (with_reducible refine Kd.C_drewN ?_ _) | (with_reducible refine Kd.C_drew ?_)))
       rintro e w14 ⟨rfl, hb⟩
       refine ⟨_, rfl, ?_⟩
       replace BK118 := Ykb BK118 hb
       replace BK119 := Ykb BK119 hb
       replace BK120 := Ykb BK120 hb
       replace HB := zab.mk (za1 Yb_PGssPushesx4_2 hb)
       (try clear hb)
       (try clear hb2)
       (try clear hk)
       (try clear hi)
       refine hK.out _ _ ⟨(zaf BK118.out 0).trans rfl, (zaf BK119.out 0).trans rfl, (zaf BK119.out 1).trans rfl, (zaf BK119.out 2).trans rfl, ((HB.out.cell (World.block_lt_of_cell? w _ hw121_0)).trans hw121_0), ((HB.out.cell (World.block_lt_of_cell? w _ hw121_1)).trans hw121_1), ((HB.out.cell (World.block_lt_of_cell? w _ hw121_2)).trans hw121_2)⟩ (fun hHeld => ?_)
       clear hK K
       refine Ynw 23 ?_
       refine Ypt 13 24 14 16383 HT_ ?_
       refine zby (zbv HT_.out (by kernel_rfl)) ?_
       try go_wp2
       (first | go_meet | (refine Met.intro ?_; go_step; (repeat apply Exists.intro); refine ⟨?rel, ?eq_⟩; (case eq_ => first | (rw [c8b0]; done) | (rw [c7b0]; done))))
       case rel => exact ⟨_, (x5_1), Yfs, H', ⟨by have := HK1.out; first | omega | exact Nat.le_refl _⟩, ⟨Yg BK118⟩, ⟨Yg BK119⟩, ⟨Yg BK120⟩, ⟨Yb_PGssPushesx4_2⟩⟩
     ·rw [if_neg c8] at H
      exact absurd H (by simp)
    ·rw [if_neg c7] at H
     have c7b0 := decide_eq_false c7
     clear c7
     (first | rw [c7b0] | (simp only [zcm, zcz]; rw [c7b0]) | skip)
     have H' := zab.mk H
     clear H
     try go_wp2
     replace BK118 := zab.mk (zac BK118.out)
     replace BK119 := zab.mk (zac BK119.out)
     replace BK120 := zab.mk (zac BK120.out)
     replace HB := zab.mk (zav HB.out)
     refine zbt (n := 14) (S := fun w' => w'.cell? ⟨gb118, 0, none⟩ = some (.slice A0_0 l0_0.length c0_0)) (ds := []) (Ymk 14 0) (by kernel_rfl) rfl rfl ((zaf BK118.out 0).trans rfl) (fun hHeld => ?_); refine zbo zal.tab2 zal.bits2 (fun HT_ HW_ => ?_)
     generalize wr.drew = w15 at BK118 BK119 BK120 HB hHeld ⊢
     refine Ypt 0 11 14 1 HT_ ?_
     refine Ypt 1 12 14 3 HT_ ?_
     refine take_ (i := 2) (N := some 13) (v := ?_) (a' := ?_) (Ymk 14 7) rfl rfl (zh7 HT_.out HW_.out (by kernel_rfl)) (fun _ _ _ h => h) (Or.inl ⟨by rfl, ?_⟩) hHeld ?_ ?_
     rotate_left
     ·intro w' s0
      go_simp
      with_reducible rfl
     rotate_left; · simp only [Act.put, Y1, Y2, Y3, zcm, zcz]; rfl
     refine Ypt 3 14 14 15 HT_ ?_
     refine Ypt 4 15 14 31 HT_ ?_
     refine Ypt 5 16 14 63 HT_ ?_
     refine Ypu 6 17 14 127 HT_ ?_
     refine Ypu 7 18 14 255 HT_ ?_
     refine Ypu 8 19 14 511 HT_ ?_
     refine Ypu 9 20 14 1023 HT_ ?_
     refine Ypu 10 21 14 2047 HT_ ?_
     refine Ypu 11 22 14 4095 HT_ ?_
     refine Ypu 12 23 14 8191 HT_ ?_
     refine Ypt 13 24 14 16383 HT_ ?_
     refine zby (zbv HT_.out (by kernel_rfl)) ?_
     try go_wp2
     (first | go_meet | (refine Met.intro ?_; go_step; (repeat apply Exists.intro); refine ⟨?rel, ?eq_⟩; (case eq_ => first | (rw [c7b0]; done))))
     case rel => exact ⟨_, (x5_1), Yfs, H', ⟨by have := HK1.out; first | omega | exact Nat.le_refl _⟩, ⟨Yg BK118⟩, ⟨Yg BK119⟩, ⟨Yg BK120⟩, ⟨Yb_PGssPushesx4_2⟩⟩
 case rest =>
  clear HC3
  obtain ⟨kq, x5_2, rfl, HA, HJ2, BK118, BK119, BK120, HB⟩ := hcut
  cases kq with
  | zero => exact absurd HA.out (by simp [zal.j1])
  | succ kj2 =>
   have H := HA.out;clear HA
   simp only [zal.j1] at H
   have H' := zab.mk H
   clear H
   go_wp2_with (first | ((with_reducible refine zbb (N := 6) rfl ?_); refine Ybx 6 #[.slice none 0 0] 24 ?_; intro gb123 hg w16 hbox hb; obtain ⟨BK123, GW123, GE123, HB⟩ := Yb4 hbox hg hb Yb_PGssPushesx4_2; have NB118_123 := Ynl BK118 hg; have NB123_118 := Yng BK118 hg; replace BK118 := Ykb BK118 hb; have NB119_123 := Ynl BK119 hg; have NB123_119 := Yng BK119 hg; replace BK119 := Ykb BK119 hb; have NB120_123 := Ynl BK120 hg; have NB123_120 := Yng BK120 hg; replace BK120 := Ykb BK120 hb; clear hb hbox hg; have hnb17 := NB123_118.out; have hnc17 := NB118_123.out; have hnb18 := NB123_119.out; have hnc18 := NB119_123.out; have hnb19 := NB123_120.out; have hnc19 := NB120_123.out; obtain ⟨hcz20_0, hfz20_0⟩ := Yc1 BK123.out))
   go_loopg [7] kj2 (fun kq v7 w' => ∃ (x7_2 : Int) (x124000_2 : List (S38)) (u124000 : Value), v7 = .int .i64 x7_2 ∧ zab (zal.l1 kq x5_2 x7_2 l0_0 a1_0 a1_1 l1_2 x124000_2 = some r) ∧ zab (kq ≤ kj2) ∧ zab (Kd.R k38 38 w' w.heap.size (fun k_ => k_ ≠ gb119) u124000 x124000_2) ∧ zab (w'.heap[gb118]? = some (.cells #[(.slice A0_0 l0_0.length c0_0)] 24 (0, 0))) ∧ zab (w'.heap[gb119]? = some (.cells #[.int .i64 a1_0, .int .i64 a1_1, (.slice A1_2 l1_2.length c1_2)] 38 (0, 0))) ∧ zab (w'.heap[gb120]? = some (.cells #[(.slice none 0 0)] 24 (0, 0))) ∧ zab (w'.heap[gb123]? = some (.cells #[u124000] 24 (0, 0))) ∧ zab (Below w.heap.size w w'))
   case atStart => exact ⟨(0), (([] : List (S38))), (.slice none 0 0), Yfs, H', ⟨Nat.le_refl _⟩, ⟨by first | exact Kd.zef _ _ _ _ _ | exact Kd.N_nil _ _ _ _ _ | exact Kd.V_nil _ _ _ _ _ | exact Kd.Q_nil _ _ _ _ _ | exact Kd.S_nil _ _ _ _ _⟩, ⟨by (with_reducible repeat (first | refine zae ?_ _ | refine zac ?_ | refine zad ?_ _)); refine zaj ?_ NB118_123.out _; (with_reducible repeat (first | refine zae ?_ _ | refine zac ?_ | refine zad ?_ _)); exact BK118.out⟩, ⟨by (with_reducible repeat (first | refine zae ?_ _ | refine zac ?_ | refine zad ?_ _)); refine zaj ?_ NB119_123.out _; (with_reducible repeat (first | refine zae ?_ _ | refine zac ?_ | refine zad ?_ _)); exact BK119.out⟩, ⟨by (with_reducible repeat (first | refine zae ?_ _ | refine zac ?_ | refine zad ?_ _)); refine zaj ?_ NB120_123.out _; (with_reducible repeat (first | refine zae ?_ _ | refine zac ?_ | refine zad ?_ _)); exact BK120.out⟩, ⟨by (with_reducible repeat (first | refine zae ?_ _ | refine zac ?_ | refine zad ?_ _)); refine zas (cs := #[.slice none 0 0]) ?_ 0 _ rfl; (with_reducible repeat (first | refine zae ?_ _ | refine zac ?_ | refine zad ?_ _)); exact BK123.out⟩, ⟨Yb_PGssPushesx4_3⟩⟩
   case round =>
    clear H'
    obtain ⟨x7_2, x124000_2, u124000, rfl, HA, HK2, HO_124000, BK118, BK119, BK120, BK123, HB⟩ := hrel
    cases gk with
    | zero => exact absurd HA.out (by simp [zal.l1])
    | succ k2 =>
     have H := HA.out;clear HA
     simp only [zal.l1] at H
     by_cases c21 : x7_2 ≤ (l0_0.length : Int)
     ·rw [if_pos c21] at H
      have c21b0 := decide_eq_true c21
      clear c21;have HC22 := zab.mk H;clear H
      have hnb23 := NB118_119.out
      have hnc23 := NB119_118.out
      have hnb24 := NB118_120.out
      have hnc24 := NB120_118.out
      have hnb25 := NB118_123.out
      have hnc25 := NB123_118.out
      obtain ⟨hcz26_0, hfz26_0⟩ := Yc1 BK118.out
      go_upto_if 37 with (fail)
      go_cut [] (fun wc => ∃ (kq : Nat) (x124000_21 : List (S38)) (u124000 : Value), zab (zal.j3 kq x5_2 x7_2 l0_0 a1_0 a1_1 l1_2 x124000_21 = some r) ∧ zab (kq ≤ k2) ∧ zab (Kd.R k38 38 wc w.heap.size (fun k_ => k_ ≠ gb119) u124000 x124000_21) ∧ zab (wc.heap[gb118]? = some (.cells #[(.slice A0_0 l0_0.length c0_0)] 24 (0, 0))) ∧ zab (wc.heap[gb119]? = some (.cells #[.int .i64 a1_0, .int .i64 a1_1, (.slice A1_2 l1_2.length c1_2)] 38 (0, 0))) ∧ zab (wc.heap[gb120]? = some (.cells #[(.slice none 0 0)] 24 (0, 0))) ∧ zab (wc.heap[gb123]? = some (.cells #[u124000] 24 (0, 0))) ∧ zab (Below w.heap.size w wc))
      case first =>
       have H := HC22.out;clear HC22
       by_cases c27 : x7_2 = x5_2
       ·rw [if_pos c27] at H
        have c27b0 : (x7_2 == x5_2) = true := beq_iff_eq.mpr c27
        have c27b1 : (x7_2 != x5_2) = false := bne_eq_false_iff_eq.mpr c27
        clear c27
        (first | rw [c27b0] | (simp only [zcm, zcz]; rw [c27b0]) | skip)
        by_cases c28 : x124000_2.length < 3518437208883
        ·rw [if_pos c28] at H
         have LMc28 := zab.mk c28;clear c28
         obtain ⟨y124, hy124⟩ : ∃ y_ : List (S38), y_ = (x124000_2 ++ [(⟨a1_0, a1_1, ([] : List Int)⟩ : S38)]) := ⟨_, rfl⟩
         replace H : (zal.j3 k2 x5_2 x7_2 l0_0 a1_0 a1_1 l1_2 y124) = some r := by first | (rw [hy124]; with_reducible exact H) | (have H2_ := (Option.bind_some _ _).symm.trans H; rw [hy124]; with_reducible exact H2_) | (have H2_ := (Option.bind_some _ _).symm.trans H; with_reducible exact H2_) | with_reducible exact H | (rw [hy124]; exact H) | exact H
         have Ny124 := zab.mk hy124;clear hy124
         have H' := zab.mk H
         clear H
         have hnb29 := NB123_118.out
         have hnc29 := NB118_123.out
         have hnb30 := NB123_119.out
         have hnc30 := NB119_123.out
         have hnb31 := NB123_120.out
         have hnc31 := NB120_123.out
         obtain ⟨hcz32_0, hfz32_0⟩ := Yc1 BK123.out
         have hnb33 := NB119_118.out
         have hnc33 := NB118_119.out
         have hnb34 := NB119_120.out
         have hnc34 := NB120_119.out
         obtain ⟨hcz35_0, hfz35_0, hcz35_1, hfz35_1, hcz35_2, hfz35_2⟩ := Yc3 BK119.out
         go_wp2_with (first | ((with_reducible refine zca (b := .append) (xs := #[.tmp 39, .tmp 45]) rfl ?_); at_builtin; refine Kd.zeg k38 (w0 := w) w.heap.size rfl (.tmp 39) (.tmp 45) 22 38 (.agg #[(.int .i64 0), (.int .i64 0), (.slice none 0 0)]) 40 rfl Try.underlying22 info38 rfl (by decide) (by omega) u124000 x124000_2 (⟨a1_0, a1_1, ([] : List Int)⟩ : S38) [.int .i64 a1_0, .int .i64 a1_1, .slice none 0 0] (fun k_ => k_ ≠ gb119) (fun k_ => ((fun k_ => k_ ≠ gb119)) k_ ∧ some k_ ≠ (u124000 : Value).ownBlock) rfl rfl ?aP (fun _ hk => hk) ?aF ?aO ?aB ?aS ?aL ?_; (case aP => exact zhi _ _ _ (⟨a1_0, a1_1, ([] : List Int)⟩ : S38) (Kd.zef _ _ _ _ _)); (case aB => exact Yb_PGssPushesx4_3); (case aF => exact (fun k_ hk => Kd.zbh (g := gb119) (o := .cells #[.int .i64 a1_0, .int .i64 a1_1, .slice A1_2 l1_2.length c1_2] 38 (0, 0)) (Yg BK119) k_ hk)); (case aO => exact (Yr HO_124000)); (case aS => exact (za7 Yb_PGssPushesx4_3)); (case aL => have := LMc28.out; omega); intro v125 w36 ho hb hg hat; rw [← Ny124.out] at ho; replace BK118 := zab.mk (zbm (g := gb118) (o := .cells #[.slice A0_0 l0_0.length c0_0] 24 (0, 0)) (Yg BK118) hg (Kd.R_ne HO_124000.out BK118.out (by decide))); replace BK119 := zab.mk (zbm (g := gb119) (o := .cells #[.int .i64 a1_0, .int .i64 a1_1, .slice A1_2 l1_2.length c1_2] 38 (0, 0)) (Yg BK119) hg (Kd.R_away HO_124000.out (fun _ hk => hk))); replace BK120 := zab.mk (zbm (g := gb120) (o := .cells #[.slice none 0 0] 24 (0, 0)) (Yg BK120) hg (Kd.R_ne HO_124000.out BK120.out (by decide))); replace BK123 := zab.mk (zbm (g := gb123) (o := .cells #[u124000] 24 (0, 0)) (Yg BK123) hg (Kd.R_ne HO_124000.out BK123.out (by decide))); replace HB := zab.mk (hb); have HO126 := zab.mk (ho); clear HO_124000; clear ho hb hg hat; obtain ⟨Ao37, co37, eo37⟩ := Kd.zcf HO126.out; subst eo37; obtain ⟨hcz38_0, hfz38_0⟩ := Yc1 BK123.out))
         (first | go_meet | (refine Met.intro ?_; go_step; (repeat apply Exists.intro); refine ⟨?rel, ?eq_⟩; (case eq_ => first | (rw [c21b0]; done))))
         case rel => exact ⟨_, (y124), (.slice Ao37 y124.length co37), H', ⟨by have := HJ2.out; have := HK2.out; first | omega | exact Nat.le_refl _⟩, ⟨by (with_reducible repeat (first | apply Kd.zc1 | apply Kd.R_drewN | apply Kd.zdj)); exact Kd.zbw (Kd.zeb (p := ⟨gb123, 0, none⟩) (Kd.zdn HO126.out BK123.out (by decide)) (fun _ hk => hk.2) (.slice Ao37 y124.length co37)) (fun _ hk => hk.1)⟩, ⟨by (with_reducible repeat (first | refine zae ?_ _ | refine zac ?_ | refine zad ?_ _)); refine zaj ?_ NB118_123.out _; (with_reducible repeat (first | refine zae ?_ _ | refine zac ?_ | refine zad ?_ _)); exact BK118.out⟩, ⟨by (with_reducible repeat (first | refine zae ?_ _ | refine zac ?_ | refine zad ?_ _)); refine zaj ?_ NB119_123.out _; (with_reducible repeat (first | refine zae ?_ _ | refine zac ?_ | refine zad ?_ _)); exact BK119.out⟩, ⟨by (with_reducible repeat (first | refine zae ?_ _ | refine zac ?_ | refine zad ?_ _)); refine zaj ?_ NB120_123.out _; (with_reducible repeat (first | refine zae ?_ _ | refine zac ?_ | refine zad ?_ _)); exact BK120.out⟩, ⟨by (with_reducible repeat (first | refine zae ?_ _ | refine zac ?_ | refine zad ?_ _)); refine zas (cs := #[u124000]) ?_ 0 _ rfl; (with_reducible repeat (first | refine zae ?_ _ | refine zac ?_ | refine zad ?_ _)); exact BK123.out⟩, ⟨Yb_PGssPushesx4_3⟩⟩
        ·rw [if_neg c28] at H
         exact absurd H (by simp)
       ·rw [if_neg c27] at H
        have c27b0 : (x7_2 == x5_2) = false := beq_eq_false_iff_ne.mpr c27
        have c27b1 : (x7_2 != x5_2) = true := bne_iff_ne.mpr c27
        (first | rw [c27b0] | (simp only [zcm, zcz]; rw [c27b0]) | skip)
        have H' := zab.mk H
        clear H;go_wp2
        (first | go_meet | (refine Met.intro ?_; go_step; (repeat apply Exists.intro); refine ⟨?rel, ?eq_⟩; (case eq_ => first | (rw [c21b0]; done))))
        case rel => exact ⟨_, (x124000_2), (u124000), H', ⟨by have := HJ2.out; have := HK2.out; first | omega | exact Nat.le_refl _⟩, ⟨Yr HO_124000⟩, ⟨Yg BK118⟩, ⟨Yg BK119⟩, ⟨Yg BK120⟩, ⟨Yg BK123⟩, ⟨Yb_PGssPushesx4_3⟩⟩
      case rest =>
       clear HC22
       obtain ⟨kq, x124000_21, u124000, HA, HJ21, HO_124000, BK118, BK119, BK120, BK123, HB⟩ := hcut
       cases kq with
       | zero => exact absurd HA.out (by simp [zal.j3])
       | succ kj21 =>
        have H := HA.out;clear HA
        simp only [zal.j3] at H
        by_cases c39 : x7_2 = (l0_0.length : Int)
        ·rw [if_pos c39] at H
         have c39b0 : (x7_2 == (l0_0.length : Int)) = true := beq_iff_eq.mpr c39
         have c39b1 : (x7_2 != (l0_0.length : Int)) = false := bne_eq_false_iff_eq.mpr c39
         clear c39;obtain rfl := Option.some.inj H
         have hnb40 := NB118_119.out
         have hnc40 := NB119_118.out
         have hnb41 := NB118_120.out
         have hnc41 := NB120_118.out
         have hnb42 := NB118_123.out
         have hnc42 := NB123_118.out
         obtain ⟨hcz43_0, hfz43_0⟩ := Yc1 BK118.out
         have hnb44 := NB123_119.out
         have hnc44 := NB119_123.out
         have hnb45 := NB123_120.out
         have hnc45 := NB120_123.out
         obtain ⟨hcz46_0, hfz46_0⟩ := Yc1 BK123.out
         obtain ⟨Ao47, co47, eo47⟩ := Kd.zcf HO_124000.out
         subst eo47
         have hnb48 := NB120_119.out
         have hnc48 := NB119_120.out
         obtain ⟨hcz49_0, hfz49_0⟩ := Yc1 BK120.out
         go_wp2
         refine bodyPost_ret (results_cell_row rfl _ _ gb120 24 #[.slice Ao47 x124000_21.length co47] (0, 0) _ rfl (by (with_reducible repeat (first | refine zae ?_ _ | refine zac ?_ | refine zad ?_ _)); refine zas (cs := #[.slice none 0 0]) ?_ 0 _ rfl; (with_reducible repeat (first | refine zae ?_ _ | refine zac ?_ | refine zad ?_ _)); exact BK120.out) Try.underlying24 rfl (by kernel_rfl)) rfl ?_
         exact ⟨_, by first | rfl | (simp [errW_none, errW_some] <;> rfl) | (simp [*, errW_none, errW_some] <;> rfl), by (with_reducible repeat (first | apply Kd.zc1 | apply Kd.R_drewN | apply Kd.zdj)); exact Kd.zbw (Kd.zeb (p := ⟨gb120, 0, none⟩) (Kd.zdn HO_124000.out BK120.out (by decide)) (fun _ hk => hk.2) (.slice Ao47 x124000_21.length co47)) (fun _ hk => trivial), Yb_PGssPushesx4_3⟩
        ·rw [if_neg c39] at H
         have c39b0 : (x7_2 == (l0_0.length : Int)) = false := beq_eq_false_iff_ne.mpr c39
         have c39b1 : (x7_2 != (l0_0.length : Int)) = true := bne_iff_ne.mpr c39
         by_cases c50 : 0 ≤ x7_2
         ·rw [if_pos c50] at H
          have c50b0 := decide_eq_true c50
          clear c50
          by_cases c51 : x7_2 < (l0_0.length : Int)
          ·rw [if_pos c51] at H
           have c51b0 := decide_eq_true c51
           clear c51
           have H' := zab.mk H
           clear H
           have hnb52 := NB118_119.out
           have hnc52 := NB119_118.out
           have hnb53 := NB118_120.out
           have hnc53 := NB120_118.out
           have hnb54 := NB118_123.out
           have hnc54 := NB123_118.out
           obtain ⟨hcz55_0, hfz55_0⟩ := Yc1 BK118.out
           try go_wp2
           replace HO_124000 := zab.mk (Kd.zdj HO_124000.out)
           replace BK118 := zab.mk (zac BK118.out)
           replace BK119 := zab.mk (zac BK119.out)
           replace BK120 := zab.mk (zac BK120.out)
           replace BK123 := zab.mk (zac BK123.out)
           replace HB := zab.mk (zav HB.out)
           have p127 : 0 ≤ (x7_2 : Int) := Yod
           have q127 : x7_2 < (l0_0.length : Int) := Yod
           obtain ⟨ad127, A127_2, c127_2, e127, hx127_0, hx127_1, hx127_2, hl127_2, hi127_2⟩ := zbn HR0_0.out x7_2 p127 q127
           have hw127_2 := hx127_2;have hw127_1 := hx127_1;have hw127_0 := hx127_0
           cases e127
           replace hx127_0 := zai HB.out hx127_0
           replace hx127_1 := zai HB.out hx127_1
           replace hx127_2 := zai HB.out hx127_2
           have HR127_2 := zab.mk hi127_2;have HC127_2 := zab.mk hl127_2;clear hi127_2 hl127_2
           replace p127 := eq_true p127
           replace q127 := eq_true q127
           have p128 : 0 ≤ (x7_2 : Int) := Yod
           have q128 : x7_2 < (l0_0.length : Int) := Yod
           obtain ⟨ad128, A128_2, c128_2, e128, hx128_0, hx128_1, hx128_2, hl128_2, hi128_2⟩ := zbn HR0_0.out x7_2 p128 q128
           have hw128_2 := hx128_2;have hw128_1 := hx128_1;have hw128_0 := hx128_0
           obtain rfl : ad127 = ad128 := (by injection e128)
           replace hx128_0 := zai HB.out hx128_0
           replace hx128_1 := zai HB.out hx128_1
           replace hx128_2 := zai HB.out hx128_2
           have HR128_2 := zab.mk hi128_2;have HC128_2 := zab.mk hl128_2;clear hi128_2 hl128_2
           replace p128 := eq_true p128
           replace q128 := eq_true q128
           have ea_ := Option.some.inj (hx127_2.symm.trans hx128_2)
           injection ea_ with ea_ en_ ec_
           subst ea_;subst ec_;clear en_
           refine zbt (n := 15) (S := fun w' => w'.cell? ⟨gb118, 0, none⟩ = some (.slice (some ad127) l0_0.length c0_0) ∧ w'.cell? (ad127.add ((x7_2).toNat * 3)) = some (.int .i64 ((zaa l0_0 x7_2).f0)) ∧ w'.cell? ⟨(ad127.add ((x7_2).toNat * 3)).block, (ad127.add ((x7_2).toNat * 3)).off + 1, none⟩ = some (.int .i64 ((zaa l0_0 x7_2).f1)) ∧ w'.cell? ⟨(ad127.add ((x7_2).toNat * 3)).block, (ad127.add ((x7_2).toNat * 3)).off + 2, none⟩ = some (.slice A127_2 ((zaa l0_0 x7_2).f2).length c127_2) ∧ w'.cell? (ad127.add ((x7_2).toNat * 3)) = some (.int .i64 ((zaa l0_0 x7_2).f0)) ∧ w'.cell? ⟨(ad127.add ((x7_2).toNat * 3)).block, (ad127.add ((x7_2).toNat * 3)).off + 1, none⟩ = some (.int .i64 ((zaa l0_0 x7_2).f1)) ∧ w'.cell? ⟨(ad127.add ((x7_2).toNat * 3)).block, (ad127.add ((x7_2).toNat * 3)).off + 2, none⟩ = some (.slice A127_2 ((zaa l0_0 x7_2).f2).length c127_2)) (ds := []) (Ymk 15 0) (by kernel_rfl) rfl rfl ⟨(zaf BK118.out 0).trans rfl, ((HB.out.cell (World.block_lt_of_cell? w _ hw127_0)).trans hw127_0), ((HB.out.cell (World.block_lt_of_cell? w _ hw127_1)).trans hw127_1), ((HB.out.cell (World.block_lt_of_cell? w _ hw127_2)).trans hw127_2), ((HB.out.cell (World.block_lt_of_cell? w _ hw128_0)).trans hw128_0), ((HB.out.cell (World.block_lt_of_cell? w _ hw128_1)).trans hw128_1), ((HB.out.cell (World.block_lt_of_cell? w _ hw128_2)).trans hw128_2)⟩ (fun hHeld => ?_); refine zbo zal.tab11 zal.bits11 (fun HT_ HW_ => ?_)
           generalize wc.drew = w56 at HO_124000 BK118 BK119 BK120 BK123 HB HR127_2 HR128_2 hx127_0 hx127_1 hx127_2 hx128_0 hx128_1 hx128_2 hHeld ⊢
           refine Ypt 0 53 15 1 HT_ ?_
           refine Ypt 2 55 15 5 HT_ ?_
           refine Ypt 6 59 15 69 HT_ ?_
           refine Ypt 8 61 15 325 HT_ ?_
           refine Ytt 1 54 15 327 HT_ HW_ hHeld ?_
           refine Ypt 3 56 15 335 HT_ ?_
           refine Ypt 4 57 15 351 HT_ ?_
           refine Ytt 5 58 15 383 HT_ HW_ hHeld ?_
           refine Ytt 7 60 15 511 HT_ HW_ hHeld ?_
           refine Ypt 9 62 15 1023 HT_ ?_
           refine Ypt 10 63 15 2047 HT_ ?_
           refine Ytt 11 64 15 4095 HT_ HW_ hHeld ?_
           refine Ypt 12 65 15 8191 HT_ ?_
           refine Yot 13 8 15 16383 HT_ (fun K hK => ?_)
           refine zfk ?hg (N := 8) ?hd (cs := #[.int .i64 0, .int .i64 0, .slice none 0 0]) (t := 38) ?hr ?_; (case hd => rfl); (case hg => rfl); (case hr => first | (go_simp; done) | (go_simp; rfl))
           intro gb129 hg w57 hbox hb
           replace HO_124000 := zab.mk (Kd.zdd (Kd.R_elderB (Yr HO_124000) gb129 (Nat.le_of_eq hg.symm)) hb)
           have BK129 := zab.mk (hbox)
           have GW129 := Ygw hg Yb_PGssPushesx4_3
           have GE129 := Ygw hg Yb_PGssPushesx4_3
           replace HB := zab.mk (za1 Yb_PGssPushesx4_3 hb)
           have NB118_129 := Ynl BK118 hg
           have NB129_118 := Yng BK118 hg
           replace BK118 := Ykb BK118 hb
           have NB119_129 := Ynl BK119 hg
           have NB129_119 := Yng BK119 hg
           replace BK119 := Ykb BK119 hb
           have NB120_129 := Ynl BK120 hg
           have NB129_120 := Yng BK120 hg
           replace BK120 := Ykb BK120 hb
           have NB123_129 := Ynl BK123 hg
           have NB129_123 := Yng BK123 hg
           replace BK123 := Ykb BK123 hb
           clear hb hbox hg
           refine hK.out _ _ ⟨(zaf BK118.out 0).trans rfl, ((HB.out.cell (World.block_lt_of_cell? w _ hw127_0)).trans hw127_0), ((HB.out.cell (World.block_lt_of_cell? w _ hw127_1)).trans hw127_1), ((HB.out.cell (World.block_lt_of_cell? w _ hw127_2)).trans hw127_2), ((HB.out.cell (World.block_lt_of_cell? w _ hw128_0)).trans hw128_0), ((HB.out.cell (World.block_lt_of_cell? w _ hw128_1)).trans hw128_1), ((HB.out.cell (World.block_lt_of_cell? w _ hw128_2)).trans hw128_2)⟩ (fun hHeld => ?_)
           clear hK K
           refine Ynw 8 ?_
           refine one_ (i := 14) (N := none) (Ymk 15 32767) rfl rfl (zf9 HT_.out (by kernel_rfl)) (by decide) (fun K hK => ?_)
           have hs58 : w57.cell? ⟨gb129, 0, none⟩ = some (.int .i64 0) := (zaf BK129.out 0).trans rfl
           have hfs58 := zbr BK129.out 0
           have hns58_0 := NB118_129.out
           have hns58_1 := NB119_129.out
           have hns58_2 := NB120_129.out
           have hns58_3 := NB123_129.out
           have hms58_0 := NB129_118.out
           have hms58_1 := NB129_119.out
           have hms58_2 := NB129_120.out
           have hms58_3 := NB129_123.out
           have hs59 : w57.cell? ⟨gb129, 1, none⟩ = some (.int .i64 0) := (zaf BK129.out 1).trans rfl
           have hfs59 := zbr BK129.out 1
           have hns59_0 := NB118_129.out
           have hns59_1 := NB119_129.out
           have hns59_2 := NB120_129.out
           have hns59_3 := NB123_129.out
           have hms59_0 := NB129_118.out
           have hms59_1 := NB129_119.out
           have hms59_2 := NB129_120.out
           have hms59_3 := NB129_123.out
           have hs60 : w57.cell? ⟨gb129, 2, none⟩ = some (.slice none 0 0) := (zaf BK129.out 2).trans rfl
           have hfs60 := zbr BK129.out 2
           have hns60_0 := NB118_129.out
           have hns60_1 := NB119_129.out
           have hns60_2 := NB120_129.out
           have hns60_3 := NB123_129.out
           have hms60_0 := NB129_118.out
           have hms60_1 := NB129_119.out
           have hms60_2 := NB129_120.out
           have hms60_3 := NB129_123.out
           refine zfb (w1 := ?_) (by rfl) rfl ?_ ?_
           rotate_left
           ·go_simp
            rfl
           refine hK.out _ _ ⟨((cell_far (p := ⟨gb129, _, none⟩) NB118_129.out _).trans (((cell_far (p := ⟨gb129, _, none⟩) NB118_129.out _).trans (((cell_far (p := ⟨gb129, _, none⟩) NB118_129.out _).trans (hHeld.1)))))), ((cell_far (p := ⟨gb129, _, none⟩) (by first | exact Nat.ne_of_lt (Nat.lt_of_lt_of_le (by have := World.block_lt_of_cell? _ _ hw127_0; first | rwa [add_block] at this | exact this) GW129.out) | (rw [add_block]; exact Nat.ne_of_lt (Nat.lt_of_lt_of_le (by have := World.block_lt_of_cell? _ _ hw127_0; first | rwa [add_block] at this | exact this) GW129.out)) | (show (Addr.add _ _).block ≠ _; rw [add_block]; exact Nat.ne_of_lt (Nat.lt_of_lt_of_le (by have := World.block_lt_of_cell? _ _ hw127_0; first | rwa [add_block] at this | exact this) GW129.out)) | (dsimp only; exact Nat.ne_of_lt (Nat.lt_of_lt_of_le (by have := World.block_lt_of_cell? _ _ hw127_0; first | rwa [add_block] at this | exact this) GW129.out))) _).trans (((cell_far (p := ⟨gb129, _, none⟩) (by first | exact Nat.ne_of_lt (Nat.lt_of_lt_of_le (by have := World.block_lt_of_cell? _ _ hw127_0; first | rwa [add_block] at this | exact this) GW129.out) | (rw [add_block]; exact Nat.ne_of_lt (Nat.lt_of_lt_of_le (by have := World.block_lt_of_cell? _ _ hw127_0; first | rwa [add_block] at this | exact this) GW129.out)) | (show (Addr.add _ _).block ≠ _; rw [add_block]; exact Nat.ne_of_lt (Nat.lt_of_lt_of_le (by have := World.block_lt_of_cell? _ _ hw127_0; first | rwa [add_block] at this | exact this) GW129.out)) | (dsimp only; exact Nat.ne_of_lt (Nat.lt_of_lt_of_le (by have := World.block_lt_of_cell? _ _ hw127_0; first | rwa [add_block] at this | exact this) GW129.out))) _).trans (((cell_far (p := ⟨gb129, _, none⟩) (by first | exact Nat.ne_of_lt (Nat.lt_of_lt_of_le (by have := World.block_lt_of_cell? _ _ hw127_0; first | rwa [add_block] at this | exact this) GW129.out) | (rw [add_block]; exact Nat.ne_of_lt (Nat.lt_of_lt_of_le (by have := World.block_lt_of_cell? _ _ hw127_0; first | rwa [add_block] at this | exact this) GW129.out)) | (show (Addr.add _ _).block ≠ _; rw [add_block]; exact Nat.ne_of_lt (Nat.lt_of_lt_of_le (by have := World.block_lt_of_cell? _ _ hw127_0; first | rwa [add_block] at this | exact this) GW129.out)) | (dsimp only; exact Nat.ne_of_lt (Nat.lt_of_lt_of_le (by have := World.block_lt_of_cell? _ _ hw127_0; first | rwa [add_block] at this | exact this) GW129.out))) _).trans (hHeld.2.1)))))), ((cell_far (p := ⟨gb129, _, none⟩) (by first | exact Nat.ne_of_lt (Nat.lt_of_lt_of_le (by have := World.block_lt_of_cell? _ _ hw127_1; first | rwa [add_block] at this | exact this) GW129.out) | (rw [add_block]; exact Nat.ne_of_lt (Nat.lt_of_lt_of_le (by have := World.block_lt_of_cell? _ _ hw127_1; first | rwa [add_block] at this | exact this) GW129.out)) | (show (Addr.add _ _).block ≠ _; rw [add_block]; exact Nat.ne_of_lt (Nat.lt_of_lt_of_le (by have := World.block_lt_of_cell? _ _ hw127_1; first | rwa [add_block] at this | exact this) GW129.out)) | (dsimp only; exact Nat.ne_of_lt (Nat.lt_of_lt_of_le (by have := World.block_lt_of_cell? _ _ hw127_1; first | rwa [add_block] at this | exact this) GW129.out))) _).trans (((cell_far (p := ⟨gb129, _, none⟩) (by first | exact Nat.ne_of_lt (Nat.lt_of_lt_of_le (by have := World.block_lt_of_cell? _ _ hw127_1; first | rwa [add_block] at this | exact this) GW129.out) | (rw [add_block]; exact Nat.ne_of_lt (Nat.lt_of_lt_of_le (by have := World.block_lt_of_cell? _ _ hw127_1; first | rwa [add_block] at this | exact this) GW129.out)) | (show (Addr.add _ _).block ≠ _; rw [add_block]; exact Nat.ne_of_lt (Nat.lt_of_lt_of_le (by have := World.block_lt_of_cell? _ _ hw127_1; first | rwa [add_block] at this | exact this) GW129.out)) | (dsimp only; exact Nat.ne_of_lt (Nat.lt_of_lt_of_le (by have := World.block_lt_of_cell? _ _ hw127_1; first | rwa [add_block] at this | exact this) GW129.out))) _).trans (((cell_far (p := ⟨gb129, _, none⟩) (by first | exact Nat.ne_of_lt (Nat.lt_of_lt_of_le (by have := World.block_lt_of_cell? _ _ hw127_1; first | rwa [add_block] at this | exact this) GW129.out) | (rw [add_block]; exact Nat.ne_of_lt (Nat.lt_of_lt_of_le (by have := World.block_lt_of_cell? _ _ hw127_1; first | rwa [add_block] at this | exact this) GW129.out)) | (show (Addr.add _ _).block ≠ _; rw [add_block]; exact Nat.ne_of_lt (Nat.lt_of_lt_of_le (by have := World.block_lt_of_cell? _ _ hw127_1; first | rwa [add_block] at this | exact this) GW129.out)) | (dsimp only; exact Nat.ne_of_lt (Nat.lt_of_lt_of_le (by have := World.block_lt_of_cell? _ _ hw127_1; first | rwa [add_block] at this | exact this) GW129.out))) _).trans (hHeld.2.2.1)))))), ((cell_far (p := ⟨gb129, _, none⟩) (by first | exact Nat.ne_of_lt (Nat.lt_of_lt_of_le (by have := World.block_lt_of_cell? _ _ hw127_2; first | rwa [add_block] at this | exact this) GW129.out) | (rw [add_block]; exact Nat.ne_of_lt (Nat.lt_of_lt_of_le (by have := World.block_lt_of_cell? _ _ hw127_2; first | rwa [add_block] at this | exact this) GW129.out)) | (show (Addr.add _ _).block ≠ _; rw [add_block]; exact Nat.ne_of_lt (Nat.lt_of_lt_of_le (by have := World.block_lt_of_cell? _ _ hw127_2; first | rwa [add_block] at this | exact this) GW129.out)) | (dsimp only; exact Nat.ne_of_lt (Nat.lt_of_lt_of_le (by have := World.block_lt_of_cell? _ _ hw127_2; first | rwa [add_block] at this | exact this) GW129.out))) _).trans (((cell_far (p := ⟨gb129, _, none⟩) (by first | exact Nat.ne_of_lt (Nat.lt_of_lt_of_le (by have := World.block_lt_of_cell? _ _ hw127_2; first | rwa [add_block] at this | exact this) GW129.out) | (rw [add_block]; exact Nat.ne_of_lt (Nat.lt_of_lt_of_le (by have := World.block_lt_of_cell? _ _ hw127_2; first | rwa [add_block] at this | exact this) GW129.out)) | (show (Addr.add _ _).block ≠ _; rw [add_block]; exact Nat.ne_of_lt (Nat.lt_of_lt_of_le (by have := World.block_lt_of_cell? _ _ hw127_2; first | rwa [add_block] at this | exact this) GW129.out)) | (dsimp only; exact Nat.ne_of_lt (Nat.lt_of_lt_of_le (by have := World.block_lt_of_cell? _ _ hw127_2; first | rwa [add_block] at this | exact this) GW129.out))) _).trans (((cell_far (p := ⟨gb129, _, none⟩) (by first | exact Nat.ne_of_lt (Nat.lt_of_lt_of_le (by have := World.block_lt_of_cell? _ _ hw127_2; first | rwa [add_block] at this | exact this) GW129.out) | (rw [add_block]; exact Nat.ne_of_lt (Nat.lt_of_lt_of_le (by have := World.block_lt_of_cell? _ _ hw127_2; first | rwa [add_block] at this | exact this) GW129.out)) | (show (Addr.add _ _).block ≠ _; rw [add_block]; exact Nat.ne_of_lt (Nat.lt_of_lt_of_le (by have := World.block_lt_of_cell? _ _ hw127_2; first | rwa [add_block] at this | exact this) GW129.out)) | (dsimp only; exact Nat.ne_of_lt (Nat.lt_of_lt_of_le (by have := World.block_lt_of_cell? _ _ hw127_2; first | rwa [add_block] at this | exact this) GW129.out))) _).trans (hHeld.2.2.2.1)))))), ((cell_far (p := ⟨gb129, _, none⟩) (by first | exact Nat.ne_of_lt (Nat.lt_of_lt_of_le (by have := World.block_lt_of_cell? _ _ hw128_0; first | rwa [add_block] at this | exact this) GW129.out) | (rw [add_block]; exact Nat.ne_of_lt (Nat.lt_of_lt_of_le (by have := World.block_lt_of_cell? _ _ hw128_0; first | rwa [add_block] at this | exact this) GW129.out)) | (show (Addr.add _ _).block ≠ _; rw [add_block]; exact Nat.ne_of_lt (Nat.lt_of_lt_of_le (by have := World.block_lt_of_cell? _ _ hw128_0; first | rwa [add_block] at this | exact this) GW129.out)) | (dsimp only; exact Nat.ne_of_lt (Nat.lt_of_lt_of_le (by have := World.block_lt_of_cell? _ _ hw128_0; first | rwa [add_block] at this | exact this) GW129.out))) _).trans (((cell_far (p := ⟨gb129, _, none⟩) (by first | exact Nat.ne_of_lt (Nat.lt_of_lt_of_le (by have := World.block_lt_of_cell? _ _ hw128_0; first | rwa [add_block] at this | exact this) GW129.out) | (rw [add_block]; exact Nat.ne_of_lt (Nat.lt_of_lt_of_le (by have := World.block_lt_of_cell? _ _ hw128_0; first | rwa [add_block] at this | exact this) GW129.out)) | (show (Addr.add _ _).block ≠ _; rw [add_block]; exact Nat.ne_of_lt (Nat.lt_of_lt_of_le (by have := World.block_lt_of_cell? _ _ hw128_0; first | rwa [add_block] at this | exact this) GW129.out)) | (dsimp only; exact Nat.ne_of_lt (Nat.lt_of_lt_of_le (by have := World.block_lt_of_cell? _ _ hw128_0; first | rwa [add_block] at this | exact this) GW129.out))) _).trans (((cell_far (p := ⟨gb129, _, none⟩) (by first | exact Nat.ne_of_lt (Nat.lt_of_lt_of_le (by have := World.block_lt_of_cell? _ _ hw128_0; first | rwa [add_block] at this | exact this) GW129.out) | (rw [add_block]; exact Nat.ne_of_lt (Nat.lt_of_lt_of_le (by have := World.block_lt_of_cell? _ _ hw128_0; first | rwa [add_block] at this | exact this) GW129.out)) | (show (Addr.add _ _).block ≠ _; rw [add_block]; exact Nat.ne_of_lt (Nat.lt_of_lt_of_le (by have := World.block_lt_of_cell? _ _ hw128_0; first | rwa [add_block] at this | exact this) GW129.out)) | (dsimp only; exact Nat.ne_of_lt (Nat.lt_of_lt_of_le (by have := World.block_lt_of_cell? _ _ hw128_0; first | rwa [add_block] at this | exact this) GW129.out))) _).trans (hHeld.2.2.2.2.1)))))), ((cell_far (p := ⟨gb129, _, none⟩) (by first | exact Nat.ne_of_lt (Nat.lt_of_lt_of_le (by have := World.block_lt_of_cell? _ _ hw128_1; first | rwa [add_block] at this | exact this) GW129.out) | (rw [add_block]; exact Nat.ne_of_lt (Nat.lt_of_lt_of_le (by have := World.block_lt_of_cell? _ _ hw128_1; first | rwa [add_block] at this | exact this) GW129.out)) | (show (Addr.add _ _).block ≠ _; rw [add_block]; exact Nat.ne_of_lt (Nat.lt_of_lt_of_le (by have := World.block_lt_of_cell? _ _ hw128_1; first | rwa [add_block] at this | exact this) GW129.out)) | (dsimp only; exact Nat.ne_of_lt (Nat.lt_of_lt_of_le (by have := World.block_lt_of_cell? _ _ hw128_1; first | rwa [add_block] at this | exact this) GW129.out))) _).trans (((cell_far (p := ⟨gb129, _, none⟩) (by first | exact Nat.ne_of_lt (Nat.lt_of_lt_of_le (by have := World.block_lt_of_cell? _ _ hw128_1; first | rwa [add_block] at this | exact this) GW129.out) | (rw [add_block]; exact Nat.ne_of_lt (Nat.lt_of_lt_of_le (by have := World.block_lt_of_cell? _ _ hw128_1; first | rwa [add_block] at this | exact this) GW129.out)) | (show (Addr.add _ _).block ≠ _; rw [add_block]; exact Nat.ne_of_lt (Nat.lt_of_lt_of_le (by have := World.block_lt_of_cell? _ _ hw128_1; first | rwa [add_block] at this | exact this) GW129.out)) | (dsimp only; exact Nat.ne_of_lt (Nat.lt_of_lt_of_le (by have := World.block_lt_of_cell? _ _ hw128_1; first | rwa [add_block] at this | exact this) GW129.out))) _).trans (((cell_far (p := ⟨gb129, _, none⟩) (by first | exact Nat.ne_of_lt (Nat.lt_of_lt_of_le (by have := World.block_lt_of_cell? _ _ hw128_1; first | rwa [add_block] at this | exact this) GW129.out) | (rw [add_block]; exact Nat.ne_of_lt (Nat.lt_of_lt_of_le (by have := World.block_lt_of_cell? _ _ hw128_1; first | rwa [add_block] at this | exact this) GW129.out)) | (show (Addr.add _ _).block ≠ _; rw [add_block]; exact Nat.ne_of_lt (Nat.lt_of_lt_of_le (by have := World.block_lt_of_cell? _ _ hw128_1; first | rwa [add_block] at this | exact this) GW129.out)) | (dsimp only; exact Nat.ne_of_lt (Nat.lt_of_lt_of_le (by have := World.block_lt_of_cell? _ _ hw128_1; first | rwa [add_block] at this | exact this) GW129.out))) _).trans (hHeld.2.2.2.2.2.1)))))), ((cell_far (p := ⟨gb129, _, none⟩) (by first | exact Nat.ne_of_lt (Nat.lt_of_lt_of_le (by have := World.block_lt_of_cell? _ _ hw128_2; first | rwa [add_block] at this | exact this) GW129.out) | (rw [add_block]; exact Nat.ne_of_lt (Nat.lt_of_lt_of_le (by have := World.block_lt_of_cell? _ _ hw128_2; first | rwa [add_block] at this | exact this) GW129.out)) | (show (Addr.add _ _).block ≠ _; rw [add_block]; exact Nat.ne_of_lt (Nat.lt_of_lt_of_le (by have := World.block_lt_of_cell? _ _ hw128_2; first | rwa [add_block] at this | exact this) GW129.out)) | (dsimp only; exact Nat.ne_of_lt (Nat.lt_of_lt_of_le (by have := World.block_lt_of_cell? _ _ hw128_2; first | rwa [add_block] at this | exact this) GW129.out))) _).trans (((cell_far (p := ⟨gb129, _, none⟩) (by first | exact Nat.ne_of_lt (Nat.lt_of_lt_of_le (by have := World.block_lt_of_cell? _ _ hw128_2; first | rwa [add_block] at this | exact this) GW129.out) | (rw [add_block]; exact Nat.ne_of_lt (Nat.lt_of_lt_of_le (by have := World.block_lt_of_cell? _ _ hw128_2; first | rwa [add_block] at this | exact this) GW129.out)) | (show (Addr.add _ _).block ≠ _; rw [add_block]; exact Nat.ne_of_lt (Nat.lt_of_lt_of_le (by have := World.block_lt_of_cell? _ _ hw128_2; first | rwa [add_block] at this | exact this) GW129.out)) | (dsimp only; exact Nat.ne_of_lt (Nat.lt_of_lt_of_le (by have := World.block_lt_of_cell? _ _ hw128_2; first | rwa [add_block] at this | exact this) GW129.out))) _).trans (((cell_far (p := ⟨gb129, _, none⟩) (by first | exact Nat.ne_of_lt (Nat.lt_of_lt_of_le (by have := World.block_lt_of_cell? _ _ hw128_2; first | rwa [add_block] at this | exact this) GW129.out) | (rw [add_block]; exact Nat.ne_of_lt (Nat.lt_of_lt_of_le (by have := World.block_lt_of_cell? _ _ hw128_2; first | rwa [add_block] at this | exact this) GW129.out)) | (show (Addr.add _ _).block ≠ _; rw [add_block]; exact Nat.ne_of_lt (Nat.lt_of_lt_of_le (by have := World.block_lt_of_cell? _ _ hw128_2; first | rwa [add_block] at this | exact this) GW129.out)) | (dsimp only; exact Nat.ne_of_lt (Nat.lt_of_lt_of_le (by have := World.block_lt_of_cell? _ _ hw128_2; first | rwa [add_block] at this | exact this) GW129.out))) _).trans (hHeld.2.2.2.2.2.2))))))⟩ (fun hHeld => ?_)
           clear hK K
           refine zby (zbv HT_.out (by kernel_rfl)) ?_
           try go_wp2
           go_loopg [9] kj21 (fun kq v9 w' => ∃ (x9_4 : Int) (x130002_4 : List Int) (u130002 : Value), v9 = .int .i64 x9_4 ∧ zab (zal.l2 kq x5_2 x7_2 x9_4 l0_0 a1_0 a1_1 l1_2 x124000_21 ((zaa l0_0 x7_2).f0) ((zaa l0_0 x7_2).f1) x130002_4 = some r) ∧ zab (kq ≤ kj21) ∧ zab (Kd.R k38 38 w' w.heap.size (fun k_ => some k_ ≠ (u130002 : Value).ownBlock ∧ k_ ≠ gb119 ∧ k_ ≠ gb129) u124000 x124000_21) ∧ zab (Kd.R (Kd.int .i64) 3 w' w.heap.size (fun _ => True) u130002 x130002_4) ∧ zab (w'.heap[gb118]? = some (.cells #[(.slice (some ad127) l0_0.length c0_0)] 24 (0, 0))) ∧ zab (w'.heap[gb119]? = some (.cells #[.int .i64 a1_0, .int .i64 a1_1, (.slice A1_2 l1_2.length c1_2)] 38 (0, 0))) ∧ zab (w'.heap[gb120]? = some (.cells #[(.slice none 0 0)] 24 (0, 0))) ∧ zab (w'.heap[gb123]? = some (.cells #[u124000] 24 (0, 0))) ∧ zab (w'.heap[gb129]? = some (.cells #[.int .i64 ((zaa l0_0 x7_2).f0), .int .i64 ((zaa l0_0 x7_2).f1), u130002] 38 (0, 0))) ∧ zab (Below w.heap.size w w'))
           case atStart => exact ⟨(0), (([] : List Int)), (.slice none 0 0), Yfs, H', ⟨Nat.le_refl _⟩, ⟨by (with_reducible repeat (first | apply Kd.zc1 | apply Kd.R_drewN | apply Kd.zdj)); exact Kd.zbw (Kd.zeb (p := ⟨gb129, 2, none⟩) (Kd.zeb (p := ⟨gb129, 1, none⟩) (Kd.zeb (p := ⟨gb129, 0, none⟩) (Kd.zbw HO_124000.out (fun k_ hk => (⟨hk, hk.2⟩ : _ ∧ k_ ≠ gb129))) (fun _ hk => hk.2) (.int .i64 ((zaa l0_0 x7_2).f0))) (fun _ hk => hk.2) (.int .i64 ((zaa l0_0 x7_2).f1))) (fun _ hk => hk.2) (.slice none 0 0)) (fun _ hk => ⟨(by simp [Value.ownBlock]), ⟨hk.1.1, hk.1.2⟩⟩)⟩, ⟨by first | exact Kd.zef _ _ _ _ _ | exact Kd.N_nil _ _ _ _ _ | exact Kd.V_nil _ _ _ _ _ | exact Kd.Q_nil _ _ _ _ _ | exact Kd.S_nil _ _ _ _ _⟩, ⟨by (with_reducible repeat (first | refine zae ?_ _ | refine zac ?_ | refine zad ?_ _)); refine zaj ?_ NB118_129.out _; (with_reducible repeat (first | refine zae ?_ _ | refine zac ?_ | refine zad ?_ _)); refine zaj ?_ NB118_129.out _; (with_reducible repeat (first | refine zae ?_ _ | refine zac ?_ | refine zad ?_ _)); refine zaj ?_ NB118_129.out _; (with_reducible repeat (first | refine zae ?_ _ | refine zac ?_ | refine zad ?_ _)); exact BK118.out⟩, ⟨by (with_reducible repeat (first | refine zae ?_ _ | refine zac ?_ | refine zad ?_ _)); refine zaj ?_ NB119_129.out _; (with_reducible repeat (first | refine zae ?_ _ | refine zac ?_ | refine zad ?_ _)); refine zaj ?_ NB119_129.out _; (with_reducible repeat (first | refine zae ?_ _ | refine zac ?_ | refine zad ?_ _)); refine zaj ?_ NB119_129.out _; (with_reducible repeat (first | refine zae ?_ _ | refine zac ?_ | refine zad ?_ _)); exact BK119.out⟩, ⟨by (with_reducible repeat (first | refine zae ?_ _ | refine zac ?_ | refine zad ?_ _)); refine zaj ?_ NB120_129.out _; (with_reducible repeat (first | refine zae ?_ _ | refine zac ?_ | refine zad ?_ _)); refine zaj ?_ NB120_129.out _; (with_reducible repeat (first | refine zae ?_ _ | refine zac ?_ | refine zad ?_ _)); refine zaj ?_ NB120_129.out _; (with_reducible repeat (first | refine zae ?_ _ | refine zac ?_ | refine zad ?_ _)); exact BK120.out⟩, ⟨by (with_reducible repeat (first | refine zae ?_ _ | refine zac ?_ | refine zad ?_ _)); refine zaj ?_ NB123_129.out _; (with_reducible repeat (first | refine zae ?_ _ | refine zac ?_ | refine zad ?_ _)); refine zaj ?_ NB123_129.out _; (with_reducible repeat (first | refine zae ?_ _ | refine zac ?_ | refine zad ?_ _)); refine zaj ?_ NB123_129.out _; (with_reducible repeat (first | refine zae ?_ _ | refine zac ?_ | refine zad ?_ _)); exact BK123.out⟩, ⟨by (with_reducible repeat (first | refine zae ?_ _ | refine zac ?_ | refine zad ?_ _)); refine zas (cs := #[.int .i64 ((zaa l0_0 x7_2).f0), .int .i64 ((zaa l0_0 x7_2).f1), .slice none 0 0]) ?_ 2 _ rfl; (with_reducible repeat (first | refine zae ?_ _ | refine zac ?_ | refine zad ?_ _)); refine zas (cs := #[.int .i64 ((zaa l0_0 x7_2).f0), .int .i64 0, .slice none 0 0]) ?_ 1 _ rfl; (with_reducible repeat (first | refine zae ?_ _ | refine zac ?_ | refine zad ?_ _)); refine zas (cs := #[.int .i64 0, .int .i64 0, .slice none 0 0]) ?_ 0 _ rfl; (with_reducible repeat (first | refine zae ?_ _ | refine zac ?_ | refine zad ?_ _)); exact BK129.out⟩, ⟨Yb_PGssPushesx4_4⟩⟩
           case round =>
            clear H'
            obtain ⟨x9_4, x130002_4, u130002, rfl, HA, HK4, HO_124000, HO_130002, BK118, BK119, BK120, BK123, BK129, HB⟩ := hrel
            cases gk with
            | zero => exact absurd HA.out (by simp [zal.l2])
            | succ k4 =>
             have H := HA.out;clear HA
             simp only [zal.l2] at H
             by_cases c61 : 0 ≤ x7_2
             ·rw [if_pos c61] at H
              have c61b0 := decide_eq_true c61
              clear c61
              by_cases c62 : x7_2 < (l0_0.length : Int)
              ·rw [if_pos c62] at H
               have c62b0 := decide_eq_true c62
               clear c62
               by_cases c63 : x9_4 < (((zaa l0_0 x7_2).f2).length : Int)
               ·rw [if_pos c63] at H
                have c63b0 := decide_eq_true c63
                clear c63
                by_cases c64 : 0 ≤ x9_4
                ·rw [if_pos c64] at H
                 have c64b0 := decide_eq_true c64
                 clear c64
                 by_cases c65 : (rd ((zaa l0_0 x7_2).f2) x9_4) ≥ x5_2
                 ·rw [if_pos c65] at H
                  have c65b0 := decide_eq_true c65
                  clear c65
                  by_cases c66 : x130002_4.length < 17592186044416
                  ·rw [if_pos c66] at H
                   have LMc66 := zab.mk c66;clear c66
                   obtain ⟨y133, hy133⟩ : ∃ y_ : List Int, y_ = (x130002_4 ++ [wrap64 ((rd ((zaa l0_0 x7_2).f2) x9_4) + 1)]) := ⟨_, rfl⟩
                   replace H : (zal.l2 k4 x5_2 x7_2 (wrap64 (x9_4 + 1)) l0_0 a1_0 a1_1 l1_2 x124000_21 ((zaa l0_0 x7_2).f0) ((zaa l0_0 x7_2).f1) y133) = some r := by first | (rw [hy133]; with_reducible exact H) | (have H2_ := (Option.bind_some _ _).symm.trans H; rw [hy133]; with_reducible exact H2_) | (have H2_ := (Option.bind_some _ _).symm.trans H; with_reducible exact H2_) | with_reducible exact H | (rw [hy133]; exact H) | exact H
                   have Ny133 := zab.mk hy133;clear hy133
                   have H' := zab.mk H
                   clear H
                   have hnb67 := NB118_119.out
                   have hnc67 := NB119_118.out
                   have hnb68 := NB118_120.out
                   have hnc68 := NB120_118.out
                   have hnb69 := NB118_123.out
                   have hnc69 := NB123_118.out
                   have hnb70 := NB118_129.out
                   have hnc70 := NB129_118.out
                   obtain ⟨hcz71_0, hfz71_0⟩ := Yc1 BK118.out
                   have p130 : 0 ≤ (x7_2 : Int) := Yod
                   have q130 : x7_2 < (l0_0.length : Int) := Yod
                   obtain ⟨ad130, A130_2, c130_2, e130, hx130_0, hx130_1, hx130_2, hl130_2, hi130_2⟩ := zbn HR0_0.out x7_2 p130 q130
                   obtain rfl : ad127 = ad130 := (by injection e130)
                   replace hx130_0 := zai HB.out hx130_0
                   replace hx130_1 := zai HB.out hx130_1
                   replace hx130_2 := zai HB.out hx130_2
                   have HR130_2 := zab.mk hi130_2;have HC130_2 := zab.mk hl130_2;clear hi130_2 hl130_2
                   replace p130 := eq_true p130
                   replace q130 := eq_true q130
                   have p131 : 0 ≤ (x7_2 : Int) := Yod
                   have q131 : x7_2 < (l0_0.length : Int) := Yod
                   obtain ⟨ad131, A131_2, c131_2, e131, hx131_0, hx131_1, hx131_2, hl131_2, hi131_2⟩ := zbn HR0_0.out x7_2 p131 q131
                   obtain rfl : ad127 = ad131 := (by injection e131)
                   replace hx131_0 := zai HB.out hx131_0
                   replace hx131_1 := zai HB.out hx131_1
                   replace hx131_2 := zai HB.out hx131_2
                   have HR131_2 := zab.mk hi131_2;have HC131_2 := zab.mk hl131_2;clear hi131_2 hl131_2
                   replace p131 := eq_true p131
                   replace q131 := eq_true q131
                   have ea_ := Option.some.inj (hx130_2.symm.trans hx131_2)
                   injection ea_ with ea_ en_ ec_
                   subst ea_;subst ec_;clear en_
                   have p132 : 0 ≤ (x9_4 : Int) := Yod
                   have q132 : x9_4 < (((zaa l0_0 x7_2).f2).length : Int) := Yod
                   obtain ⟨ad132, e132, hx132_0⟩ := Kd.zb1 HR131_2.out x9_4 p132 q132
                   cases e132
                   replace hx132_0 := zai HB.out hx132_0
                   replace p132 := eq_true p132
                   replace q132 := eq_true q132
                   have hnb72 := NB129_119.out
                   have hnc72 := NB119_129.out
                   have hnb73 := NB129_120.out
                   have hnc73 := NB120_129.out
                   have hnb74 := NB129_123.out
                   have hnc74 := NB123_129.out
                   obtain ⟨hcz75_0, hfz75_0, hcz75_1, hfz75_1, hcz75_2, hfz75_2⟩ := Yc3 BK129.out
                   go_wp2_with (first | ((with_reducible refine zca (b := .append) (xs := #[.tmp 92, .tmp 94]) rfl ?_); at_builtin; refine Kd.zeg (Kd.int .i64) (w0 := w) w.heap.size rfl (.tmp 92) (.tmp 94) 31 3 (.int .i64 0) 8 rfl Try.underlying31 info3 rfl (by decide) (by omega) u130002 x130002_4 (wrap64 ((rd ((zaa l0_0 x7_2).f2) x9_4) + 1)) [.int .i64 (wrap64 ((rd ((zaa l0_0 x7_2).f2) x9_4) + 1))] (fun _ => True) (fun _ => False) rfl rfl ?aP (fun _ hk => hk.elim) ?aF ?aO ?aB ?aS ?aL ?_; (case aP => exact rfl); (case aB => exact Yb_PGssPushesx4_4); (case aF => exact (fun _ _ => trivial)); (case aO => exact (Yr HO_130002)); (case aS => exact (za7 Yb_PGssPushesx4_4)); (case aL => have := LMc66.out; omega); intro v134 w76 ho hb hg hat; rw [← Ny133.out] at ho; replace HO_124000 := zab.mk (Kd.R_after (ok := (fun k_ => k_ ≠ gb119 ∧ k_ ≠ gb129)) (by (with_reducible repeat (first | apply Kd.zc1 | apply Kd.R_drewN | apply Kd.zdj)); exact Kd.zbw HO_124000.out (fun _ hk => ⟨⟨hk.2.1, hk.2.2⟩, hk.1⟩)) hg hat); replace BK118 := zab.mk (zbm (g := gb118) (o := .cells #[.slice (some ad127) l0_0.length c0_0] 24 (0, 0)) (Yg BK118) hg (Kd.R_ne HO_130002.out BK118.out (by decide))); replace BK119 := zab.mk (zbm (g := gb119) (o := .cells #[.int .i64 a1_0, .int .i64 a1_1, .slice A1_2 l1_2.length c1_2] 38 (0, 0)) (Yg BK119) hg (Kd.R_ne HO_130002.out BK119.out (by decide))); replace BK120 := zab.mk (zbm (g := gb120) (o := .cells #[.slice none 0 0] 24 (0, 0)) (Yg BK120) hg (Kd.R_ne HO_130002.out BK120.out (by decide))); replace BK123 := zab.mk (zbm (g := gb123) (o := .cells #[u124000] 24 (0, 0)) (Yg BK123) hg (Kd.R_ne HO_130002.out BK123.out (by decide))); replace BK129 := zab.mk (zbm (g := gb129) (o := .cells #[.int .i64 ((zaa l0_0 x7_2).f0), .int .i64 ((zaa l0_0 x7_2).f1), u130002] 38 (0, 0)) (Yg BK129) hg (Kd.R_ne HO_130002.out BK129.out (by decide))); replace HB := zab.mk (hb); have HO135 := zab.mk (ho); clear HO_130002; clear ho hb hg hat; obtain ⟨Ao77, co77, eo77⟩ := Kd.zcf HO135.out; subst eo77; obtain ⟨hcz78_0, hfz78_0, hcz78_1, hfz78_1, hcz78_2, hfz78_2⟩ := Yc3 BK129.out))
                   go_roundg k4
                   case measure => have := HJ2.out; have := HK2.out; have := HJ21.out; have := HK4.out; omega
                   case rel => exact ⟨(wrap64 (x9_4 + 1)), (y133), (.slice Ao77 y133.length co77), Yfs, H', ⟨by have := HJ2.out; have := HK2.out; have := HJ21.out; have := HK4.out; omega⟩, ⟨by (with_reducible repeat (first | apply Kd.zc1 | apply Kd.R_drewN | apply Kd.zdj)); exact Kd.zbw (Kd.zeb (p := ⟨gb129, 2, none⟩) (Kd.zbw HO_124000.out (fun k_ hk => (⟨hk, hk.1.2⟩ : _ ∧ k_ ≠ gb129))) (fun _ hk => hk.2) (.slice Ao77 y133.length co77)) (fun _ hk => ⟨hk.1.2, ⟨hk.1.1.1, hk.1.1.2⟩⟩)⟩, ⟨by (with_reducible repeat (first | apply Kd.zc1 | apply Kd.R_drewN | apply Kd.zdj)); exact Kd.zbw (Kd.zeb (p := ⟨gb129, 2, none⟩) (Kd.zdn HO135.out BK129.out (by decide)) (fun _ hk => hk.2) (.slice Ao77 y133.length co77)) (fun _ hk => trivial)⟩, ⟨by (with_reducible repeat (first | refine zae ?_ _ | refine zac ?_ | refine zad ?_ _)); refine zaj ?_ NB118_129.out _; (with_reducible repeat (first | refine zae ?_ _ | refine zac ?_ | refine zad ?_ _)); exact BK118.out⟩, ⟨by (with_reducible repeat (first | refine zae ?_ _ | refine zac ?_ | refine zad ?_ _)); refine zaj ?_ NB119_129.out _; (with_reducible repeat (first | refine zae ?_ _ | refine zac ?_ | refine zad ?_ _)); exact BK119.out⟩, ⟨by (with_reducible repeat (first | refine zae ?_ _ | refine zac ?_ | refine zad ?_ _)); refine zaj ?_ NB120_129.out _; (with_reducible repeat (first | refine zae ?_ _ | refine zac ?_ | refine zad ?_ _)); exact BK120.out⟩, ⟨by (with_reducible repeat (first | refine zae ?_ _ | refine zac ?_ | refine zad ?_ _)); refine zaj ?_ NB123_129.out _; (with_reducible repeat (first | refine zae ?_ _ | refine zac ?_ | refine zad ?_ _)); exact BK123.out⟩, ⟨by (with_reducible repeat (first | refine zae ?_ _ | refine zac ?_ | refine zad ?_ _)); refine zas (cs := #[.int .i64 ((zaa l0_0 x7_2).f0), .int .i64 ((zaa l0_0 x7_2).f1), u130002]) ?_ 2 _ rfl; (with_reducible repeat (first | refine zae ?_ _ | refine zac ?_ | refine zad ?_ _)); exact BK129.out⟩, ⟨Yb_PGssPushesx4_4⟩⟩
                  ·rw [if_neg c66] at H
                   exact absurd H (by simp)
                 ·rw [if_neg c65] at H
                  have c65b0 := decide_eq_false c65
                  clear c65
                  by_cases c79 : x130002_4.length < 17592186044416
                  ·rw [if_pos c79] at H
                   have LMc79 := zab.mk c79;clear c79
                   obtain ⟨y136, hy136⟩ : ∃ y_ : List Int, y_ = (x130002_4 ++ [rd ((zaa l0_0 x7_2).f2) x9_4]) := ⟨_, rfl⟩
                   replace H : (zal.l2 k4 x5_2 x7_2 (wrap64 (x9_4 + 1)) l0_0 a1_0 a1_1 l1_2 x124000_21 ((zaa l0_0 x7_2).f0) ((zaa l0_0 x7_2).f1) y136) = some r := by first | (rw [hy136]; with_reducible exact H) | (have H2_ := (Option.bind_some _ _).symm.trans H; rw [hy136]; with_reducible exact H2_) | (have H2_ := (Option.bind_some _ _).symm.trans H; with_reducible exact H2_) | with_reducible exact H | (rw [hy136]; exact H) | exact H
                   have Ny136 := zab.mk hy136;clear hy136
                   have H' := zab.mk H
                   clear H
                   have hnb80 := NB118_119.out
                   have hnc80 := NB119_118.out
                   have hnb81 := NB118_120.out
                   have hnc81 := NB120_118.out
                   have hnb82 := NB118_123.out
                   have hnc82 := NB123_118.out
                   have hnb83 := NB118_129.out
                   have hnc83 := NB129_118.out
                   obtain ⟨hcz84_0, hfz84_0⟩ := Yc1 BK118.out
                   have p130 : 0 ≤ (x7_2 : Int) := Yod
                   have q130 : x7_2 < (l0_0.length : Int) := Yod
                   obtain ⟨ad130, A130_2, c130_2, e130, hx130_0, hx130_1, hx130_2, hl130_2, hi130_2⟩ := zbn HR0_0.out x7_2 p130 q130
                   obtain rfl : ad127 = ad130 := (by injection e130)
                   replace hx130_0 := zai HB.out hx130_0
                   replace hx130_1 := zai HB.out hx130_1
                   replace hx130_2 := zai HB.out hx130_2
                   have HR130_2 := zab.mk hi130_2;have HC130_2 := zab.mk hl130_2;clear hi130_2 hl130_2
                   replace p130 := eq_true p130
                   replace q130 := eq_true q130
                   have p131 : 0 ≤ (x7_2 : Int) := Yod
                   have q131 : x7_2 < (l0_0.length : Int) := Yod
                   obtain ⟨ad131, A131_2, c131_2, e131, hx131_0, hx131_1, hx131_2, hl131_2, hi131_2⟩ := zbn HR0_0.out x7_2 p131 q131
                   obtain rfl : ad127 = ad131 := (by injection e131)
                   replace hx131_0 := zai HB.out hx131_0
                   replace hx131_1 := zai HB.out hx131_1
                   replace hx131_2 := zai HB.out hx131_2
                   have HR131_2 := zab.mk hi131_2;have HC131_2 := zab.mk hl131_2;clear hi131_2 hl131_2
                   replace p131 := eq_true p131
                   replace q131 := eq_true q131
                   have ea_ := Option.some.inj (hx130_2.symm.trans hx131_2)
                   injection ea_ with ea_ en_ ec_
                   subst ea_;subst ec_;clear en_
                   have p132 : 0 ≤ (x9_4 : Int) := Yod
                   have q132 : x9_4 < (((zaa l0_0 x7_2).f2).length : Int) := Yod
                   obtain ⟨ad132, e132, hx132_0⟩ := Kd.zb1 HR131_2.out x9_4 p132 q132
                   cases e132
                   replace hx132_0 := zai HB.out hx132_0
                   replace p132 := eq_true p132
                   replace q132 := eq_true q132
                   have hnb85 := NB129_119.out
                   have hnc85 := NB119_129.out
                   have hnb86 := NB129_120.out
                   have hnc86 := NB120_129.out
                   have hnb87 := NB129_123.out
                   have hnc87 := NB123_129.out
                   obtain ⟨hcz88_0, hfz88_0, hcz88_1, hfz88_1, hcz88_2, hfz88_2⟩ := Yc3 BK129.out
                   go_wp2_with (first | ((with_reducible refine zca (b := .append) (xs := #[.tmp 92, .tmp 94]) rfl ?_); at_builtin; refine Kd.zeg (Kd.int .i64) (w0 := w) w.heap.size rfl (.tmp 92) (.tmp 94) 31 3 (.int .i64 0) 8 rfl Try.underlying31 info3 rfl (by decide) (by omega) u130002 x130002_4 (rd ((zaa l0_0 x7_2).f2) x9_4) [.int .i64 (rd ((zaa l0_0 x7_2).f2) x9_4)] (fun _ => True) (fun _ => False) rfl rfl ?aP (fun _ hk => hk.elim) ?aF ?aO ?aB ?aS ?aL ?_; (case aP => exact rfl); (case aB => exact Yb_PGssPushesx4_4); (case aF => exact (fun _ _ => trivial)); (case aO => exact (Yr HO_130002)); (case aS => exact (za7 Yb_PGssPushesx4_4)); (case aL => have := LMc79.out; omega); intro v137 w89 ho hb hg hat; rw [← Ny136.out] at ho; replace HO_124000 := zab.mk (Kd.R_after (ok := (fun k_ => k_ ≠ gb119 ∧ k_ ≠ gb129)) (by (with_reducible repeat (first | apply Kd.zc1 | apply Kd.R_drewN | apply Kd.zdj)); exact Kd.zbw HO_124000.out (fun _ hk => ⟨⟨hk.2.1, hk.2.2⟩, hk.1⟩)) hg hat); replace BK118 := zab.mk (zbm (g := gb118) (o := .cells #[.slice (some ad127) l0_0.length c0_0] 24 (0, 0)) (Yg BK118) hg (Kd.R_ne HO_130002.out BK118.out (by decide))); replace BK119 := zab.mk (zbm (g := gb119) (o := .cells #[.int .i64 a1_0, .int .i64 a1_1, .slice A1_2 l1_2.length c1_2] 38 (0, 0)) (Yg BK119) hg (Kd.R_ne HO_130002.out BK119.out (by decide))); replace BK120 := zab.mk (zbm (g := gb120) (o := .cells #[.slice none 0 0] 24 (0, 0)) (Yg BK120) hg (Kd.R_ne HO_130002.out BK120.out (by decide))); replace BK123 := zab.mk (zbm (g := gb123) (o := .cells #[u124000] 24 (0, 0)) (Yg BK123) hg (Kd.R_ne HO_130002.out BK123.out (by decide))); replace BK129 := zab.mk (zbm (g := gb129) (o := .cells #[.int .i64 ((zaa l0_0 x7_2).f0), .int .i64 ((zaa l0_0 x7_2).f1), u130002] 38 (0, 0)) (Yg BK129) hg (Kd.R_ne HO_130002.out BK129.out (by decide))); replace HB := zab.mk (hb); have HO138 := zab.mk (ho); clear HO_130002; clear ho hb hg hat; obtain ⟨Ao90, co90, eo90⟩ := Kd.zcf HO138.out; subst eo90; obtain ⟨hcz91_0, hfz91_0, hcz91_1, hfz91_1, hcz91_2, hfz91_2⟩ := Yc3 BK129.out))
                   go_roundg k4
                   case measure => have := HJ2.out; have := HK2.out; have := HJ21.out; have := HK4.out; omega
                   case rel => exact ⟨(wrap64 (x9_4 + 1)), (y136), (.slice Ao90 y136.length co90), Yfs, H', ⟨by have := HJ2.out; have := HK2.out; have := HJ21.out; have := HK4.out; omega⟩, ⟨by (with_reducible repeat (first | apply Kd.zc1 | apply Kd.R_drewN | apply Kd.zdj)); exact Kd.zbw (Kd.zeb (p := ⟨gb129, 2, none⟩) (Kd.zbw HO_124000.out (fun k_ hk => (⟨hk, hk.1.2⟩ : _ ∧ k_ ≠ gb129))) (fun _ hk => hk.2) (.slice Ao90 y136.length co90)) (fun _ hk => ⟨hk.1.2, ⟨hk.1.1.1, hk.1.1.2⟩⟩)⟩, ⟨by (with_reducible repeat (first | apply Kd.zc1 | apply Kd.R_drewN | apply Kd.zdj)); exact Kd.zbw (Kd.zeb (p := ⟨gb129, 2, none⟩) (Kd.zdn HO138.out BK129.out (by decide)) (fun _ hk => hk.2) (.slice Ao90 y136.length co90)) (fun _ hk => trivial)⟩, ⟨by (with_reducible repeat (first | refine zae ?_ _ | refine zac ?_ | refine zad ?_ _)); refine zaj ?_ NB118_129.out _; (with_reducible repeat (first | refine zae ?_ _ | refine zac ?_ | refine zad ?_ _)); exact BK118.out⟩, ⟨by (with_reducible repeat (first | refine zae ?_ _ | refine zac ?_ | refine zad ?_ _)); refine zaj ?_ NB119_129.out _; (with_reducible repeat (first | refine zae ?_ _ | refine zac ?_ | refine zad ?_ _)); exact BK119.out⟩, ⟨by (with_reducible repeat (first | refine zae ?_ _ | refine zac ?_ | refine zad ?_ _)); refine zaj ?_ NB120_129.out _; (with_reducible repeat (first | refine zae ?_ _ | refine zac ?_ | refine zad ?_ _)); exact BK120.out⟩, ⟨by (with_reducible repeat (first | refine zae ?_ _ | refine zac ?_ | refine zad ?_ _)); refine zaj ?_ NB123_129.out _; (with_reducible repeat (first | refine zae ?_ _ | refine zac ?_ | refine zad ?_ _)); exact BK123.out⟩, ⟨by (with_reducible repeat (first | refine zae ?_ _ | refine zac ?_ | refine zad ?_ _)); refine zas (cs := #[.int .i64 ((zaa l0_0 x7_2).f0), .int .i64 ((zaa l0_0 x7_2).f1), u130002]) ?_ 2 _ rfl; (with_reducible repeat (first | refine zae ?_ _ | refine zac ?_ | refine zad ?_ _)); exact BK129.out⟩, ⟨Yb_PGssPushesx4_4⟩⟩
                  ·rw [if_neg c79] at H
                   exact absurd H (by simp)
                ·rw [if_neg c64] at H
                 exact absurd H (by simp)
               ·rw [if_neg c63] at H
                have c63b0 := decide_eq_false c63
                clear c63
                by_cases c92 : x124000_21.length < 3518437208883
                ·rw [if_pos c92] at H
                 have LMc92 := zab.mk c92;clear c92
                 obtain ⟨y139, hy139⟩ : ∃ y_ : List (S38), y_ = (x124000_21 ++ [(⟨((zaa l0_0 x7_2).f0), ((zaa l0_0 x7_2).f1), x130002_4⟩ : S38)]) := ⟨_, rfl⟩
                 replace H : (zal.l1 k4 x5_2 (wrap64 (x7_2 + 1)) l0_0 a1_0 a1_1 l1_2 y139) = some r := by first | (rw [hy139]; with_reducible exact H) | (have H2_ := (Option.bind_some _ _).symm.trans H; rw [hy139]; with_reducible exact H2_) | (have H2_ := (Option.bind_some _ _).symm.trans H; with_reducible exact H2_) | with_reducible exact H | (rw [hy139]; exact H) | exact H
                 have Ny139 := zab.mk hy139;clear hy139
                 have H' := zab.mk H
                 clear H
                 have hnb93 := NB118_119.out
                 have hnc93 := NB119_118.out
                 have hnb94 := NB118_120.out
                 have hnc94 := NB120_118.out
                 have hnb95 := NB118_123.out
                 have hnc95 := NB123_118.out
                 have hnb96 := NB118_129.out
                 have hnc96 := NB129_118.out
                 obtain ⟨hcz97_0, hfz97_0⟩ := Yc1 BK118.out
                 have p130 : 0 ≤ (x7_2 : Int) := Yod
                 have q130 : x7_2 < (l0_0.length : Int) := Yod
                 obtain ⟨ad130, A130_2, c130_2, e130, hx130_0, hx130_1, hx130_2, hl130_2, hi130_2⟩ := zbn HR0_0.out x7_2 p130 q130
                 obtain rfl : ad127 = ad130 := (by injection e130)
                 replace hx130_0 := zai HB.out hx130_0
                 replace hx130_1 := zai HB.out hx130_1
                 replace hx130_2 := zai HB.out hx130_2
                 have HR130_2 := zab.mk hi130_2;have HC130_2 := zab.mk hl130_2;clear hi130_2 hl130_2
                 replace p130 := eq_true p130
                 replace q130 := eq_true q130
                 have hnb98 := NB123_119.out
                 have hnc98 := NB119_123.out
                 have hnb99 := NB123_120.out
                 have hnc99 := NB120_123.out
                 have hnb100 := NB123_129.out
                 have hnc100 := NB129_123.out
                 obtain ⟨hcz101_0, hfz101_0⟩ := Yc1 BK123.out
                 have hnb102 := NB129_119.out
                 have hnc102 := NB119_129.out
                 have hnb103 := NB129_120.out
                 have hnc103 := NB120_129.out
                 obtain ⟨hcz104_0, hfz104_0, hcz104_1, hfz104_1, hcz104_2, hfz104_2⟩ := Yc3 BK129.out
                 obtain ⟨Ao106, co106, eo106⟩ := Kd.zcf HO_130002.out
                 subst eo106
                 go_wp2_with (first | ((with_reducible refine zca (b := .append) (xs := #[.tmp 98, .tmp 100]) rfl ?_); at_builtin; refine Kd.zeg k38 (w0 := w) w.heap.size rfl (.tmp 98) (.tmp 100) 22 38 (.agg #[(.int .i64 0), (.int .i64 0), (.slice none 0 0)]) 40 rfl Try.underlying22 info38 rfl (by decide) (by omega) u124000 x124000_21 (⟨((zaa l0_0 x7_2).f0), ((zaa l0_0 x7_2).f1), x130002_4⟩ : S38) [.int .i64 ((zaa l0_0 x7_2).f0), .int .i64 ((zaa l0_0 x7_2).f1), .slice Ao106 x130002_4.length co106] (fun k_ => k_ ≠ gb119 ∧ k_ ≠ gb129) (fun k_ => ((fun k_ => k_ ≠ gb119 ∧ k_ ≠ gb129)) k_ ∧ some k_ ≠ (u124000 : Value).ownBlock) rfl rfl ?aP (fun _ hk => hk) ?aF ?aO ?aB ?aS ?aL ?_; (case aP => exact zhi _ _ _ (⟨((zaa l0_0 x7_2).f0), ((zaa l0_0 x7_2).f1), x130002_4⟩ : S38) (Kd.zbw (Kd.zdn (Kd.zdn (Kd.R_apart' (HO_130002.out) (Kd.R_typed HO_124000.out) (by decide)) BK119.out (by decide)) BK129.out (by decide)) (fun k_ hk => ⟨⟨hk.1.2, hk.2⟩, hk.1.1.2⟩))); (case aB => exact Yb_PGssPushesx4_4); (case aF => exact (fun k_ hk => ⟨Kd.zbh (g := gb119) (o := .cells #[.int .i64 a1_0, .int .i64 a1_1, .slice A1_2 l1_2.length c1_2] 38 (0, 0)) (Yg BK119) k_ hk, Kd.zbh (g := gb129) (o := .cells #[.int .i64 ((zaa l0_0 x7_2).f0), .int .i64 ((zaa l0_0 x7_2).f1), .slice Ao106 x130002_4.length co106] 38 (0, 0)) (Yg BK129) k_ hk⟩)); (case aO => exact (by (with_reducible repeat (first | apply Kd.zc1 | apply Kd.R_drewN | apply Kd.zdj)); exact Kd.zbw HO_124000.out (fun _ hk => ⟨hk.2.1, hk.2.2⟩))); (case aS => exact (za7 Yb_PGssPushesx4_4)); (case aL => have := LMc92.out; omega); intro v140 w105 ho hb hg hat; rw [← Ny139.out] at ho; replace BK118 := zab.mk (zbm (g := gb118) (o := .cells #[.slice (some ad127) l0_0.length c0_0] 24 (0, 0)) (Yg BK118) hg (Kd.R_ne HO_124000.out BK118.out (by decide))); replace BK119 := zab.mk (zbm (g := gb119) (o := .cells #[.int .i64 a1_0, .int .i64 a1_1, .slice A1_2 l1_2.length c1_2] 38 (0, 0)) (Yg BK119) hg (Kd.R_away HO_124000.out (fun _ hk => hk.2.1))); replace BK120 := zab.mk (zbm (g := gb120) (o := .cells #[.slice none 0 0] 24 (0, 0)) (Yg BK120) hg (Kd.R_ne HO_124000.out BK120.out (by decide))); replace BK123 := zab.mk (zbm (g := gb123) (o := .cells #[u124000] 24 (0, 0)) (Yg BK123) hg (Kd.R_ne HO_124000.out BK123.out (by decide))); replace BK129 := zab.mk (zbm (g := gb129) (o := .cells #[.int .i64 ((zaa l0_0 x7_2).f0), .int .i64 ((zaa l0_0 x7_2).f1), .slice Ao106 x130002_4.length co106] 38 (0, 0)) (Yg BK129) hg (Kd.R_away HO_124000.out (fun _ hk => hk.2.2))); replace HB := zab.mk (hb); have HO141 := zab.mk (ho); clear HO_124000 HO_130002; clear ho hb hg hat; obtain ⟨Ao107, co107, eo107⟩ := Kd.zcf HO141.out; subst eo107; obtain ⟨hcz108_0, hfz108_0⟩ := Yc1 BK123.out))
                 go_roundg k4
                 case measure => have := HJ2.out; have := HK2.out; have := HJ21.out; have := HK4.out; omega
                 case rel => exact ⟨(wrap64 (x7_2 + 1)), (y139), (.slice Ao107 y139.length co107), Yfs, H', ⟨by have := HJ2.out; have := HK2.out; have := HJ21.out; have := HK4.out; omega⟩, ⟨by (with_reducible repeat (first | apply Kd.zc1 | apply Kd.R_drewN | apply Kd.zdj)); exact Kd.zbw (Kd.zeb (p := ⟨gb123, 0, none⟩) (Kd.zdn HO141.out BK123.out (by decide)) (fun _ hk => hk.2) (.slice Ao107 y139.length co107)) (fun _ hk => hk.1.1)⟩, ⟨by (with_reducible repeat (first | refine zae ?_ _ | refine zac ?_ | refine zad ?_ _)); refine zaj ?_ NB118_123.out _; (with_reducible repeat (first | refine zae ?_ _ | refine zac ?_ | refine zad ?_ _)); exact BK118.out⟩, ⟨by (with_reducible repeat (first | refine zae ?_ _ | refine zac ?_ | refine zad ?_ _)); refine zaj ?_ NB119_123.out _; (with_reducible repeat (first | refine zae ?_ _ | refine zac ?_ | refine zad ?_ _)); exact BK119.out⟩, ⟨by (with_reducible repeat (first | refine zae ?_ _ | refine zac ?_ | refine zad ?_ _)); refine zaj ?_ NB120_123.out _; (with_reducible repeat (first | refine zae ?_ _ | refine zac ?_ | refine zad ?_ _)); exact BK120.out⟩, ⟨by (with_reducible repeat (first | refine zae ?_ _ | refine zac ?_ | refine zad ?_ _)); refine zas (cs := #[u124000]) ?_ 0 _ rfl; (with_reducible repeat (first | refine zae ?_ _ | refine zac ?_ | refine zad ?_ _)); exact BK123.out⟩, ⟨Yb_PGssPushesx4_4⟩⟩
                ·rw [if_neg c92] at H
                 exact absurd H (by simp)
              ·rw [if_neg c62] at H
               exact absurd H (by simp)
             ·rw [if_neg c61] at H
              exact absurd H (by simp)
          ·rw [if_neg c51] at H
           exact absurd H (by simp)
         ·rw [if_neg c50] at H
          exact absurd H (by simp)
     ·rw [if_neg c21] at H
      have c21b0 := decide_eq_false c21
      clear c21;obtain rfl := Option.some.inj H
      have hnb109 := NB118_119.out
      have hnc109 := NB119_118.out
      have hnb110 := NB118_120.out
      have hnc110 := NB120_118.out
      have hnb111 := NB118_123.out
      have hnc111 := NB123_118.out
      obtain ⟨hcz112_0, hfz112_0⟩ := Yc1 BK118.out
      have hnb113 := NB123_119.out
      have hnc113 := NB119_123.out
      have hnb114 := NB123_120.out
      have hnc114 := NB120_123.out
      obtain ⟨hcz115_0, hfz115_0⟩ := Yc1 BK123.out
      obtain ⟨Ao116, co116, eo116⟩ := Kd.zcf HO_124000.out
      subst eo116
      have hnb117 := NB120_119.out
      have hnc117 := NB119_120.out
      obtain ⟨hcz118_0, hfz118_0⟩ := Yc1 BK120.out
      go_wp2
      refine bodyPost_ret (results_cell_row rfl _ _ gb120 24 #[.slice Ao116 x124000_2.length co116] (0, 0) _ rfl (by (with_reducible repeat (first | refine zae ?_ _ | refine zac ?_ | refine zad ?_ _)); refine zas (cs := #[.slice none 0 0]) ?_ 0 _ rfl; (with_reducible repeat (first | refine zae ?_ _ | refine zac ?_ | refine zad ?_ _)); exact BK120.out) Try.underlying24 rfl (by kernel_rfl)) rfl ?_
      exact ⟨_, by first | rfl | (simp [errW_none, errW_some] <;> rfl) | (simp [*, errW_none, errW_some] <;> rfl), by (with_reducible repeat (first | apply Kd.zc1 | apply Kd.R_drewN | apply Kd.zdj)); exact Kd.zbw (Kd.zeb (p := ⟨gb120, 0, none⟩) (Kd.zdn HO_124000.out BK120.out (by decide)) (fun _ hk => hk.2) (.slice Ao116 x124000_2.length co116)) (fun _ hk => trivial), Yb_PGssPushesx4_3⟩
def zbg.l0 : Nat → List Int → Int → Int → Option (List Int)
 | 0, _, _, _ => none
 | k + 1, x0, x1, x5 => if x5 < (x0.length : Int) then (if 0 ≤ x5 then (if (rd x0 x5) < x1 then (zbg.l0 k x0 x1 (wrap64 (x5 + 1))) else (if (rd x0 x5) = x1 then (some x0) else (if x5 ≤ (x0.length : Int) then ((some (x0.take (x5 : Int).toNat : List Int)).bind fun y144 => (if ([] : List Int).length + y144.length < 17592186044416 then ((some (([] : List Int) ++ y144 : List Int)).bind fun y149 => (if y149.length < 17592186044416 then ((some (y149 ++ [x1] : List Int)).bind fun y152 => ((some (x0.drop (x5 : Int).toNat : List Int)).bind fun y155 => (if y152.length + y155.length < 17592186044416 then (some (y152 ++ y155)) else (none)))) else (none))) else (none))) else (none)))) else (none)) else (if 0 ≤ x5 then (if x5 ≤ (x0.length : Int) then ((some (x0.take (x5 : Int).toNat : List Int)).bind fun y163 => (if ([] : List Int).length + y163.length < 17592186044416 then ((some (([] : List Int) ++ y163 : List Int)).bind fun y168 => (if y168.length < 17592186044416 then ((some (y168 ++ [x1] : List Int)).bind fun y171 => ((some (x0.drop (x5 : Int).toNat : List Int)).bind fun y174 => (if y171.length + y174.length < 17592186044416 then (some (y171 ++ y174)) else (none)))) else (none))) else (none))) else (none)) else (none))
def zbg.f (k : Nat) (l0 : List Int) (a1 : Int) : Option (List Int) := zbg.l0 k l0 a1 0
theorem zbg.calls (k : Nat) (P0_ : Nat → Prop) (A0 : Option Addr) (c0 : Nat) (l0 : List Int) (a1 : Int) (r : List Int) (w : World) (hs0 : Kd.V (Kd.int .i64) 3 w w.heap.size (fun k_ => P0_ k_) (.slice A0 l0.length c0) l0) (h : zbg.f k l0 a1 = some r) :
  Calls Try.prog 43 #[.slice A0 l0.length c0, .int .i64 a1] w fun e w' => ∃ v0_ : Value, e = .returned (v0_) ∧ Kd.V (Kd.int .i64) 3 w' w.heap.size (fun k_ => (P0_ k_ ∨ w.heap.size ≤ k_)) v0_ r ∧ Below w.heap.size w w' := by
 have HO0 := zab.mk (show Kd.V (Kd.int .i64) 3 w w.heap.size (fun k_ => (P0_ k_ ∨ w.heap.size ≤ k_)) (.slice A0 l0.length c0) l0 from Kd.zar hs0 (fun k_ hk => .inl hk))
 have HB := zab.mk (Below.refl w.heap.size w)
 have H : (zbg.l0 k l0 a1 0) = some r := h
 clear h
 have H' := zab.mk H
 clear H
 go_enter Try.func43, Try.ntmps43
 go_wp2
 go_loopg [5] k (fun kq v5 w' => ∃ (x5_1 : Int), v5 = .int .i64 x5_1 ∧ zab (zbg.l0 kq l0 a1 x5_1 = some r) ∧ zab (kq ≤ k) ∧ zab (Kd.V (Kd.int .i64) 3 w' w.heap.size (fun k_ => (P0_ k_ ∨ w.heap.size ≤ k_)) (.slice A0 l0.length c0) l0) ∧ zab (Below w.heap.size w w'))
 case atStart => exact ⟨(0), Yfs, H', ⟨Nat.le_refl _⟩, ⟨by (with_reducible repeat (first | apply Kd.V_alloc | apply Kd.zak | apply Kd.zam)); exact HO0.out⟩, ⟨Ybe⟩⟩
 case round =>
  clear H'
  obtain ⟨x5_1, rfl, HA, HK1, HO_0, HB⟩ := hrel
  cases gk with
  | zero => exact absurd HA.out (by simp [zbg.l0])
  | succ k1 =>
   have H := HA.out;clear HA
   simp only [zbg.l0] at H
   by_cases c3 : x5_1 < (l0.length : Int)
   ·rw [if_pos c3] at H
    have c3b0 := decide_eq_true c3
    clear c3
    by_cases c4 : 0 ≤ x5_1
    ·rw [if_pos c4] at H
     have c4b0 := decide_eq_true c4
     clear c4
     by_cases c5 : (rd l0 x5_1) < a1
     ·rw [if_pos c5] at H
      have c5b0 := decide_eq_true c5
      clear c5
      have H' := zab.mk H
      clear H
      have p142 : 0 ≤ (x5_1 : Int) := Yod
      have q142 : x5_1 < (l0.length : Int) := Yod
      obtain ⟨ad142, e142, hx142_0⟩ := Kd.zb1 (Kd.V_reads' HO_0.out).2.2 x5_1 p142 q142
      cases e142
      replace p142 := eq_true p142
      replace q142 := eq_true q142
      go_wp2
      go_roundg k1
      case measure => have := HK1.out; omega
      case rel => exact ⟨(wrap64 (x5_1 + 1)), Yfs, H', ⟨by have := HK1.out; omega⟩, ⟨by (with_reducible repeat (first | apply Kd.V_alloc | apply Kd.zak | apply Kd.zam)); exact HO_0.out⟩, ⟨Ybe⟩⟩
     ·rw [if_neg c5] at H
      have c5b0 := decide_eq_false c5
      clear c5
      by_cases c6 : (rd l0 x5_1) = a1
      ·rw [if_pos c6] at H
       have c6b0 : ((rd l0 x5_1) == a1) = true := beq_iff_eq.mpr c6
       have c6b1 : ((rd l0 x5_1) != a1) = false := bne_eq_false_iff_eq.mpr c6
       clear c6;obtain rfl := Option.some.inj H
       have p142 : 0 ≤ (x5_1 : Int) := Yod
       have q142 : x5_1 < (l0.length : Int) := Yod
       obtain ⟨ad142, e142, hx142_0⟩ := Kd.zb1 (Kd.V_reads' HO_0.out).2.2 x5_1 p142 q142
       cases e142
       replace p142 := eq_true p142
       replace q142 := eq_true q142
       have p143 : 0 ≤ (x5_1 : Int) := Yod
       have q143 : x5_1 < (l0.length : Int) := Yod
       obtain ⟨ad143, e143, hx143_0⟩ := Kd.zb1 (Kd.V_reads' HO_0.out).2.2 x5_1 p143 q143
       obtain rfl : ad142 = ad143 := (by injection e143)
       replace p143 := eq_true p143
       replace q143 := eq_true q143
       go_wp2;go_ret
       exact ⟨_, by first | rfl | (simp [errW_none, errW_some] <;> rfl) | (simp [*, errW_none, errW_some] <;> rfl), by (with_reducible repeat (first | apply Kd.V_alloc | apply Kd.zak | apply Kd.zam)); exact HO_0.out, Ybe⟩
      ·rw [if_neg c6] at H
       have c6b0 : ((rd l0 x5_1) == a1) = false := beq_eq_false_iff_ne.mpr c6
       have c6b1 : ((rd l0 x5_1) != a1) = true := bne_iff_ne.mpr c6
       have c7b0 := eq_true (of_decide_eq_true (by first | (with_reducible assumption) | assumption) : 0 ≤ x5_1)
       by_cases c8 : x5_1 ≤ (l0.length : Int)
       ·rw [if_pos c8] at H
        have c8b0 := eq_true c8
        have c8b1 := decide_eq_true c8
        clear c8
        obtain ⟨y144, hy144⟩ : ∃ y_ : List Int, y_ = (l0.take (x5_1 : Int).toNat) := ⟨_, rfl⟩
        replace H : (if ([] : List Int).length + y144.length < 17592186044416 then ((some (([] : List Int) ++ y144 : List Int)).bind fun y149 => (if y149.length < 17592186044416 then ((some (y149 ++ [a1] : List Int)).bind fun y152 => ((some (l0.drop (x5_1 : Int).toNat : List Int)).bind fun y155 => (if y152.length + y155.length < 17592186044416 then (some (y152 ++ y155)) else (none)))) else (none))) else (none)) = some r := by first | (rw [hy144]; with_reducible exact H) | (have H2_ := (Option.bind_some _ _).symm.trans H; rw [hy144]; with_reducible exact H2_) | (have H2_ := (Option.bind_some _ _).symm.trans H; with_reducible exact H2_) | with_reducible exact H | (rw [hy144]; exact H) | exact H
        have Ny144 := zab.mk hy144;clear hy144
        by_cases c9 : ([] : List Int).length + y144.length < 17592186044416
        ·rw [if_pos c9] at H
         have LMc9 := zab.mk c9;clear c9
         obtain ⟨y149, hy149⟩ : ∃ y_ : List Int, y_ = (([] : List Int) ++ y144) := ⟨_, rfl⟩
         replace H : (if y149.length < 17592186044416 then ((some (y149 ++ [a1] : List Int)).bind fun y152 => ((some (l0.drop (x5_1 : Int).toNat : List Int)).bind fun y155 => (if y152.length + y155.length < 17592186044416 then (some (y152 ++ y155)) else (none)))) else (none)) = some r := by first | (rw [hy149]; with_reducible exact H) | (have H2_ := (Option.bind_some _ _).symm.trans H; rw [hy149]; with_reducible exact H2_) | (have H2_ := (Option.bind_some _ _).symm.trans H; with_reducible exact H2_) | with_reducible exact H | (rw [hy149]; exact H) | exact H
         have Ny149 := zab.mk hy149;clear hy149
         by_cases c10 : y149.length < 17592186044416
         ·rw [if_pos c10] at H
          have LMc10 := zab.mk c10;clear c10
          obtain ⟨y152, hy152⟩ : ∃ y_ : List Int, y_ = (y149 ++ [a1]) := ⟨_, rfl⟩
          replace H : ((some (l0.drop (x5_1 : Int).toNat : List Int)).bind fun y155 => (if y152.length + y155.length < 17592186044416 then (some (y152 ++ y155)) else (none))) = some r := by first | (rw [hy152]; with_reducible exact H) | (have H2_ := (Option.bind_some _ _).symm.trans H; rw [hy152]; with_reducible exact H2_) | (have H2_ := (Option.bind_some _ _).symm.trans H; with_reducible exact H2_) | with_reducible exact H | (rw [hy152]; exact H) | exact H
          have Ny152 := zab.mk hy152;clear hy152
          have c11b0 := eq_true (of_decide_eq_true (by first | (with_reducible assumption) | assumption) : 0 ≤ x5_1)
          have c12b0 := eq_true (of_decide_eq_true (by first | (with_reducible assumption) | assumption) : x5_1 ≤ (l0.length : Int))
          obtain ⟨y155, hy155⟩ : ∃ y_ : List Int, y_ = (l0.drop (x5_1 : Int).toNat) := ⟨_, rfl⟩
          replace H : (if y152.length + y155.length < 17592186044416 then (some (y152 ++ y155)) else (none)) = some r := by first | (rw [hy155]; with_reducible exact H) | (have H2_ := (Option.bind_some _ _).symm.trans H; rw [hy155]; with_reducible exact H2_) | (have H2_ := (Option.bind_some _ _).symm.trans H; with_reducible exact H2_) | with_reducible exact H | (rw [hy155]; exact H) | exact H
          have Ny155 := zab.mk hy155;clear hy155
          by_cases c13 : y152.length + y155.length < 17592186044416
          ·rw [if_pos c13] at H
           have LMc13 := zab.mk c13;clear c13
           obtain ⟨y160, hy160⟩ : ∃ y_ : List Int, y_ = (y152 ++ y155) := ⟨_, rfl⟩
           replace H : (some y160) = some r := by first | (rw [hy160]; with_reducible exact H) | (have H2_ := (Option.bind_some _ _).symm.trans H; rw [hy160]; with_reducible exact H2_) | (have H2_ := (Option.bind_some _ _).symm.trans H; with_reducible exact H2_) | with_reducible exact H | (rw [hy160]; exact H) | exact H
           have Ny160 := zab.mk hy160;clear hy160;obtain rfl := Option.some.inj H
           have p142 : 0 ≤ (x5_1 : Int) := Yod
           have q142 : x5_1 < (l0.length : Int) := Yod
           obtain ⟨ad142, e142, hx142_0⟩ := Kd.zb1 (Kd.V_reads' HO_0.out).2.2 x5_1 p142 q142
           cases e142
           replace p142 := eq_true p142
           replace q142 := eq_true q142
           have p143 : 0 ≤ (x5_1 : Int) := Yod
           have q143 : x5_1 < (l0.length : Int) := Yod
           obtain ⟨ad143, e143, hx143_0⟩ := Kd.zb1 (Kd.V_reads' HO_0.out).2.2 x5_1 p143 q143
           obtain rfl : ad142 = ad143 := (by injection e143)
           replace p143 := eq_true p143
           replace q143 := eq_true q143
           have q14 : (x5_1 : Int) ≤ ((l0.length : Int) : Int) := Yod
           obtain ⟨i014, hi014, _, hsz14, _⟩ := info_parts info3
           have hroom14 : l0.length ≤ c0 := (Kd.V_reads' HO_0.out).2.1
           have hC14 : Kd.F (Kd.int .i64) _ _ (some ad142) l0.length l0 := (Kd.V_at (base := w.heap.size) HO_0.out).2.2
           have hcut14 := cut_to (P := Try.prog) 31 3 .i64 Try.underlying31 hi014 (some ad142) l0.length c0 x5_1 (of_decide_eq_true (by first | (with_reducible assumption) | assumption)) q14 hroom14
           have hr14 := Kd.F_take (m := (x5_1 : Int).toNat) hC14 (by omega)
           have hy14 : y144.length = (x5_1 : Int).toNat := (by rw [Ny144.out, List.length_take]; omega)
           rw [← Ny144.out] at hr14
           rw [← hy14] at hcut14
           have HO148 := zab.mk (show Kd.V (Kd.int .i64) 3 _ w.heap.size _ (.slice (some ad142) y144.length c0) y144 from Kd.V_mk (by omega) hr14)
           have HC148 := zab.mk (show y144.length ≤ c0 from by omega)
           clear hr14 hC14 hroom14 hi014 hsz14;have KY14 := zab.mk hy14;clear hy14
           replace q14 := eq_true q14
           go_wp2_with (first | ((with_reducible refine zca (b := .append) (xs := #[.tmp 34, .tmp 37]) rfl ?_); at_builtin; refine Kd.zc8 (Kd.int .i64) (w0 := w) w.heap.size rfl (.tmp 34) (.tmp 37) 31 3 (.int .i64 0) 8 rfl Try.underlying31 info3 rfl (by decide) (by omega) (.slice none 0 0) ([] : List Int) y144 _ _ _ (fun k_ => (w.heap.size ≤ k_)) (fun _ => False) rfl rfl ?aO ?aR (fun _ _ h => h) (fun _ h => h.elim) ?aF ?aB ?aS ?aL ?_; (case aR => repeat (first | exact (Kd.V_reads' HO148.out).2.2 | (with_reducible refine Kd.C_alloc ?_ _) | (with_reducible refine Kd.C_drewN ?_ _) | (with_reducible refine Kd.C_drew ?_))); (case aB => exact Ybe); (case aF => exact (fun k_ hk => (Nat.le_trans (za7 Ybe) hk))); (case aO => exact ((Kd.zef _ _ _ _ (fun k_ => (w.heap.size ≤ k_))))); (case aS => exact (za7 Ybe)); (case aL => have := LMc9.out; omega); intro v150 w15 ho hb hg hat; rw [← Ny149.out] at ho; replace HO_0 := zab.mk (Kd.zbu (Kd.zci (by (with_reducible repeat (first | apply Kd.V_alloc | apply Kd.zak | apply Kd.zam)); exact HO_0.out)) hg hat); replace HO148 := zab.mk (Kd.zbu (Kd.zci (by (with_reducible repeat (first | apply Kd.V_alloc | apply Kd.zak | apply Kd.zam)); exact HO148.out)) hg hat); replace HB := zab.mk (hb); have HO151 := zab.mk (ho); clear ho hb hg hat) | ((with_reducible refine zca (b := .append) (xs := #[.tmp 39, .tmp 41]) rfl ?_); at_builtin; refine Kd.zeg (Kd.int .i64) (w0 := w) w.heap.size rfl (.tmp 39) (.tmp 41) 31 3 (.int .i64 0) 8 rfl Try.underlying31 info3 rfl (by decide) (by omega) v150 y149 a1 [.int .i64 a1] (fun k_ => (w.heap.size ≤ k_)) (fun _ => False) rfl rfl ?aP (fun _ hk => hk.elim) ?aF ?aO ?aB ?aS ?aL ?_; (case aP => exact rfl); (case aB => exact Ybe); (case aF => exact (fun k_ hk => (Nat.le_trans (za7 Ybe) hk))); (case aO => exact (Yr HO151)); (case aS => exact (za7 Ybe)); (case aL => have := LMc10.out; omega); intro v153 w16 ho hb hg hat; rw [← Ny152.out] at ho; replace HO_0 := zab.mk (Kd.zbu (ok := (fun k_ => (P0_ k_ ∨ w.heap.size ≤ k_))) (by (with_reducible repeat (first | apply Kd.V_alloc | apply Kd.zak | apply Kd.zam)); exact HO_0.out) hg hat); replace HO148 := zab.mk (Kd.zbu (ok := (fun k_ => (P0_ k_ ∨ w.heap.size ≤ k_))) (by (with_reducible repeat (first | apply Kd.V_alloc | apply Kd.zak | apply Kd.zam)); exact HO148.out) hg hat); replace HB := zab.mk (hb); have HO154 := zab.mk (ho); clear HO151; clear ho hb hg hat; have q17 : (x5_1 : Int) ≤ ((l0.length : Int) : Int) := Yod; obtain ⟨i017, hi017, _, hsz17, _⟩ := info_parts info3; have hroom17 : l0.length ≤ c0 := (Kd.V_reads' HO_0.out).2.1; have hC17 : Kd.F (Kd.int .i64) _ _ (some ad142) l0.length l0 := (Kd.V_at (base := w.heap.size) HO_0.out).2.2; have q017 : (0 : Int) ≤ (x5_1 : Int) := Yod; have hcut17 := cut_from (P := Try.prog) 31 3 .i64 Try.underlying31 hi017 1 hsz17 (some ad142) l0.length c0 x5_1 q017 q17; have hr17 := Kd.F_cut (m := (x5_1 : Int).toNat) (c := c0) hC17 (by omega) hroom17; obtain ⟨A17, hA17⟩ : ∃ A1, A1 = (if c0 = (x5_1 : Int).toNat then (some ad142) else ((some ad142) : Option Addr).map (·.add ((x5_1 : Int).toNat * 1))) := ⟨_, rfl⟩; obtain ⟨c17, hc17⟩ : ∃ c1, c1 = c0 - (x5_1 : Int).toNat := ⟨_, rfl⟩; have hy17 : y155.length = l0.length - (x5_1 : Int).toNat := (by rw [Ny155.out, List.length_drop] <;> omega); rw [show (l0).drop (x5_1 : Int).toNat = y155 from Ny155.out.symm] at hr17; replace hr17 : Kd.F (Kd.int .i64) _ _ A17 y155.length y155 := (by rw [hA17]; exact hr17); rw [← hy17, ← hA17, ← hc17] at hcut17; have HO159 := zab.mk (show Kd.V (Kd.int .i64) 3 _ w.heap.size _ (.slice A17 y155.length c17) y155 from Kd.V_mk (by rw [hy17, hc17]; exact Nat.sub_le_sub_right hroom17 _) hr17); have HC159 := zab.mk (show y155.length ≤ c17 from by rw [hy17, hc17]; exact Nat.sub_le_sub_right hroom17 _); clear hr17 hC17 hroom17 hi017 hsz17 hc17; have KY17 := zab.mk hy17; have KA17 := zab.mk hA17; clear hy17 hA17; replace q17 := eq_true q17) | ((with_reducible refine zca (b := .append) (xs := #[.tmp 43, .tmp 46]) rfl ?_); at_builtin; refine Kd.zc8 (Kd.int .i64) (w0 := w) w.heap.size rfl (.tmp 43) (.tmp 46) 31 3 (.int .i64 0) 8 rfl Try.underlying31 info3 rfl (by decide) (by omega) v153 y152 y155 _ _ _ (fun k_ => (w.heap.size ≤ k_)) (fun _ => False) rfl rfl ?aO ?aR (fun _ _ h => h) (fun _ h => h.elim) ?aF ?aB ?aS ?aL ?_; (case aR => repeat (first | exact (Kd.V_reads' HO159.out).2.2 | (with_reducible refine Kd.C_alloc ?_ _) | (with_reducible refine Kd.C_drewN ?_ _) | (with_reducible refine Kd.C_drew ?_))); (case aB => exact Ybe); (case aF => exact (fun k_ hk => (Nat.le_trans (za7 Ybe) hk))); (case aO => exact (Yr HO154)); (case aS => exact (za7 Ybe)); (case aL => have := LMc13.out; omega); intro v161 w18 ho hb hg hat; rw [← Ny160.out] at ho; replace HO_0 := zab.mk (Kd.zbu (ok := (fun k_ => (P0_ k_ ∨ w.heap.size ≤ k_))) (by (with_reducible repeat (first | apply Kd.V_alloc | apply Kd.zak | apply Kd.zam)); exact HO_0.out) hg hat); replace HO148 := zab.mk (Kd.zbu (ok := (fun k_ => (P0_ k_ ∨ w.heap.size ≤ k_))) (by (with_reducible repeat (first | apply Kd.V_alloc | apply Kd.zak | apply Kd.zam)); exact HO148.out) hg hat); replace HO159 := zab.mk (Kd.zbu (ok := (fun k_ => (P0_ k_ ∨ w.heap.size ≤ k_))) (by (with_reducible repeat (first | apply Kd.V_alloc | apply Kd.zak | apply Kd.zam)); exact HO159.out) hg hat); replace HB := zab.mk (hb); have HO162 := zab.mk (ho); clear HO154; clear ho hb hg hat))
           go_ret
           exact ⟨_, by first | rfl | (simp [errW_none, errW_some] <;> rfl) | (simp [*, errW_none, errW_some] <;> rfl), Kd.zar (Kd.R_V (Yr HO162)) (fun k_ hk => by first | exact ⟨(.inr (hk.1)), hk.2⟩ | exact (.inr (hk))), Ybe⟩
          ·rw [if_neg c13] at H
           exact absurd H (by simp)
         ·rw [if_neg c10] at H
          exact absurd H (by simp)
        ·rw [if_neg c9] at H
         exact absurd H (by simp)
       ·rw [if_neg c8] at H
        exact absurd H (by simp)
    ·rw [if_neg c4] at H
     exact absurd H (by simp)
   ·rw [if_neg c3] at H
    have c3b0 := decide_eq_false c3
    clear c3
    by_cases c19 : 0 ≤ x5_1
    ·rw [if_pos c19] at H
     have c19b0 := eq_true c19
     have c19b1 := decide_eq_true c19
     clear c19
     by_cases c20 : x5_1 ≤ (l0.length : Int)
     ·rw [if_pos c20] at H
      have c20b0 := eq_true c20
      have c20b1 := decide_eq_true c20
      clear c20
      obtain ⟨y163, hy163⟩ : ∃ y_ : List Int, y_ = (l0.take (x5_1 : Int).toNat) := ⟨_, rfl⟩
      replace H : (if ([] : List Int).length + y163.length < 17592186044416 then ((some (([] : List Int) ++ y163 : List Int)).bind fun y168 => (if y168.length < 17592186044416 then ((some (y168 ++ [a1] : List Int)).bind fun y171 => ((some (l0.drop (x5_1 : Int).toNat : List Int)).bind fun y174 => (if y171.length + y174.length < 17592186044416 then (some (y171 ++ y174)) else (none)))) else (none))) else (none)) = some r := by first | (rw [hy163]; with_reducible exact H) | (have H2_ := (Option.bind_some _ _).symm.trans H; rw [hy163]; with_reducible exact H2_) | (have H2_ := (Option.bind_some _ _).symm.trans H; with_reducible exact H2_) | with_reducible exact H | (rw [hy163]; exact H) | exact H
      have Ny163 := zab.mk hy163;clear hy163
      by_cases c21 : ([] : List Int).length + y163.length < 17592186044416
      ·rw [if_pos c21] at H
       have LMc21 := zab.mk c21;clear c21
       obtain ⟨y168, hy168⟩ : ∃ y_ : List Int, y_ = (([] : List Int) ++ y163) := ⟨_, rfl⟩
       replace H : (if y168.length < 17592186044416 then ((some (y168 ++ [a1] : List Int)).bind fun y171 => ((some (l0.drop (x5_1 : Int).toNat : List Int)).bind fun y174 => (if y171.length + y174.length < 17592186044416 then (some (y171 ++ y174)) else (none)))) else (none)) = some r := by first | (rw [hy168]; with_reducible exact H) | (have H2_ := (Option.bind_some _ _).symm.trans H; rw [hy168]; with_reducible exact H2_) | (have H2_ := (Option.bind_some _ _).symm.trans H; with_reducible exact H2_) | with_reducible exact H | (rw [hy168]; exact H) | exact H
       have Ny168 := zab.mk hy168;clear hy168
       by_cases c22 : y168.length < 17592186044416
       ·rw [if_pos c22] at H
        have LMc22 := zab.mk c22;clear c22
        obtain ⟨y171, hy171⟩ : ∃ y_ : List Int, y_ = (y168 ++ [a1]) := ⟨_, rfl⟩
        replace H : ((some (l0.drop (x5_1 : Int).toNat : List Int)).bind fun y174 => (if y171.length + y174.length < 17592186044416 then (some (y171 ++ y174)) else (none))) = some r := by first | (rw [hy171]; with_reducible exact H) | (have H2_ := (Option.bind_some _ _).symm.trans H; rw [hy171]; with_reducible exact H2_) | (have H2_ := (Option.bind_some _ _).symm.trans H; with_reducible exact H2_) | with_reducible exact H | (rw [hy171]; exact H) | exact H
        have Ny171 := zab.mk hy171;clear hy171
        have c23b0 := eq_true (of_decide_eq_true (by first | (with_reducible assumption) | assumption) : 0 ≤ x5_1)
        have c24b0 := eq_true (of_decide_eq_true (by first | (with_reducible assumption) | assumption) : x5_1 ≤ (l0.length : Int))
        obtain ⟨y174, hy174⟩ : ∃ y_ : List Int, y_ = (l0.drop (x5_1 : Int).toNat) := ⟨_, rfl⟩
        replace H : (if y171.length + y174.length < 17592186044416 then (some (y171 ++ y174)) else (none)) = some r := by first | (rw [hy174]; with_reducible exact H) | (have H2_ := (Option.bind_some _ _).symm.trans H; rw [hy174]; with_reducible exact H2_) | (have H2_ := (Option.bind_some _ _).symm.trans H; with_reducible exact H2_) | with_reducible exact H | (rw [hy174]; exact H) | exact H
        have Ny174 := zab.mk hy174;clear hy174
        by_cases c25 : y171.length + y174.length < 17592186044416
        ·rw [if_pos c25] at H
         have LMc25 := zab.mk c25;clear c25
         obtain ⟨y179, hy179⟩ : ∃ y_ : List Int, y_ = (y171 ++ y174) := ⟨_, rfl⟩
         replace H : (some y179) = some r := by first | (rw [hy179]; with_reducible exact H) | (have H2_ := (Option.bind_some _ _).symm.trans H; rw [hy179]; with_reducible exact H2_) | (have H2_ := (Option.bind_some _ _).symm.trans H; with_reducible exact H2_) | with_reducible exact H | (rw [hy179]; exact H) | exact H
         have Ny179 := zab.mk hy179;clear hy179;obtain rfl := Option.some.inj H
         have q26 : (x5_1 : Int) ≤ ((l0.length : Int) : Int) := Yod
         obtain ⟨i026, hi026, _, hsz26, _⟩ := info_parts info3
         have hroom26 : l0.length ≤ c0 := (Kd.V_reads' HO_0.out).2.1
         have hC26 : Kd.F (Kd.int .i64) _ _ A0 l0.length l0 := (Kd.V_at (base := w.heap.size) HO_0.out).2.2
         have hcut26 := cut_to (P := Try.prog) 31 3 .i64 Try.underlying31 hi026 A0 l0.length c0 x5_1 (of_decide_eq_true (by first | (with_reducible assumption) | assumption)) q26 hroom26
         have hr26 := Kd.F_take (m := (x5_1 : Int).toNat) hC26 (by omega)
         have hy26 : y163.length = (x5_1 : Int).toNat := (by rw [Ny163.out, List.length_take]; omega)
         rw [← Ny163.out] at hr26
         rw [← hy26] at hcut26
         have HO167 := zab.mk (show Kd.V (Kd.int .i64) 3 _ w.heap.size _ (.slice A0 y163.length c0) y163 from Kd.V_mk (by omega) hr26)
         have HC167 := zab.mk (show y163.length ≤ c0 from by omega)
         clear hr26 hC26 hroom26 hi026 hsz26;have KY26 := zab.mk hy26;clear hy26
         replace q26 := eq_true q26
         go_wp2_with (first | ((with_reducible refine zca (b := .append) (xs := #[.tmp 34, .tmp 37]) rfl ?_); at_builtin; refine Kd.zc8 (Kd.int .i64) (w0 := w) w.heap.size rfl (.tmp 34) (.tmp 37) 31 3 (.int .i64 0) 8 rfl Try.underlying31 info3 rfl (by decide) (by omega) (.slice none 0 0) ([] : List Int) y163 _ _ _ (fun k_ => (w.heap.size ≤ k_)) (fun _ => False) rfl rfl ?aO ?aR (fun _ _ h => h) (fun _ h => h.elim) ?aF ?aB ?aS ?aL ?_; (case aR => repeat (first | exact (Kd.V_reads' HO167.out).2.2 | (with_reducible refine Kd.C_alloc ?_ _) | (with_reducible refine Kd.C_drewN ?_ _) | (with_reducible refine Kd.C_drew ?_))); (case aB => exact Ybe); (case aF => exact (fun k_ hk => (Nat.le_trans (za7 Ybe) hk))); (case aO => exact ((Kd.zef _ _ _ _ (fun k_ => (w.heap.size ≤ k_))))); (case aS => exact (za7 Ybe)); (case aL => have := LMc21.out; omega); intro v169 w27 ho hb hg hat; rw [← Ny168.out] at ho; replace HO_0 := zab.mk (Kd.zbu (Kd.zci (by (with_reducible repeat (first | apply Kd.V_alloc | apply Kd.zak | apply Kd.zam)); exact HO_0.out)) hg hat); replace HO167 := zab.mk (Kd.zbu (Kd.zci (by (with_reducible repeat (first | apply Kd.V_alloc | apply Kd.zak | apply Kd.zam)); exact HO167.out)) hg hat); replace HB := zab.mk (hb); have HO170 := zab.mk (ho); clear ho hb hg hat) | ((with_reducible refine zca (b := .append) (xs := #[.tmp 39, .tmp 41]) rfl ?_); at_builtin; refine Kd.zeg (Kd.int .i64) (w0 := w) w.heap.size rfl (.tmp 39) (.tmp 41) 31 3 (.int .i64 0) 8 rfl Try.underlying31 info3 rfl (by decide) (by omega) v169 y168 a1 [.int .i64 a1] (fun k_ => (w.heap.size ≤ k_)) (fun _ => False) rfl rfl ?aP (fun _ hk => hk.elim) ?aF ?aO ?aB ?aS ?aL ?_; (case aP => exact rfl); (case aB => exact Ybe); (case aF => exact (fun k_ hk => (Nat.le_trans (za7 Ybe) hk))); (case aO => exact (Yr HO170)); (case aS => exact (za7 Ybe)); (case aL => have := LMc22.out; omega); intro v172 w28 ho hb hg hat; rw [← Ny171.out] at ho; replace HO_0 := zab.mk (Kd.zbu (ok := (fun k_ => (P0_ k_ ∨ w.heap.size ≤ k_))) (by (with_reducible repeat (first | apply Kd.V_alloc | apply Kd.zak | apply Kd.zam)); exact HO_0.out) hg hat); replace HO167 := zab.mk (Kd.zbu (ok := (fun k_ => (P0_ k_ ∨ w.heap.size ≤ k_))) (by (with_reducible repeat (first | apply Kd.V_alloc | apply Kd.zak | apply Kd.zam)); exact HO167.out) hg hat); replace HB := zab.mk (hb); have HO173 := zab.mk (ho); clear HO170; clear ho hb hg hat; have q29 : (x5_1 : Int) ≤ ((l0.length : Int) : Int) := Yod; obtain ⟨i029, hi029, _, hsz29, _⟩ := info_parts info3; have hroom29 : l0.length ≤ c0 := (Kd.V_reads' HO_0.out).2.1; have hC29 : Kd.F (Kd.int .i64) _ _ A0 l0.length l0 := (Kd.V_at (base := w.heap.size) HO_0.out).2.2; have q029 : (0 : Int) ≤ (x5_1 : Int) := Yod; have hcut29 := cut_from (P := Try.prog) 31 3 .i64 Try.underlying31 hi029 1 hsz29 A0 l0.length c0 x5_1 q029 q29; have hr29 := Kd.F_cut (m := (x5_1 : Int).toNat) (c := c0) hC29 (by omega) hroom29; obtain ⟨A29, hA29⟩ : ∃ A1, A1 = (if c0 = (x5_1 : Int).toNat then A0 else (A0 : Option Addr).map (·.add ((x5_1 : Int).toNat * 1))) := ⟨_, rfl⟩; obtain ⟨c29, hc29⟩ : ∃ c1, c1 = c0 - (x5_1 : Int).toNat := ⟨_, rfl⟩; have hy29 : y174.length = l0.length - (x5_1 : Int).toNat := (by rw [Ny174.out, List.length_drop] <;> omega); rw [show (l0).drop (x5_1 : Int).toNat = y174 from Ny174.out.symm] at hr29; replace hr29 : Kd.F (Kd.int .i64) _ _ A29 y174.length y174 := (by rw [hA29]; exact hr29); rw [← hy29, ← hA29, ← hc29] at hcut29; have HO178 := zab.mk (show Kd.V (Kd.int .i64) 3 _ w.heap.size _ (.slice A29 y174.length c29) y174 from Kd.V_mk (by rw [hy29, hc29]; exact Nat.sub_le_sub_right hroom29 _) hr29); have HC178 := zab.mk (show y174.length ≤ c29 from by rw [hy29, hc29]; exact Nat.sub_le_sub_right hroom29 _); clear hr29 hC29 hroom29 hi029 hsz29 hc29; have KY29 := zab.mk hy29; have KA29 := zab.mk hA29; clear hy29 hA29; replace q29 := eq_true q29) | ((with_reducible refine zca (b := .append) (xs := #[.tmp 43, .tmp 46]) rfl ?_); at_builtin; refine Kd.zc8 (Kd.int .i64) (w0 := w) w.heap.size rfl (.tmp 43) (.tmp 46) 31 3 (.int .i64 0) 8 rfl Try.underlying31 info3 rfl (by decide) (by omega) v172 y171 y174 _ _ _ (fun k_ => (w.heap.size ≤ k_)) (fun _ => False) rfl rfl ?aO ?aR (fun _ _ h => h) (fun _ h => h.elim) ?aF ?aB ?aS ?aL ?_; (case aR => repeat (first | exact (Kd.V_reads' HO178.out).2.2 | (with_reducible refine Kd.C_alloc ?_ _) | (with_reducible refine Kd.C_drewN ?_ _) | (with_reducible refine Kd.C_drew ?_))); (case aB => exact Ybe); (case aF => exact (fun k_ hk => (Nat.le_trans (za7 Ybe) hk))); (case aO => exact (Yr HO173)); (case aS => exact (za7 Ybe)); (case aL => have := LMc25.out; omega); intro v180 w30 ho hb hg hat; rw [← Ny179.out] at ho; replace HO_0 := zab.mk (Kd.zbu (ok := (fun k_ => (P0_ k_ ∨ w.heap.size ≤ k_))) (by (with_reducible repeat (first | apply Kd.V_alloc | apply Kd.zak | apply Kd.zam)); exact HO_0.out) hg hat); replace HO167 := zab.mk (Kd.zbu (ok := (fun k_ => (P0_ k_ ∨ w.heap.size ≤ k_))) (by (with_reducible repeat (first | apply Kd.V_alloc | apply Kd.zak | apply Kd.zam)); exact HO167.out) hg hat); replace HO178 := zab.mk (Kd.zbu (ok := (fun k_ => (P0_ k_ ∨ w.heap.size ≤ k_))) (by (with_reducible repeat (first | apply Kd.V_alloc | apply Kd.zak | apply Kd.zam)); exact HO178.out) hg hat); replace HB := zab.mk (hb); have HO181 := zab.mk (ho); clear HO173; clear ho hb hg hat))
         go_ret
         exact ⟨_, by first | rfl | (simp [errW_none, errW_some] <;> rfl) | (simp [*, errW_none, errW_some] <;> rfl), Kd.zar (Kd.R_V (Yr HO181)) (fun k_ hk => by first | exact ⟨(.inr (hk.1)), hk.2⟩ | exact (.inr (hk))), Ybe⟩
        ·rw [if_neg c25] at H
         exact absurd H (by simp)
       ·rw [if_neg c22] at H
        exact absurd H (by simp)
      ·rw [if_neg c21] at H
       exact absurd H (by simp)
     ·rw [if_neg c20] at H
      exact absurd H (by simp)
    ·rw [if_neg c19] at H
     exact absurd H (by simp)
end Go.Proofs.ZZ.PGssPushes
end
