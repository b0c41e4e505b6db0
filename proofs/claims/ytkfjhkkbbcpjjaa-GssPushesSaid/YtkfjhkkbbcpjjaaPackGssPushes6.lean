import Derived.ChangeArms
import Derived.DataReads
import Derived.DataElems
import Derived.SizedLaws
import Derived.Carry
import Derived.WideShapes
import Derived.Test.YtkfjhkkbbcpjjaaRows
import Derived.WalkKit
import Derived.ProofKit
import Derived.OpenShut
import Derived.ShutString
import Derived.ChangeOld
import Derived.Below
import Derived.Test.YtkfjhkkbbcpjjaaPackGssPushes5
set_option linter.unusedVariables false
set_option linter.unusedSimpArgs false
set_option maxRecDepth 100000
set_option maxHeartbeats 8000000
section
namespace Go.Proofs.ZZ.PGssPushes
open Go.RowKit Go.Proofs.ZW.PrintWords Go.Proofs.ZW.PrintLast Go.Proofs.ZW.PrintMore
attribute [local go_sem] zch zct
theorem Yb_PGssPushesx9_0 {n : Nat} {w w' : World} (h : Below n w w' := by repeat (first | (with_reducible first | exact HB.out | apply za8 | apply za2 | apply zav | refine zau ?_ GE238.out) | exact HB.out)) : Below n w w' := h
theorem Yb_PGssPushesx9_1 {n : Nat} {w w' : World} (h : Below n w w' := by repeat (first | (with_reducible first | exact HB.out | apply za8 | apply za2 | apply zav | refine zau ?_ GE238.out | refine zau ?_ GE239.out) | exact HB.out)) : Below n w w' := h
theorem Yb_PGssPushesx9_2 {n : Nat} {w w' : World} (h : Below n w w' := by repeat (first | (with_reducible first | exact HB.out | apply za8 | apply za2 | apply zav | refine zau ?_ GE238.out | refine zau ?_ GE239.out | refine zau ?_ GE250.out) | exact HB.out)) : Below n w w' := h
theorem Yb_PGssPushesx9_3 {n : Nat} {w w' : World} (h : Below n w w' := by repeat (first | (with_reducible first | exact HB.out | apply za8 | apply za2 | apply zav | refine zau ?_ GE238.out | refine zau ?_ GE239.out | refine zau ?_ GE250.out | refine zau ?_ GE256.out) | exact HB.out)) : Below n w w' := h
def zao.j0 : Nat → Int → Int → Int → Bool → List (S38) → List (S38) → Option (Bool)
 | 0, _, _, _, _, _, _ => none
 | k + 1, x2, x3, x4, x34, x239000, x240000 => if x34 = true then ((zbk.f).bind fun t244 => (some t244)) else ((zc9.f x239000 x2 x3 x4).bind fun bt245 => ((zaq.f k x239000 x2 x3 x4).bind fun bt251 => ((zay.f k bt245.1 bt251.1).bind fun t257 => (if t257 = true then (if bt245.2.1 = bt251.2.1 then (if (bt245.2.2 == bt251.2.2) = true then ((zcs.f x239000 x240000).bind fun t258 => ((zan.f k x239000 x240000).bind fun t261 => ((zay.f k t258 t261).bind fun t264 => (if t264 = true then ((zbk.f).bind fun t265 => (some t265)) else (some false))))) else (some false)) else (some false)) else (some false)))))
def zao.f (k : Nat) (l0_0 : List (S38)) (l1_0 : List (S38)) (a2 : Int) (a3 : Int) (a4 : Int) : Option (Bool) := (za9.f k l0_0).bind fun t240 => (if t240 = true then ((za9.f k l1_0).bind fun t241 => (if t241 = true then ((zah.f k l0_0).bind fun t242 => (if t242 = true then ((zah.f k l1_0).bind fun t243 => (zao.j0 k a2 a3 a4 (!t243) l0_0 l1_0)) else (zao.j0 k a2 a3 a4 true l0_0 l1_0))) else (zao.j0 k a2 a3 a4 true l0_0 l1_0))) else (zao.j0 k a2 a3 a4 true l0_0 l1_0))
def zao.T5 : Bool × List (List Nat × List Nat) := (true, [([], []), ([], []), ([0, 1], [0, 1]), ([2, 2], [2]), ([3], [3]), ([3], [3]), ([4, 5, 3], [3, 4, 5]), ([3, 6], [3, 6]), ([7, 3], [7]), ([8], [8]), ([8], [8]), ([9, 10, 8], [8, 9, 10]), ([8, 11], [8, 11]), ([12, 8], [12]), ([13], [13]), ([13], [13]), ([14, 15, 13, 13], [13, 14, 15]), ([13], [13]), ([13], [13]), ([17, 18, 16, 13], [13, 17, 18]), ([16, 19, 19, 13], [13, 16, 19]), ([13, 20], [13, 20]), ([21, 20], [21]), ([22, 22], [22]), ([22, 23], [22, 23]), ([24, 23, 0, 1, 2, 3, 4, 5, 6, 7, 8, 9, 10, 11, 12, 13, 14, 15, 16, 17, 18, 19, 20, 21, 22, 23, 24], [24])])
def zao.B5 : List Nat := [0, 0, 3, 7, 15, 15, 63, 127, 255, 511, 511, 2047, 4095, 8191, 16383, 16383, 65535, 16383, 16383, 524287, 1048575, 2097151, 4194303, 8388607, 16777215, 33554431]
theorem zao.tab5 : rtab .any (opsOf Try.f4 5) = zao.T5 := by kernel_rfl
theorem zao.bits5 : zc4 zao.T5.2 zao.B5 = true := by kernel_rfl
theorem zao.calls (k : Nat) (A0_0 : Option Addr) (c0_0 : Nat) (l0_0 : List (S38)) (A1_0 : Option Addr) (c1_0 : Nat) (l1_0 : List (S38)) (a2 : Int) (a3 : Int) (a4 : Int) (r : Bool) (w : World) (hr0_0 : Kd.C k38 w A0_0 l0_0.length l0_0) (hc0_0 : l0_0.length ≤ c0_0) (hr1_0 : Kd.C k38 w A1_0 l1_0.length l1_0) (hc1_0 : l1_0.length ≤ c1_0) (h : zao.f k l0_0 l1_0 a2 a3 a4 = some r) :
  Calls Try.prog 4 #[.agg #[.slice A0_0 l0_0.length c0_0], .agg #[.slice A1_0 l1_0.length c1_0], .int .i64 a2, .int .i64 a3, .int .i64 a4] w fun e w' => e = .returned (.bool r) ∧ Below w.heap.size w w' := by
 have hu24 := Try.underlying24
 have HR0_0 := zab.mk hr0_0;have HC0_0 := zab.mk hc0_0;clear hr0_0 hc0_0;have HR1_0 := zab.mk hr1_0;have HC1_0 := zab.mk hc1_0;clear hr1_0 hc1_0
 have HB := zab.mk (Below.refl w.heap.size w)
 have H : ((za9.f k l0_0).bind fun t240 => (if t240 = true then ((za9.f k l1_0).bind fun t241 => (if t241 = true then ((zah.f k l0_0).bind fun t242 => (if t242 = true then ((zah.f k l1_0).bind fun t243 => (zao.j0 k a2 a3 a4 (!t243) l0_0 l1_0)) else (zao.j0 k a2 a3 a4 true l0_0 l1_0))) else (zao.j0 k a2 a3 a4 true l0_0 l1_0))) else (zao.j0 k a2 a3 a4 true l0_0 l1_0))) = some r := h
 clear h;have HC6 := zab.mk H;clear H
 go_enter Try.func4, Try.ntmps4
 go_upto_region 1 with (first | ((with_reducible refine zbb (N := 5) rfl ?_); refine Ybx 5 #[.slice A0_0 l0_0.length c0_0] 24 ?_; intro gb238 hg w7 hbox hb; obtain ⟨BK238, GW238, GE238, HB⟩ := Yb4 hbox hg hb Ybe; clear hb hbox hg) | ((with_reducible refine zbb (N := 6) rfl ?_); refine Ybx 6 #[.slice A1_0 l1_0.length c1_0] 24 ?_; intro gb239 hg w8 hbox hb; obtain ⟨BK239, GW239, GE239, HB⟩ := Yb4 hbox hg hb Yb_PGssPushesx9_0; have NB238_239 := Ynl BK238 hg; have NB239_238 := Yng BK238 hg; replace BK238 := Ykb BK238 hb; clear hb hbox hg))
 (try simp only [Act.put, Y1, Y2, Y3])
 go_cut [34] (fun v34 wc => ∃ (kq : Nat) (x34_5 : Bool), v34 = .bool x34_5 ∧ zab (zao.j0 kq a2 a3 a4 x34_5 l0_0 l1_0 = some r) ∧ zab (kq ≤ k) ∧ zab (wc.heap[gb238]? = some (.cells #[(.slice A0_0 l0_0.length c0_0)] 24 (0, 0))) ∧ zab (wc.heap[gb239]? = some (.cells #[(.slice A1_0 l1_0.length c1_0)] 24 (0, 0))) ∧ zab (Below w.heap.size w wc))
 case first =>
  have H := HC6.out;clear HC6;replace H := Option.bind_eq_some_iff.mp H
  obtain ⟨t240, A90, H⟩ := H
  replace H : (if t240 = true then ((za9.f k l1_0).bind fun t241 => (if t241 = true then ((zah.f k l0_0).bind fun t242 => (if t242 = true then ((zah.f k l1_0).bind fun t243 => (zao.j0 k a2 a3 a4 (!t243) l0_0 l1_0)) else (zao.j0 k a2 a3 a4 true l0_0 l1_0))) else (zao.j0 k a2 a3 a4 true l0_0 l1_0))) else (zao.j0 k a2 a3 a4 true l0_0 l1_0)) = some r := H
  have A9 := zab.mk A90;clear A90
  by_cases c10 : t240 = true
  ·subst c10
   have H1 : ((za9.f k l1_0).bind fun t241 => (if t241 = true then ((zah.f k l0_0).bind fun t242 => (if t242 = true then ((zah.f k l1_0).bind fun t243 => (zao.j0 k a2 a3 a4 (!t243) l0_0 l1_0)) else (zao.j0 k a2 a3 a4 true l0_0 l1_0))) else (zao.j0 k a2 a3 a4 true l0_0 l1_0))) = some r := by rw [if_pos rfl] at H; exact H
   clear H;have H := H1;clear H1;replace H := Option.bind_eq_some_iff.mp H
   obtain ⟨t241, A110, H⟩ := H
   replace H : (if t241 = true then ((zah.f k l0_0).bind fun t242 => (if t242 = true then ((zah.f k l1_0).bind fun t243 => (zao.j0 k a2 a3 a4 (!t243) l0_0 l1_0)) else (zao.j0 k a2 a3 a4 true l0_0 l1_0))) else (zao.j0 k a2 a3 a4 true l0_0 l1_0)) = some r := H
   have A11 := zab.mk A110;clear A110
   by_cases c12 : t241 = true
   ·subst c12
    have H1 : ((zah.f k l0_0).bind fun t242 => (if t242 = true then ((zah.f k l1_0).bind fun t243 => (zao.j0 k a2 a3 a4 (!t243) l0_0 l1_0)) else (zao.j0 k a2 a3 a4 true l0_0 l1_0))) = some r := by rw [if_pos rfl] at H; exact H
    clear H;have H := H1;clear H1;replace H := Option.bind_eq_some_iff.mp H
    obtain ⟨t242, A130, H⟩ := H
    replace H : (if t242 = true then ((zah.f k l1_0).bind fun t243 => (zao.j0 k a2 a3 a4 (!t243) l0_0 l1_0)) else (zao.j0 k a2 a3 a4 true l0_0 l1_0)) = some r := H
    have A13 := zab.mk A130;clear A130
    by_cases c14 : t242 = true
    ·subst c14
     have H1 : ((zah.f k l1_0).bind fun t243 => (zao.j0 k a2 a3 a4 (!t243) l0_0 l1_0)) = some r := by rw [if_pos rfl] at H; exact H
     clear H;have H := H1;clear H1;replace H := Option.bind_eq_some_iff.mp H
     obtain ⟨t243, A150, H⟩ := H
     replace H : (zao.j0 k a2 a3 a4 (!t243) l0_0 l1_0) = some r := H
     have A15 := zab.mk A150;clear A150
     have H' := zab.mk H
     clear H
     have hnb16 := NB238_239.out
     have hnc16 := NB239_238.out
     obtain ⟨hcz17_0, hfz17_0⟩ := Yc1 BK238.out
     go_wp2_with (first | ((with_reducible refine za6 (f := 7) rfl ?_); refine Ygl (some 18) Try.func7 #[.agg #[.slice A0_0 l0_0.length c0_0]] ?_; (with_reducible refine (za9.calls k _ _ l0_0 true _ (Kd.za4 HR0_0.out Ybe) HC0_0.out A9.out).mono ?_); rintro e w18 ⟨rfl, hb⟩; refine ⟨_, rfl, ?_⟩; replace BK238 := Ykb BK238 hb; replace BK239 := Ykb BK239 hb; replace HB := zab.mk (za1 Yb_PGssPushesx9_1 hb); (try clear hb); (try clear hb2); (try clear hk); (try clear hi); obtain ⟨hcz19_0, hfz19_0⟩ := Yc1 BK239.out) | (go_at_call 7; (with_reducible refine (za9.calls k _ _ l1_0 true _ (Kd.za4 HR1_0.out Ybe) HC1_0.out A11.out).mono ?_); rintro e w20 ⟨rfl, hb⟩; replace BK238 := Ykb BK238 hb; replace BK239 := Ykb BK239 hb; replace HB := zab.mk (za1 Yb_PGssPushesx9_1 hb); (try clear hb); (try clear hb2); (try clear hk); (try clear hi); obtain ⟨hcz21_0, hfz21_0⟩ := Yc1 BK238.out) | (go_at_call 8; (with_reducible refine (zah.calls k _ _ l0_0 true _ (Kd.za4 HR0_0.out Ybe) HC0_0.out A13.out).mono ?_); rintro e w22 ⟨rfl, hb⟩; replace BK238 := Ykb BK238 hb; replace BK239 := Ykb BK239 hb; replace HB := zab.mk (za1 Yb_PGssPushesx9_1 hb); (try clear hb); (try clear hb2); (try clear hk); (try clear hi); obtain ⟨hcz23_0, hfz23_0⟩ := Yc1 BK239.out) | (go_at_call 8; (with_reducible refine (zah.calls k _ _ l1_0 t243 _ (Kd.za4 HR1_0.out Ybe) HC1_0.out A15.out).mono ?_); rintro e w24 ⟨rfl, hb⟩; replace BK238 := Ykb BK238 hb; replace BK239 := Ykb BK239 hb; replace HB := zab.mk (za1 Yb_PGssPushesx9_1 hb); (try clear hb); (try clear hb2); (try clear hk); (try clear hi)))
     go_meet
     case rel => exact ⟨_, (!t243), Yfs, H', ⟨by first | omega | exact Nat.le_refl _⟩, ⟨Yg BK238⟩, ⟨Yg BK239⟩, ⟨Yb_PGssPushesx9_1⟩⟩
    ·replace c14 := Bool.eq_false_iff.mpr c14
     subst c14
     have H1 : (zao.j0 k a2 a3 a4 true l0_0 l1_0) = some r := by rw [if_neg (show ¬ (false = true) by decide)] at H; exact H
     clear H;have H := H1;clear H1
     have H' := zab.mk H
     clear H
     have hnb25 := NB238_239.out
     have hnc25 := NB239_238.out
     obtain ⟨hcz26_0, hfz26_0⟩ := Yc1 BK238.out
     go_wp2_with (first | ((with_reducible refine za6 (f := 7) rfl ?_); refine Ygl (some 18) Try.func7 #[.agg #[.slice A0_0 l0_0.length c0_0]] ?_; (with_reducible refine (za9.calls k _ _ l0_0 true _ (Kd.za4 HR0_0.out Ybe) HC0_0.out A9.out).mono ?_); rintro e w27 ⟨rfl, hb⟩; refine ⟨_, rfl, ?_⟩; replace BK238 := Ykb BK238 hb; replace BK239 := Ykb BK239 hb; replace HB := zab.mk (za1 Yb_PGssPushesx9_1 hb); (try clear hb); (try clear hb2); (try clear hk); (try clear hi); obtain ⟨hcz28_0, hfz28_0⟩ := Yc1 BK239.out) | (go_at_call 7; (with_reducible refine (za9.calls k _ _ l1_0 true _ (Kd.za4 HR1_0.out Ybe) HC1_0.out A11.out).mono ?_); rintro e w29 ⟨rfl, hb⟩; replace BK238 := Ykb BK238 hb; replace BK239 := Ykb BK239 hb; replace HB := zab.mk (za1 Yb_PGssPushesx9_1 hb); (try clear hb); (try clear hb2); (try clear hk); (try clear hi); obtain ⟨hcz30_0, hfz30_0⟩ := Yc1 BK238.out) | (go_at_call 8; (with_reducible refine (zah.calls k _ _ l0_0 false _ (Kd.za4 HR0_0.out Ybe) HC0_0.out A13.out).mono ?_); rintro e w31 ⟨rfl, hb⟩; replace BK238 := Ykb BK238 hb; replace BK239 := Ykb BK239 hb; replace HB := zab.mk (za1 Yb_PGssPushesx9_1 hb); (try clear hb); (try clear hb2); (try clear hk); (try clear hi)))
     go_meet
     case rel => exact ⟨_, (true), Yfs, H', ⟨by first | omega | exact Nat.le_refl _⟩, ⟨Yg BK238⟩, ⟨Yg BK239⟩, ⟨Yb_PGssPushesx9_1⟩⟩
   ·replace c12 := Bool.eq_false_iff.mpr c12
    subst c12
    have H1 : (zao.j0 k a2 a3 a4 true l0_0 l1_0) = some r := by rw [if_neg (show ¬ (false = true) by decide)] at H; exact H
    clear H;have H := H1;clear H1
    have H' := zab.mk H
    clear H
    have hnb32 := NB238_239.out
    have hnc32 := NB239_238.out
    obtain ⟨hcz33_0, hfz33_0⟩ := Yc1 BK238.out
    go_wp2_with (first | ((with_reducible refine za6 (f := 7) rfl ?_); refine Ygl (some 18) Try.func7 #[.agg #[.slice A0_0 l0_0.length c0_0]] ?_; (with_reducible refine (za9.calls k _ _ l0_0 true _ (Kd.za4 HR0_0.out Ybe) HC0_0.out A9.out).mono ?_); rintro e w34 ⟨rfl, hb⟩; refine ⟨_, rfl, ?_⟩; replace BK238 := Ykb BK238 hb; replace BK239 := Ykb BK239 hb; replace HB := zab.mk (za1 Yb_PGssPushesx9_1 hb); (try clear hb); (try clear hb2); (try clear hk); (try clear hi); obtain ⟨hcz35_0, hfz35_0⟩ := Yc1 BK239.out) | (go_at_call 7; (with_reducible refine (za9.calls k _ _ l1_0 false _ (Kd.za4 HR1_0.out Ybe) HC1_0.out A11.out).mono ?_); rintro e w36 ⟨rfl, hb⟩; replace BK238 := Ykb BK238 hb; replace BK239 := Ykb BK239 hb; replace HB := zab.mk (za1 Yb_PGssPushesx9_1 hb); (try clear hb); (try clear hb2); (try clear hk); (try clear hi)))
    go_meet
    case rel => exact ⟨_, (true), Yfs, H', ⟨by first | omega | exact Nat.le_refl _⟩, ⟨Yg BK238⟩, ⟨Yg BK239⟩, ⟨Yb_PGssPushesx9_1⟩⟩
  ·replace c10 := Bool.eq_false_iff.mpr c10
   subst c10
   have H1 : (zao.j0 k a2 a3 a4 true l0_0 l1_0) = some r := by rw [if_neg (show ¬ (false = true) by decide)] at H; exact H
   clear H;have H := H1;clear H1
   have H' := zab.mk H
   clear H
   have hnb37 := NB238_239.out
   have hnc37 := NB239_238.out
   obtain ⟨hcz38_0, hfz38_0⟩ := Yc1 BK238.out
   go_wp2_with (first | ((with_reducible refine za6 (f := 7) rfl ?_); refine Ygl (some 18) Try.func7 #[.agg #[.slice A0_0 l0_0.length c0_0]] ?_; (with_reducible refine (za9.calls k _ _ l0_0 false _ (Kd.za4 HR0_0.out Ybe) HC0_0.out A9.out).mono ?_); rintro e w39 ⟨rfl, hb⟩; refine ⟨_, rfl, ?_⟩; replace BK238 := Ykb BK238 hb; replace BK239 := Ykb BK239 hb; replace HB := zab.mk (za1 Yb_PGssPushesx9_1 hb); (try clear hb); (try clear hb2); (try clear hk); (try clear hi)))
   go_meet
   case rel => exact ⟨_, (true), Yfs, H', ⟨by first | omega | exact Nat.le_refl _⟩, ⟨Yg BK238⟩, ⟨Yg BK239⟩, ⟨Yb_PGssPushesx9_1⟩⟩
 case rest =>
  clear HC6
  obtain ⟨kq, x34_5, rfl, HA, HJ5, BK238, BK239, HB⟩ := hcut
  cases kq with
  | zero => exact absurd HA.out (by simp [zao.j0])
  | succ kj5 =>
   have H := HA.out;clear HA
   simp only [zao.j0] at H
   by_cases c40 : x34_5 = true
   ·subst c40
    have H1 : ((zbk.f).bind fun t244 => (some t244)) = some r := by rw [if_pos rfl] at H; exact H
    clear H;have H := H1;clear H1;replace H := Option.bind_eq_some_iff.mp H
    obtain ⟨t244, A410, H⟩ := H
    replace H : (some t244) = some r := H
    have A41 := zab.mk A410;clear A410;obtain rfl := Option.some.inj H
    go_wp2_with (first | ((with_reducible refine za6 (f := 9) rfl ?_); refine Ygl (some 35) Try.func9 #[] ?_; (with_reducible refine (zbk.calls  t244 _ A41.out).mono ?_); rintro e w42 ⟨rfl, hb⟩; refine ⟨_, rfl, ?_⟩; replace BK238 := Ykb BK238 hb; replace BK239 := Ykb BK239 hb; replace HB := zab.mk (za1 Yb_PGssPushesx9_1 hb); (try clear hb); (try clear hb2); (try clear hk); (try clear hi)))
    go_ret
    exact ⟨Yfi, Yb_PGssPushesx9_1⟩
   ·replace c40 := Bool.eq_false_iff.mpr c40
    subst c40
    have H1 : ((zc9.f l0_0 a2 a3 a4).bind fun bt245 => ((zaq.f kj5 l0_0 a2 a3 a4).bind fun bt251 => ((zay.f kj5 bt245.1 bt251.1).bind fun t257 => (if t257 = true then (if bt245.2.1 = bt251.2.1 then (if (bt245.2.2 == bt251.2.2) = true then ((zcs.f l0_0 l1_0).bind fun t258 => ((zan.f kj5 l0_0 l1_0).bind fun t261 => ((zay.f kj5 t258 t261).bind fun t264 => (if t264 = true then ((zbk.f).bind fun t265 => (some t265)) else (some false))))) else (some false)) else (some false)) else (some false))))) = some r := by rw [if_neg (show ¬ (false = true) by decide)] at H; exact H
    clear H;have H := H1;clear H1;replace H := Option.bind_eq_some_iff.mp H
    obtain ⟨⟨t245, t248, t249⟩, A430, H⟩ := H
    replace H : ((zaq.f kj5 l0_0 a2 a3 a4).bind fun bt251 => ((zay.f kj5 t245 bt251.1).bind fun t257 => (if t257 = true then (if t248 = bt251.2.1 then (if (t249 == bt251.2.2) = true then ((zcs.f l0_0 l1_0).bind fun t258 => ((zan.f kj5 l0_0 l1_0).bind fun t261 => ((zay.f kj5 t258 t261).bind fun t264 => (if t264 = true then ((zbk.f).bind fun t265 => (some t265)) else (some false))))) else (some false)) else (some false)) else (some false)))) = some r := H
    have A43 := zab.mk A430;clear A430;replace H := Option.bind_eq_some_iff.mp H
    obtain ⟨⟨t251, t254, t255⟩, A440, H⟩ := H
    replace H : ((zay.f kj5 t245 t251).bind fun t257 => (if t257 = true then (if t248 = t254 then (if (t249 == t255) = true then ((zcs.f l0_0 l1_0).bind fun t258 => ((zan.f kj5 l0_0 l1_0).bind fun t261 => ((zay.f kj5 t258 t261).bind fun t264 => (if t264 = true then ((zbk.f).bind fun t265 => (some t265)) else (some false))))) else (some false)) else (some false)) else (some false))) = some r := H
    have A44 := zab.mk A440;clear A440;replace H := Option.bind_eq_some_iff.mp H
    obtain ⟨t257, A450, H⟩ := H
    replace H : (if t257 = true then (if t248 = t254 then (if (t249 == t255) = true then ((zcs.f l0_0 l1_0).bind fun t258 => ((zan.f kj5 l0_0 l1_0).bind fun t261 => ((zay.f kj5 t258 t261).bind fun t264 => (if t264 = true then ((zbk.f).bind fun t265 => (some t265)) else (some false))))) else (some false)) else (some false)) else (some false)) = some r := H
    have A45 := zab.mk A450;clear A450
    by_cases c46 : t257 = true
    ·subst c46
     have H1 : (if t248 = t254 then (if (t249 == t255) = true then ((zcs.f l0_0 l1_0).bind fun t258 => ((zan.f kj5 l0_0 l1_0).bind fun t261 => ((zay.f kj5 t258 t261).bind fun t264 => (if t264 = true then ((zbk.f).bind fun t265 => (some t265)) else (some false))))) else (some false)) else (some false)) = some r := by rw [if_pos rfl] at H; exact H
     clear H;have H := H1;clear H1
     by_cases c47 : t248 = t254
     ·rw [if_pos c47] at H
      have c47b0 : (t248 == t254) = true := beq_iff_eq.mpr c47
      have c47b1 : (t248 != t254) = false := bne_eq_false_iff_eq.mpr c47
      clear c47
      by_cases c48 : (t249 == t255) = true
      ·rw [if_pos c48] at H
       have c48b0 : (t249 == t255) = true := c48
       (try (have c48b1 : decide (t249 = t255) = true := by simpa using c48))
       (try (have c48b2 : (t249 == t255) = true := by simpa using c48))
       clear c48;replace H := Option.bind_eq_some_iff.mp H
       obtain ⟨t258, A490, H⟩ := H
       replace H : ((zan.f kj5 l0_0 l1_0).bind fun t261 => ((zay.f kj5 t258 t261).bind fun t264 => (if t264 = true then ((zbk.f).bind fun t265 => (some t265)) else (some false)))) = some r := H
       have A49 := zab.mk A490;clear A490;replace H := Option.bind_eq_some_iff.mp H
       obtain ⟨t261, A500, H⟩ := H
       replace H : ((zay.f kj5 t258 t261).bind fun t264 => (if t264 = true then ((zbk.f).bind fun t265 => (some t265)) else (some false))) = some r := H
       have A50 := zab.mk A500;clear A500;replace H := Option.bind_eq_some_iff.mp H
       obtain ⟨t264, A510, H⟩ := H
       replace H : (if t264 = true then ((zbk.f).bind fun t265 => (some t265)) else (some false)) = some r := H
       have A51 := zab.mk A510;clear A510
       by_cases c52 : t264 = true
       ·subst c52
        have H1 : ((zbk.f).bind fun t265 => (some t265)) = some r := by rw [if_pos rfl] at H; exact H
        clear H;have H := H1;clear H1;replace H := Option.bind_eq_some_iff.mp H
        obtain ⟨t265, A530, H⟩ := H
        replace H : (some t265) = some r := H
        have A53 := zab.mk A530;clear A530;obtain rfl := Option.some.inj H
        have hnb54 := NB238_239.out
        have hnc54 := NB239_238.out
        obtain ⟨hcz55_0, hfz55_0⟩ := Yc1 BK238.out
        try go_wp2_with (first | ((with_reducible refine za6 (f := 13) rfl ?_); refine Ygl (some 41) Try.func13 #[.agg #[.slice A0_0 l0_0.length c0_0], .int .i64 a2, .int .i64 a3, .int .i64 a4] ?_; (with_reducible refine (zc9.calls (fun k_ => k_ < w.heap.size) _ _ l0_0 a2 a3 a4 t245 t248 t249 _ ?side1 A43.out).mono ?_); (case side1 => exact Kd.V_mk HC0_0.out (Kd.zcq (Kd.C_F zcw HR0_0.out) Yb_PGssPushesx9_1)); rintro e w56 ⟨v246, rfl, ho0, hb⟩; refine ⟨_, rfl, ?_⟩; have HO247 := zab.mk (Kd.zc2 (Kd.zar (ok' := fun k_ => k_ ≠ gb238 ∧ k_ ≠ gb239) ho0 (fun k_ hk_ => ⟨Or.elim hk_ (fun hs_ => fun e_ => Nat.not_le.2 hs_ (by rw [e_]; exact GW238.out)) (fun hn_ => (Kd.zbh (g := gb238) (o := .cells #[.slice A0_0 l0_0.length c0_0] 24 (0, 0)) (Yg BK238) k_ hn_)), Or.elim hk_ (fun hs_ => fun e_ => Nat.not_le.2 hs_ (by rw [e_]; exact GW239.out)) (fun hn_ => (Kd.zbh (g := gb239) (o := .cells #[.slice A1_0 l1_0.length c1_0] 24 (0, 0)) (Yg BK239) k_ hn_))⟩)) (za7 Yb_PGssPushesx9_1)); replace BK238 := Ykb BK238 hb; replace BK239 := Ykb BK239 hb; replace HB := zab.mk (za1 Yb_PGssPushesx9_1 hb); (try clear hb); (try clear hb2); (try clear hk); (try clear hi); (try clear ho0)) | ((with_reducible refine zbb (N := 11) rfl ?_); refine Ybx 11 #[.slice none 0 0] 24 ?_; intro gb250 hg w57 hbox hb; replace HO247 := zab.mk (Kd.zat (Kd.zbi (by (with_reducible repeat (first | apply Kd.V_alloc | apply Kd.zak | apply Kd.zam)); exact HO247.out) gb250 (Nat.le_of_eq hg.symm)) hb); obtain ⟨BK250, GW250, GE250, HB⟩ := Yb4 hbox hg hb Yb_PGssPushesx9_1; have NB238_250 := Ynl BK238 hg; have NB250_238 := Yng BK238 hg; replace BK238 := Ykb BK238 hb; have NB239_250 := Ynl BK239 hg; have NB250_239 := Yng BK239 hg; replace BK239 := Ykb BK239 hb; clear hb hbox hg; obtain ⟨Ao58, co58, eo58⟩ := Kd.zbz HO247.out; subst eo58; have hnb59 := NB250_238.out; have hnc59 := NB238_250.out; have hnb60 := NB250_239.out; have hnc60 := NB239_250.out; obtain ⟨hcz61_0, hfz61_0⟩ := Yc1 BK250.out) | ((with_reducible refine zdt (t := 24) (p := 11) rfl ?_); refine zdl (t := 24) (p := 11) (v := ?vo_w62) (w1 := (w57.setCell ⟨gb250, 0, none⟩ (.slice Ao58 t245.length co58))) ?hg ?ho ?hn ?hr ?_; (case ho => rfl); (case hg => rfl); (case hn => rfl); (case hr => first | (go_simp; done) | (go_simp; rfl)); intro w62 hw; have n0_ : zab (Kd.V k38 38 w62 w.heap.size (fun k_ => k_ ≠ gb238 ∧ k_ ≠ gb239 ∧ k_ ≠ gb250) (.slice Ao58 t245.length co58) t245) := ⟨(by rw [hw]; exact (by (with_reducible repeat (first | apply Kd.V_alloc | apply Kd.zak | apply Kd.zam)); exact Kd.zar (Kd.za0 (p := ⟨gb250, 0, none⟩) (Kd.zar HO247.out (fun k_ hk => (⟨hk, hk.2⟩ : _ ∧ k_ ≠ gb250))) (fun _ hk => hk.2) (.slice Ao58 t245.length co58)) (fun _ hk => ⟨hk.1.1.1, ⟨hk.1.1.2, hk.1.2⟩⟩)))⟩; have n1_ : zab (w62.heap[gb238]? = some (.cells #[.slice A0_0 l0_0.length c0_0] 24 (0, 0))) := ⟨(by rw [hw]; exact (by (with_reducible repeat (first | refine zae ?_ _ | refine zac ?_ | refine zad ?_ _)); refine zaj ?_ NB238_250.out _; (with_reducible repeat (first | refine zae ?_ _ | refine zac ?_ | refine zad ?_ _)); exact BK238.out))⟩; have n2_ : zab (w62.heap[gb239]? = some (.cells #[.slice A1_0 l1_0.length c1_0] 24 (0, 0))) := ⟨(by rw [hw]; exact (by (with_reducible repeat (first | refine zae ?_ _ | refine zac ?_ | refine zad ?_ _)); refine zaj ?_ NB239_250.out _; (with_reducible repeat (first | refine zae ?_ _ | refine zac ?_ | refine zad ?_ _)); exact BK239.out))⟩; have n3_ : zab (w62.heap[gb250]? = some (.cells #[.slice Ao58 t245.length co58] 24 (0, 0))) := ⟨(by rw [hw]; exact (by (with_reducible repeat (first | refine zae ?_ _ | refine zac ?_ | refine zad ?_ _)); refine zas (cs := #[.slice none 0 0]) ?_ 0 _ rfl; (with_reducible repeat (first | refine zae ?_ _ | refine zac ?_ | refine zad ?_ _)); exact BK250.out))⟩; have n4_ : zab (Below w.heap.size w w62) := ⟨(by rw [hw]; exact Yb_PGssPushesx9_2)⟩; clear hw; clear HO247; clear BK238; clear BK239; clear BK250; clear HB; have HO247 := n0_; have BK238 := n1_; have BK239 := n2_; have BK250 := n3_; have HB := n4_; clear n0_ n1_ n2_ n3_ n4_; obtain ⟨hcz63_0, hfz63_0⟩ := Yc1 BK238.out) | ((with_reducible refine za6 (f := 15) rfl ?_); refine Ygl (some 50) Try.func15 #[.agg #[.slice A0_0 l0_0.length c0_0], .int .i64 a2, .int .i64 a3, .int .i64 a4] ?_; (with_reducible refine (zaq.calls kj5 (fun k_ => k_ < w.heap.size) _ _ l0_0 a2 a3 a4 t251 t254 t255 _ ?side1 A44.out).mono ?_); (case side1 => exact Kd.V_mk HC0_0.out (Kd.zcq (Kd.C_F zcw HR0_0.out) Yb_PGssPushesx9_2)); rintro e w64 ⟨v252, rfl, ho0, hb⟩; refine ⟨_, rfl, ?_⟩; replace HO247 := zab.mk (Kd.zat (by (with_reducible repeat (first | apply Kd.V_alloc | apply Kd.zak | apply Kd.zam)); exact HO247.out) hb); have HO253 := zab.mk (Kd.zc2 (Kd.zar (ok' := fun k_ => k_ ≠ gb238 ∧ k_ ≠ gb239 ∧ k_ ≠ gb250) ho0 (fun k_ hk_ => ⟨Or.elim hk_ (fun hs_ => fun e_ => Nat.not_le.2 hs_ (by rw [e_]; exact GW238.out)) (fun hn_ => (Kd.zbh (g := gb238) (o := .cells #[.slice A0_0 l0_0.length c0_0] 24 (0, 0)) (Yg BK238) k_ hn_)), Or.elim hk_ (fun hs_ => fun e_ => Nat.not_le.2 hs_ (by rw [e_]; exact GW239.out)) (fun hn_ => (Kd.zbh (g := gb239) (o := .cells #[.slice A1_0 l1_0.length c1_0] 24 (0, 0)) (Yg BK239) k_ hn_)), Or.elim hk_ (fun hs_ => fun e_ => Nat.not_le.2 hs_ (by rw [e_]; exact GW250.out)) (fun hn_ => (Kd.zbh (g := gb250) (o := .cells #[.slice Ao58 t245.length co58] 24 (0, 0)) (Yg BK250) k_ hn_))⟩)) (za7 Yb_PGssPushesx9_2)); replace BK238 := Ykb BK238 hb; replace BK239 := Ykb BK239 hb; replace BK250 := Ykb BK250 hb; replace HB := zab.mk (za1 Yb_PGssPushesx9_2 hb); (try clear hb); (try clear hb2); (try clear hk); (try clear hi); (try clear ho0)) | ((with_reducible refine zbb (N := 14) rfl ?_); refine Ybx 14 #[.slice none 0 0] 24 ?_; intro gb256 hg w65 hbox hb; replace HO247 := zab.mk (Kd.zat (Kd.zbi (by (with_reducible repeat (first | apply Kd.V_alloc | apply Kd.zak | apply Kd.zam)); exact HO247.out) gb256 (Nat.le_of_eq hg.symm)) hb); replace HO253 := zab.mk (Kd.zat (Kd.zbi (by (with_reducible repeat (first | apply Kd.V_alloc | apply Kd.zak | apply Kd.zam)); exact HO253.out) gb256 (Nat.le_of_eq hg.symm)) hb); obtain ⟨BK256, GW256, GE256, HB⟩ := Yb4 hbox hg hb Yb_PGssPushesx9_2; have NB238_256 := Ynl BK238 hg; have NB256_238 := Yng BK238 hg; replace BK238 := Ykb BK238 hb; have NB239_256 := Ynl BK239 hg; have NB256_239 := Yng BK239 hg; replace BK239 := Ykb BK239 hb; have NB250_256 := Ynl BK250 hg; have NB256_250 := Yng BK250 hg; replace BK250 := Ykb BK250 hb; clear hb hbox hg; obtain ⟨Ao66, co66, eo66⟩ := Kd.zbz HO253.out; subst eo66; have hnb67 := NB256_238.out; have hnc67 := NB238_256.out; have hnb68 := NB256_239.out; have hnc68 := NB239_256.out; have hnb69 := NB256_250.out; have hnc69 := NB250_256.out; obtain ⟨hcz70_0, hfz70_0⟩ := Yc1 BK256.out))
        have n0_ : zab (Kd.V k38 38 (w65.setCell ⟨gb256, 0, none⟩ (.slice Ao66 t251.length co66)) w.heap.size (fun k_ => k_ ≠ gb238 ∧ k_ ≠ gb239 ∧ k_ ≠ gb250 ∧ k_ ≠ gb256) (.slice Ao58 t245.length co58) t245) := ⟨by (with_reducible repeat (first | apply Kd.V_alloc | apply Kd.zak | apply Kd.zam)); exact Kd.zar (Kd.za0 (p := ⟨gb256, 0, none⟩) (Kd.zar HO247.out (fun k_ hk => (⟨hk, hk.2⟩ : _ ∧ k_ ≠ gb256))) (fun _ hk => hk.2) (.slice Ao66 t251.length co66)) (fun _ hk => ⟨hk.1.1.1, ⟨hk.1.1.2.1, ⟨hk.1.1.2.2, hk.1.2⟩⟩⟩)⟩
        have n1_ : zab (Kd.V k38 38 (w65.setCell ⟨gb256, 0, none⟩ (.slice Ao66 t251.length co66)) w.heap.size (fun k_ => k_ ≠ gb238 ∧ k_ ≠ gb239 ∧ k_ ≠ gb250 ∧ k_ ≠ gb256) (.slice Ao66 t251.length co66) t251) := ⟨by (with_reducible repeat (first | apply Kd.V_alloc | apply Kd.zak | apply Kd.zam)); exact Kd.zar (Kd.za0 (p := ⟨gb256, 0, none⟩) (Kd.zar HO253.out (fun k_ hk => (⟨hk, hk.2⟩ : _ ∧ k_ ≠ gb256))) (fun _ hk => hk.2) (.slice Ao66 t251.length co66)) (fun _ hk => ⟨hk.1.1.1, ⟨hk.1.1.2.1, ⟨hk.1.1.2.2, hk.1.2⟩⟩⟩)⟩
        have n2_ : zab ((w65.setCell ⟨gb256, 0, none⟩ (.slice Ao66 t251.length co66)).heap[gb238]? = some (.cells #[.slice A0_0 l0_0.length c0_0] 24 (0, 0))) := ⟨by (with_reducible repeat (first | refine zae ?_ _ | refine zac ?_ | refine zad ?_ _)); refine zaj ?_ NB238_256.out _; (with_reducible repeat (first | refine zae ?_ _ | refine zac ?_ | refine zad ?_ _)); exact BK238.out⟩
        have n3_ : zab ((w65.setCell ⟨gb256, 0, none⟩ (.slice Ao66 t251.length co66)).heap[gb239]? = some (.cells #[.slice A1_0 l1_0.length c1_0] 24 (0, 0))) := ⟨by (with_reducible repeat (first | refine zae ?_ _ | refine zac ?_ | refine zad ?_ _)); refine zaj ?_ NB239_256.out _; (with_reducible repeat (first | refine zae ?_ _ | refine zac ?_ | refine zad ?_ _)); exact BK239.out⟩
        have n4_ : zab ((w65.setCell ⟨gb256, 0, none⟩ (.slice Ao66 t251.length co66)).heap[gb250]? = some (.cells #[.slice Ao58 t245.length co58] 24 (0, 0))) := ⟨by (with_reducible repeat (first | refine zae ?_ _ | refine zac ?_ | refine zad ?_ _)); refine zaj ?_ NB250_256.out _; (with_reducible repeat (first | refine zae ?_ _ | refine zac ?_ | refine zad ?_ _)); exact BK250.out⟩
        have n5_ : zab ((w65.setCell ⟨gb256, 0, none⟩ (.slice Ao66 t251.length co66)).heap[gb256]? = some (.cells #[.slice Ao66 t251.length co66] 24 (0, 0))) := ⟨by (with_reducible repeat (first | refine zae ?_ _ | refine zac ?_ | refine zad ?_ _)); refine zas (cs := #[.slice none 0 0]) ?_ 0 _ rfl; (with_reducible repeat (first | refine zae ?_ _ | refine zac ?_ | refine zad ?_ _)); exact BK256.out⟩
        have n6_ : zab (Below w.heap.size w (w65.setCell ⟨gb256, 0, none⟩ (.slice Ao66 t251.length co66))) := ⟨Yb_PGssPushesx9_3⟩
        (try clear HO247)
        (try clear HO253)
        (try clear BK238)
        (try clear BK239)
        (try clear BK250)
        (try clear BK256)
        (try clear HB)
        generalize (w65.setCell ⟨gb256, 0, none⟩ (.slice Ao66 t251.length co66)) = w71 at n0_ n1_ n2_ n3_ n4_ n5_ n6_ ⊢
        have HO247 := n0_;have HO253 := n1_;have BK238 := n2_;have BK239 := n3_;have BK250 := n4_;have BK256 := n5_;have HB := n6_;clear n0_ n1_ n2_ n3_ n4_ n5_ n6_
        replace HO247 := zab.mk (Kd.zam HO247.out)
        replace HO253 := zab.mk (Kd.zam HO253.out)
        replace BK238 := zab.mk (zac BK238.out)
        replace BK239 := zab.mk (zac BK239.out)
        replace BK250 := zab.mk (zac BK250.out)
        replace BK256 := zab.mk (zac BK256.out)
        replace HB := zab.mk (zav HB.out)
        refine zbt (n := 26) (S := fun w' => w'.cell? ⟨gb250, 0, none⟩ = some (.slice Ao58 t245.length co58) ∧ w'.cell? ⟨gb256, 0, none⟩ = some (.slice Ao66 t251.length co66) ∧ w'.cell? ⟨gb238, 0, none⟩ = some (.slice A0_0 l0_0.length c0_0) ∧ w'.cell? ⟨gb239, 0, none⟩ = some (.slice A1_0 l1_0.length c1_0)) (ds := []) (Ymk 26 0) (by kernel_rfl) rfl rfl ⟨(zaf BK250.out 0).trans rfl, (zaf BK256.out 0).trans rfl, (zaf BK238.out 0).trans rfl, (zaf BK239.out 0).trans rfl⟩ (fun hHeld => ?_); refine zbo zao.tab5 zao.bits5 (fun HT_ HW_ => ?_)
        generalize w71.drew = w72 at HO247 HO253 BK238 BK239 BK250 BK256 HB hHeld ⊢
        refine Ytt 0 54 26 1 HT_ HW_ hHeld ?_
        refine Ytt 1 55 26 3 HT_ HW_ hHeld ?_
        refine Yot 2 56 26 7 HT_ (fun K hK => ?_)
        refine Ygs Try.func16 #[.agg #[.slice Ao58 t245.length co58], .agg #[.slice Ao66 t251.length co66]] ?_
        with_reducible refine (zay.calls kj5 _ _ t245 _ _ t251 true _ ?side1 ?side2 ?side3 ?side4 A45.out).mono ?_
        (case side1 => repeat (first | exact (Kd.V_reads' HO247.out).2.2 | (with_reducible refine Kd.C_alloc ?_ _) | (with_reducible refine Kd.C_drewN ?_ _) | (with_reducible refine Kd.C_drew ?_)))
        (case side2 => exact (Kd.V_reads' HO247.out).2.1)
        (case side3 => repeat (first | exact (Kd.V_reads' HO253.out).2.2 | (with_reducible refine Kd.C_alloc ?_ _) | (with_reducible refine Kd.C_drewN ?_ _) | (with_reducible refine Kd.C_drew ?_)))
        (case side4 => exact (Kd.V_reads' HO253.out).2.1)
        rintro e w73 ⟨rfl, hb⟩
        refine ⟨_, rfl, ?_⟩
        replace HO247 := zab.mk (Kd.zat (by (with_reducible repeat (first | apply Kd.V_alloc | apply Kd.zak | apply Kd.zam)); exact HO247.out) hb)
        replace HO253 := zab.mk (Kd.zat (by (with_reducible repeat (first | apply Kd.V_alloc | apply Kd.zak | apply Kd.zam)); exact HO253.out) hb)
        replace BK238 := Ykb BK238 hb
        replace BK239 := Ykb BK239 hb
        replace BK250 := Ykb BK250 hb
        replace BK256 := Ykb BK256 hb
        replace HB := zab.mk (za1 Yb_PGssPushesx9_3 hb)
        (try clear hb)
        (try clear hb2)
        (try clear hk)
        (try clear hi)
        refine hK.out _ _ ⟨(zaf BK250.out 0).trans rfl, (zaf BK256.out 0).trans rfl, (zaf BK238.out 0).trans rfl, (zaf BK239.out 0).trans rfl⟩ (fun hHeld => ?_)
        clear hK K
        refine Ynw 56 ?_
        refine Ypt 3 57 26 15 HT_ ?_
        refine Ypt 4 58 26 31 HT_ ?_
        refine Ypt 5 59 26 63 HT_ ?_
        refine Ypt 6 60 26 127 HT_ ?_
        refine Ypt 7 61 26 255 HT_ ?_
        refine Ypt 8 62 26 511 HT_ ?_
        refine Ypt 9 63 26 1023 HT_ ?_
        refine Ypt 10 64 26 2047 HT_ ?_
        refine Ypt 11 65 26 4095 HT_ ?_
        refine Ypt 12 66 26 8191 HT_ ?_
        refine Ypt 13 67 26 16383 HT_ ?_
        refine Ytt 14 68 26 32767 HT_ HW_ hHeld ?_
        refine Ytt 15 69 26 65535 HT_ HW_ hHeld ?_
        refine Ytt 17 71 26 196607 HT_ HW_ hHeld ?_
        refine Ytt 18 72 26 458751 HT_ HW_ hHeld ?_
        refine Yot 16 70 26 524287 HT_ (fun K hK => ?_)
        refine Ygs Try.func17 #[.agg #[.slice A0_0 l0_0.length c0_0], .agg #[.slice A1_0 l1_0.length c1_0]] ?_
        with_reducible refine (zcs.calls _ _ l0_0 _ _ l1_0 t258 _ (Kd.za4 HR0_0.out Ybe) HC0_0.out (Kd.za4 HR1_0.out Ybe) HC1_0.out A49.out).mono ?_
        rintro e w74 ⟨v259, rfl, ho0, hb⟩
        refine ⟨_, rfl, ?_⟩
        replace HO247 := zab.mk (Kd.V_elder' (by (with_reducible repeat (first | apply Kd.V_alloc | apply Kd.zak | apply Kd.zam)); exact HO247.out) (Kd.zdi ho0) hb)
        replace HO253 := zab.mk (Kd.V_elder' (by (with_reducible repeat (first | apply Kd.V_alloc | apply Kd.zak | apply Kd.zam)); exact HO253.out) (Kd.zdi ho0) hb)
        have HO260 := zab.mk (Kd.zde ho0 (za7 Yb_PGssPushesx9_3))
        replace BK238 := Ykb BK238 hb
        replace BK239 := Ykb BK239 hb
        replace BK250 := Ykb BK250 hb
        replace BK256 := Ykb BK256 hb
        replace HB := zab.mk (za1 Yb_PGssPushesx9_3 hb)
        (try clear hb)
        (try clear hb2)
        (try clear hk)
        (try clear hi)
        (try clear ho0)
        refine hK.out _ _ ⟨(zaf BK250.out 0).trans rfl, (zaf BK256.out 0).trans rfl, (zaf BK238.out 0).trans rfl, (zaf BK239.out 0).trans rfl⟩ (fun hHeld => ?_)
        clear hK K
        refine Ynw 70 ?_
        refine Yot 19 73 26 1048575 HT_ (fun K hK => ?_)
        refine Ygs Try.func18 #[.agg #[.slice A0_0 l0_0.length c0_0], .agg #[.slice A1_0 l1_0.length c1_0]] ?_
        with_reducible refine (zan.calls kj5 (fun k_ => k_ < w.heap.size) _ _ l0_0 (fun k_ => k_ < w.heap.size) _ _ l1_0 t261 _ ?side1 ?side2 A50.out).mono ?_
        (case side1 => exact Kd.V_mk HC0_0.out (Kd.zcq (Kd.C_F zcw HR0_0.out) Yb_PGssPushesx9_3))
        (case side2 => exact Kd.V_mk HC1_0.out (Kd.zcq (Kd.C_F zcw HR1_0.out) Yb_PGssPushesx9_3))
        rintro e w75 ⟨v262, rfl, ho0, hb⟩
        refine ⟨_, rfl, ?_⟩
        replace HO247 := zab.mk (Kd.zat (by (with_reducible repeat (first | apply Kd.V_alloc | apply Kd.zak | apply Kd.zam)); exact HO247.out) hb)
        replace HO253 := zab.mk (Kd.zat (by (with_reducible repeat (first | apply Kd.V_alloc | apply Kd.zak | apply Kd.zam)); exact HO253.out) hb)
        have HO263 := zab.mk (Kd.zc2 (Kd.zar (ok' := fun k_ => some k_ ≠ (v259 : Value).ownBlock ∧ k_ ≠ gb238 ∧ k_ ≠ gb239 ∧ k_ ≠ gb250 ∧ k_ ≠ gb256) ho0 (fun k_ hk_ => ⟨Or.elim hk_ (fun hs_ => Or.elim hs_ (fun hs_ => fun e_ => Nat.not_le.2 hs_ (Kd.zdi HO260.out k_ e_.symm)) (fun hs_ => fun e_ => Nat.not_le.2 hs_ (Kd.zdi HO260.out k_ e_.symm))) (fun hn_ => (Kd.fresh' (Kd.R_lt (Yr HO260)) k_ hn_)), Or.elim hk_ (fun hs_ => Or.elim hs_ (fun hs_ => fun e_ => Nat.not_le.2 hs_ (by rw [e_]; exact GW238.out)) (fun hs_ => fun e_ => Nat.not_le.2 hs_ (by rw [e_]; exact GW238.out))) (fun hn_ => (Kd.zbh (g := gb238) (o := .cells #[.slice A0_0 l0_0.length c0_0] 24 (0, 0)) (Yg BK238) k_ hn_)), Or.elim hk_ (fun hs_ => Or.elim hs_ (fun hs_ => fun e_ => Nat.not_le.2 hs_ (by rw [e_]; exact GW239.out)) (fun hs_ => fun e_ => Nat.not_le.2 hs_ (by rw [e_]; exact GW239.out))) (fun hn_ => (Kd.zbh (g := gb239) (o := .cells #[.slice A1_0 l1_0.length c1_0] 24 (0, 0)) (Yg BK239) k_ hn_)), Or.elim hk_ (fun hs_ => Or.elim hs_ (fun hs_ => fun e_ => Nat.not_le.2 hs_ (by rw [e_]; exact GW250.out)) (fun hs_ => fun e_ => Nat.not_le.2 hs_ (by rw [e_]; exact GW250.out))) (fun hn_ => (Kd.zbh (g := gb250) (o := .cells #[.slice Ao58 t245.length co58] 24 (0, 0)) (Yg BK250) k_ hn_)), Or.elim hk_ (fun hs_ => Or.elim hs_ (fun hs_ => fun e_ => Nat.not_le.2 hs_ (by rw [e_]; exact GW256.out)) (fun hs_ => fun e_ => Nat.not_le.2 hs_ (by rw [e_]; exact GW256.out))) (fun hn_ => (Kd.zbh (g := gb256) (o := .cells #[.slice Ao66 t251.length co66] 24 (0, 0)) (Yg BK256) k_ hn_))⟩)) (za7 Yb_PGssPushesx9_3))
        replace HO260 := zab.mk (Kd.zdd (Yr HO260) hb)
        replace BK238 := Ykb BK238 hb
        replace BK239 := Ykb BK239 hb
        replace BK250 := Ykb BK250 hb
        replace BK256 := Ykb BK256 hb
        replace HB := zab.mk (za1 Yb_PGssPushesx9_3 hb)
        (try clear hb)
        (try clear hb2)
        (try clear hk)
        (try clear hi)
        (try clear ho0)
        obtain ⟨Ao76, co76, eo76⟩ := Kd.zcf HO260.out
        (first | subst eo76 | (injection eo76 with f1_ f2_ f3_; have f4_ := f1_.symm; have f5_ := f3_.symm; clear f1_ f2_ f3_; subst f4_; subst f5_))
        obtain ⟨Ao77, co77, eo77⟩ := Kd.zbz HO263.out
        (first | subst eo77 | (injection eo77 with f1_ f2_ f3_; have f4_ := f1_.symm; have f5_ := f3_.symm; clear f1_ f2_ f3_; subst f4_; subst f5_))
        refine hK.out _ _ ⟨(zaf BK250.out 0).trans rfl, (zaf BK256.out 0).trans rfl, (zaf BK238.out 0).trans rfl, (zaf BK239.out 0).trans rfl⟩ (fun hHeld => ?_)
        clear hK K
        refine Ynw 73 ?_
        refine Yot 20 74 26 2097151 HT_ (fun K hK => ?_)
        refine Ygs Try.func16 #[.agg #[.slice Ao76 t258.length co76], .agg #[.slice Ao77 t261.length co77]] ?_
        with_reducible refine (zay.calls kj5 _ _ t258 _ _ t261 true _ ?side1 ?side2 ?side3 ?side4 A51.out).mono ?_
        (case side1 => repeat (first | exact (Kd.R_reads' HO260.out).2.2 | (with_reducible refine Kd.C_alloc ?_ _) | (with_reducible refine Kd.C_drewN ?_ _) | (with_reducible refine Kd.C_drew ?_)))
        (case side2 => exact (Kd.R_reads' HO260.out).2.1)
        (case side3 => repeat (first | exact (Kd.V_reads' HO263.out).2.2 | (with_reducible refine Kd.C_alloc ?_ _) | (with_reducible refine Kd.C_drewN ?_ _) | (with_reducible refine Kd.C_drew ?_)))
        (case side4 => exact (Kd.V_reads' HO263.out).2.1)
        rintro e w78 ⟨rfl, hb⟩
        refine ⟨_, rfl, ?_⟩
        replace HO247 := zab.mk (Kd.zat (by (with_reducible repeat (first | apply Kd.V_alloc | apply Kd.zak | apply Kd.zam)); exact HO247.out) hb)
        replace HO253 := zab.mk (Kd.zat (by (with_reducible repeat (first | apply Kd.V_alloc | apply Kd.zak | apply Kd.zam)); exact HO253.out) hb)
        replace HO260 := zab.mk (Kd.zdd (Yr HO260) hb)
        replace HO263 := zab.mk (Kd.zat (by (with_reducible repeat (first | apply Kd.V_alloc | apply Kd.zak | apply Kd.zam)); exact HO263.out) hb)
        replace BK238 := Ykb BK238 hb
        replace BK239 := Ykb BK239 hb
        replace BK250 := Ykb BK250 hb
        replace BK256 := Ykb BK256 hb
        replace HB := zab.mk (za1 Yb_PGssPushesx9_3 hb)
        (try clear hb)
        (try clear hb2)
        (try clear hk)
        (try clear hi)
        refine hK.out _ _ ⟨(zaf BK250.out 0).trans rfl, (zaf BK256.out 0).trans rfl, (zaf BK238.out 0).trans rfl, (zaf BK239.out 0).trans rfl⟩ (fun hHeld => ?_)
        clear hK K
        refine Ynw 74 ?_
        refine Ypt 21 75 26 4194303 HT_ ?_
        refine Ypt 22 76 26 8388607 HT_ ?_
        refine Yot 23 77 26 16777215 HT_ (fun K hK => ?_)
        refine Ygs Try.func9 #[] ?_
        with_reducible refine (zbk.calls  t265 _ A53.out).mono ?_
        rintro e w79 ⟨rfl, hb⟩
        refine ⟨_, rfl, ?_⟩
        replace HO247 := zab.mk (Kd.zat (by (with_reducible repeat (first | apply Kd.V_alloc | apply Kd.zak | apply Kd.zam)); exact HO247.out) hb)
        replace HO253 := zab.mk (Kd.zat (by (with_reducible repeat (first | apply Kd.V_alloc | apply Kd.zak | apply Kd.zam)); exact HO253.out) hb)
        replace HO260 := zab.mk (Kd.zdd (Yr HO260) hb)
        replace HO263 := zab.mk (Kd.zat (by (with_reducible repeat (first | apply Kd.V_alloc | apply Kd.zak | apply Kd.zam)); exact HO263.out) hb)
        replace BK238 := Ykb BK238 hb
        replace BK239 := Ykb BK239 hb
        replace BK250 := Ykb BK250 hb
        replace BK256 := Ykb BK256 hb
        replace HB := zab.mk (za1 Yb_PGssPushesx9_3 hb)
        (try clear hb)
        (try clear hb2)
        (try clear hk)
        (try clear hi)
        refine hK.out _ _ ⟨(zaf BK250.out 0).trans rfl, (zaf BK256.out 0).trans rfl, (zaf BK238.out 0).trans rfl, (zaf BK239.out 0).trans rfl⟩ (fun hHeld => ?_)
        clear hK K
        refine Ynw 77 ?_
        refine Ypt 24 78 26 33554431 HT_ ?_
        refine Ypt 25 10 26 67108863 HT_ ?_
        refine zby (zbv HT_.out (by kernel_rfl)) ?_
        try go_wp2
        go_ret
        exact ⟨Yfi, Yb_PGssPushesx9_3⟩
       ·replace c52 := Bool.eq_false_iff.mpr c52
        subst c52
        have H1 : (some false) = some r := by rw [if_neg (show ¬ (false = true) by decide)] at H; exact H
        clear H;have H := H1;clear H1;obtain rfl := Option.some.inj H
        have hnb80 := NB238_239.out
        have hnc80 := NB239_238.out
        obtain ⟨hcz81_0, hfz81_0⟩ := Yc1 BK238.out
        try go_wp2_with (first | ((with_reducible refine za6 (f := 13) rfl ?_); refine Ygl (some 41) Try.func13 #[.agg #[.slice A0_0 l0_0.length c0_0], .int .i64 a2, .int .i64 a3, .int .i64 a4] ?_; (with_reducible refine (zc9.calls (fun k_ => k_ < w.heap.size) _ _ l0_0 a2 a3 a4 t245 t248 t249 _ ?side1 A43.out).mono ?_); (case side1 => exact Kd.V_mk HC0_0.out (Kd.zcq (Kd.C_F zcw HR0_0.out) Yb_PGssPushesx9_1)); rintro e w82 ⟨v246, rfl, ho0, hb⟩; refine ⟨_, rfl, ?_⟩; have HO247 := zab.mk (Kd.zc2 (Kd.zar (ok' := fun k_ => k_ ≠ gb238 ∧ k_ ≠ gb239) ho0 (fun k_ hk_ => ⟨Or.elim hk_ (fun hs_ => fun e_ => Nat.not_le.2 hs_ (by rw [e_]; exact GW238.out)) (fun hn_ => (Kd.zbh (g := gb238) (o := .cells #[.slice A0_0 l0_0.length c0_0] 24 (0, 0)) (Yg BK238) k_ hn_)), Or.elim hk_ (fun hs_ => fun e_ => Nat.not_le.2 hs_ (by rw [e_]; exact GW239.out)) (fun hn_ => (Kd.zbh (g := gb239) (o := .cells #[.slice A1_0 l1_0.length c1_0] 24 (0, 0)) (Yg BK239) k_ hn_))⟩)) (za7 Yb_PGssPushesx9_1)); replace BK238 := Ykb BK238 hb; replace BK239 := Ykb BK239 hb; replace HB := zab.mk (za1 Yb_PGssPushesx9_1 hb); (try clear hb); (try clear hb2); (try clear hk); (try clear hi); (try clear ho0)) | ((with_reducible refine zbb (N := 11) rfl ?_); refine Ybx 11 #[.slice none 0 0] 24 ?_; intro gb250 hg w83 hbox hb; replace HO247 := zab.mk (Kd.zat (Kd.zbi (by (with_reducible repeat (first | apply Kd.V_alloc | apply Kd.zak | apply Kd.zam)); exact HO247.out) gb250 (Nat.le_of_eq hg.symm)) hb); obtain ⟨BK250, GW250, GE250, HB⟩ := Yb4 hbox hg hb Yb_PGssPushesx9_1; have NB238_250 := Ynl BK238 hg; have NB250_238 := Yng BK238 hg; replace BK238 := Ykb BK238 hb; have NB239_250 := Ynl BK239 hg; have NB250_239 := Yng BK239 hg; replace BK239 := Ykb BK239 hb; clear hb hbox hg; obtain ⟨Ao84, co84, eo84⟩ := Kd.zbz HO247.out; subst eo84; have hnb85 := NB250_238.out; have hnc85 := NB238_250.out; have hnb86 := NB250_239.out; have hnc86 := NB239_250.out; obtain ⟨hcz87_0, hfz87_0⟩ := Yc1 BK250.out) | ((with_reducible refine zdt (t := 24) (p := 11) rfl ?_); refine zdl (t := 24) (p := 11) (v := ?vo_w88) (w1 := (w83.setCell ⟨gb250, 0, none⟩ (.slice Ao84 t245.length co84))) ?hg ?ho ?hn ?hr ?_; (case ho => rfl); (case hg => rfl); (case hn => rfl); (case hr => first | (go_simp; done) | (go_simp; rfl)); intro w88 hw; have n0_ : zab (Kd.V k38 38 w88 w.heap.size (fun k_ => k_ ≠ gb238 ∧ k_ ≠ gb239 ∧ k_ ≠ gb250) (.slice Ao84 t245.length co84) t245) := ⟨(by rw [hw]; exact (by (with_reducible repeat (first | apply Kd.V_alloc | apply Kd.zak | apply Kd.zam)); exact Kd.zar (Kd.za0 (p := ⟨gb250, 0, none⟩) (Kd.zar HO247.out (fun k_ hk => (⟨hk, hk.2⟩ : _ ∧ k_ ≠ gb250))) (fun _ hk => hk.2) (.slice Ao84 t245.length co84)) (fun _ hk => ⟨hk.1.1.1, ⟨hk.1.1.2, hk.1.2⟩⟩)))⟩; have n1_ : zab (w88.heap[gb238]? = some (.cells #[.slice A0_0 l0_0.length c0_0] 24 (0, 0))) := ⟨(by rw [hw]; exact (by (with_reducible repeat (first | refine zae ?_ _ | refine zac ?_ | refine zad ?_ _)); refine zaj ?_ NB238_250.out _; (with_reducible repeat (first | refine zae ?_ _ | refine zac ?_ | refine zad ?_ _)); exact BK238.out))⟩; have n2_ : zab (w88.heap[gb239]? = some (.cells #[.slice A1_0 l1_0.length c1_0] 24 (0, 0))) := ⟨(by rw [hw]; exact (by (with_reducible repeat (first | refine zae ?_ _ | refine zac ?_ | refine zad ?_ _)); refine zaj ?_ NB239_250.out _; (with_reducible repeat (first | refine zae ?_ _ | refine zac ?_ | refine zad ?_ _)); exact BK239.out))⟩; have n3_ : zab (w88.heap[gb250]? = some (.cells #[.slice Ao84 t245.length co84] 24 (0, 0))) := ⟨(by rw [hw]; exact (by (with_reducible repeat (first | refine zae ?_ _ | refine zac ?_ | refine zad ?_ _)); refine zas (cs := #[.slice none 0 0]) ?_ 0 _ rfl; (with_reducible repeat (first | refine zae ?_ _ | refine zac ?_ | refine zad ?_ _)); exact BK250.out))⟩; have n4_ : zab (Below w.heap.size w w88) := ⟨(by rw [hw]; exact Yb_PGssPushesx9_2)⟩; clear hw; clear HO247; clear BK238; clear BK239; clear BK250; clear HB; have HO247 := n0_; have BK238 := n1_; have BK239 := n2_; have BK250 := n3_; have HB := n4_; clear n0_ n1_ n2_ n3_ n4_; obtain ⟨hcz89_0, hfz89_0⟩ := Yc1 BK238.out) | ((with_reducible refine za6 (f := 15) rfl ?_); refine Ygl (some 50) Try.func15 #[.agg #[.slice A0_0 l0_0.length c0_0], .int .i64 a2, .int .i64 a3, .int .i64 a4] ?_; (with_reducible refine (zaq.calls kj5 (fun k_ => k_ < w.heap.size) _ _ l0_0 a2 a3 a4 t251 t254 t255 _ ?side1 A44.out).mono ?_); (case side1 => exact Kd.V_mk HC0_0.out (Kd.zcq (Kd.C_F zcw HR0_0.out) Yb_PGssPushesx9_2)); rintro e w90 ⟨v252, rfl, ho0, hb⟩; refine ⟨_, rfl, ?_⟩; replace HO247 := zab.mk (Kd.zat (by (with_reducible repeat (first | apply Kd.V_alloc | apply Kd.zak | apply Kd.zam)); exact HO247.out) hb); have HO253 := zab.mk (Kd.zc2 (Kd.zar (ok' := fun k_ => k_ ≠ gb238 ∧ k_ ≠ gb239 ∧ k_ ≠ gb250) ho0 (fun k_ hk_ => ⟨Or.elim hk_ (fun hs_ => fun e_ => Nat.not_le.2 hs_ (by rw [e_]; exact GW238.out)) (fun hn_ => (Kd.zbh (g := gb238) (o := .cells #[.slice A0_0 l0_0.length c0_0] 24 (0, 0)) (Yg BK238) k_ hn_)), Or.elim hk_ (fun hs_ => fun e_ => Nat.not_le.2 hs_ (by rw [e_]; exact GW239.out)) (fun hn_ => (Kd.zbh (g := gb239) (o := .cells #[.slice A1_0 l1_0.length c1_0] 24 (0, 0)) (Yg BK239) k_ hn_)), Or.elim hk_ (fun hs_ => fun e_ => Nat.not_le.2 hs_ (by rw [e_]; exact GW250.out)) (fun hn_ => (Kd.zbh (g := gb250) (o := .cells #[.slice Ao84 t245.length co84] 24 (0, 0)) (Yg BK250) k_ hn_))⟩)) (za7 Yb_PGssPushesx9_2)); replace BK238 := Ykb BK238 hb; replace BK239 := Ykb BK239 hb; replace BK250 := Ykb BK250 hb; replace HB := zab.mk (za1 Yb_PGssPushesx9_2 hb); (try clear hb); (try clear hb2); (try clear hk); (try clear hi); (try clear ho0)) | ((with_reducible refine zbb (N := 14) rfl ?_); refine Ybx 14 #[.slice none 0 0] 24 ?_; intro gb256 hg w91 hbox hb; replace HO247 := zab.mk (Kd.zat (Kd.zbi (by (with_reducible repeat (first | apply Kd.V_alloc | apply Kd.zak | apply Kd.zam)); exact HO247.out) gb256 (Nat.le_of_eq hg.symm)) hb); replace HO253 := zab.mk (Kd.zat (Kd.zbi (by (with_reducible repeat (first | apply Kd.V_alloc | apply Kd.zak | apply Kd.zam)); exact HO253.out) gb256 (Nat.le_of_eq hg.symm)) hb); obtain ⟨BK256, GW256, GE256, HB⟩ := Yb4 hbox hg hb Yb_PGssPushesx9_2; have NB238_256 := Ynl BK238 hg; have NB256_238 := Yng BK238 hg; replace BK238 := Ykb BK238 hb; have NB239_256 := Ynl BK239 hg; have NB256_239 := Yng BK239 hg; replace BK239 := Ykb BK239 hb; have NB250_256 := Ynl BK250 hg; have NB256_250 := Yng BK250 hg; replace BK250 := Ykb BK250 hb; clear hb hbox hg; obtain ⟨Ao92, co92, eo92⟩ := Kd.zbz HO253.out; subst eo92; have hnb93 := NB256_238.out; have hnc93 := NB238_256.out; have hnb94 := NB256_239.out; have hnc94 := NB239_256.out; have hnb95 := NB256_250.out; have hnc95 := NB250_256.out; obtain ⟨hcz96_0, hfz96_0⟩ := Yc1 BK256.out))
        have n0_ : zab (Kd.V k38 38 (w91.setCell ⟨gb256, 0, none⟩ (.slice Ao92 t251.length co92)) w.heap.size (fun k_ => k_ ≠ gb238 ∧ k_ ≠ gb239 ∧ k_ ≠ gb250 ∧ k_ ≠ gb256) (.slice Ao84 t245.length co84) t245) := ⟨by (with_reducible repeat (first | apply Kd.V_alloc | apply Kd.zak | apply Kd.zam)); exact Kd.zar (Kd.za0 (p := ⟨gb256, 0, none⟩) (Kd.zar HO247.out (fun k_ hk => (⟨hk, hk.2⟩ : _ ∧ k_ ≠ gb256))) (fun _ hk => hk.2) (.slice Ao92 t251.length co92)) (fun _ hk => ⟨hk.1.1.1, ⟨hk.1.1.2.1, ⟨hk.1.1.2.2, hk.1.2⟩⟩⟩)⟩
        have n1_ : zab (Kd.V k38 38 (w91.setCell ⟨gb256, 0, none⟩ (.slice Ao92 t251.length co92)) w.heap.size (fun k_ => k_ ≠ gb238 ∧ k_ ≠ gb239 ∧ k_ ≠ gb250 ∧ k_ ≠ gb256) (.slice Ao92 t251.length co92) t251) := ⟨by (with_reducible repeat (first | apply Kd.V_alloc | apply Kd.zak | apply Kd.zam)); exact Kd.zar (Kd.za0 (p := ⟨gb256, 0, none⟩) (Kd.zar HO253.out (fun k_ hk => (⟨hk, hk.2⟩ : _ ∧ k_ ≠ gb256))) (fun _ hk => hk.2) (.slice Ao92 t251.length co92)) (fun _ hk => ⟨hk.1.1.1, ⟨hk.1.1.2.1, ⟨hk.1.1.2.2, hk.1.2⟩⟩⟩)⟩
        have n2_ : zab ((w91.setCell ⟨gb256, 0, none⟩ (.slice Ao92 t251.length co92)).heap[gb238]? = some (.cells #[.slice A0_0 l0_0.length c0_0] 24 (0, 0))) := ⟨by (with_reducible repeat (first | refine zae ?_ _ | refine zac ?_ | refine zad ?_ _)); refine zaj ?_ NB238_256.out _; (with_reducible repeat (first | refine zae ?_ _ | refine zac ?_ | refine zad ?_ _)); exact BK238.out⟩
        have n3_ : zab ((w91.setCell ⟨gb256, 0, none⟩ (.slice Ao92 t251.length co92)).heap[gb239]? = some (.cells #[.slice A1_0 l1_0.length c1_0] 24 (0, 0))) := ⟨by (with_reducible repeat (first | refine zae ?_ _ | refine zac ?_ | refine zad ?_ _)); refine zaj ?_ NB239_256.out _; (with_reducible repeat (first | refine zae ?_ _ | refine zac ?_ | refine zad ?_ _)); exact BK239.out⟩
        have n4_ : zab ((w91.setCell ⟨gb256, 0, none⟩ (.slice Ao92 t251.length co92)).heap[gb250]? = some (.cells #[.slice Ao84 t245.length co84] 24 (0, 0))) := ⟨by (with_reducible repeat (first | refine zae ?_ _ | refine zac ?_ | refine zad ?_ _)); refine zaj ?_ NB250_256.out _; (with_reducible repeat (first | refine zae ?_ _ | refine zac ?_ | refine zad ?_ _)); exact BK250.out⟩
        have n5_ : zab ((w91.setCell ⟨gb256, 0, none⟩ (.slice Ao92 t251.length co92)).heap[gb256]? = some (.cells #[.slice Ao92 t251.length co92] 24 (0, 0))) := ⟨by (with_reducible repeat (first | refine zae ?_ _ | refine zac ?_ | refine zad ?_ _)); refine zas (cs := #[.slice none 0 0]) ?_ 0 _ rfl; (with_reducible repeat (first | refine zae ?_ _ | refine zac ?_ | refine zad ?_ _)); exact BK256.out⟩
        have n6_ : zab (Below w.heap.size w (w91.setCell ⟨gb256, 0, none⟩ (.slice Ao92 t251.length co92))) := ⟨Yb_PGssPushesx9_3⟩
        (try clear HO247)
        (try clear HO253)
        (try clear BK238)
        (try clear BK239)
        (try clear BK250)
        (try clear BK256)
        (try clear HB)
        generalize (w91.setCell ⟨gb256, 0, none⟩ (.slice Ao92 t251.length co92)) = w97 at n0_ n1_ n2_ n3_ n4_ n5_ n6_ ⊢
        have HO247 := n0_;have HO253 := n1_;have BK238 := n2_;have BK239 := n3_;have BK250 := n4_;have BK256 := n5_;have HB := n6_;clear n0_ n1_ n2_ n3_ n4_ n5_ n6_
        replace HO247 := zab.mk (Kd.zam HO247.out)
        replace HO253 := zab.mk (Kd.zam HO253.out)
        replace BK238 := zab.mk (zac BK238.out)
        replace BK239 := zab.mk (zac BK239.out)
        replace BK250 := zab.mk (zac BK250.out)
        replace BK256 := zab.mk (zac BK256.out)
        replace HB := zab.mk (zav HB.out)
        refine zbt (n := 26) (S := fun w' => w'.cell? ⟨gb250, 0, none⟩ = some (.slice Ao84 t245.length co84) ∧ w'.cell? ⟨gb256, 0, none⟩ = some (.slice Ao92 t251.length co92) ∧ w'.cell? ⟨gb238, 0, none⟩ = some (.slice A0_0 l0_0.length c0_0) ∧ w'.cell? ⟨gb239, 0, none⟩ = some (.slice A1_0 l1_0.length c1_0)) (ds := []) (Ymk 26 0) (by kernel_rfl) rfl rfl ⟨(zaf BK250.out 0).trans rfl, (zaf BK256.out 0).trans rfl, (zaf BK238.out 0).trans rfl, (zaf BK239.out 0).trans rfl⟩ (fun hHeld => ?_); refine zbo zao.tab5 zao.bits5 (fun HT_ HW_ => ?_)
        generalize w97.drew = w98 at HO247 HO253 BK238 BK239 BK250 BK256 HB hHeld ⊢
        refine Ytt 0 54 26 1 HT_ HW_ hHeld ?_
        refine Ytt 1 55 26 3 HT_ HW_ hHeld ?_
        refine Yot 2 56 26 7 HT_ (fun K hK => ?_)
        refine Ygs Try.func16 #[.agg #[.slice Ao84 t245.length co84], .agg #[.slice Ao92 t251.length co92]] ?_
        with_reducible refine (zay.calls kj5 _ _ t245 _ _ t251 true _ ?side1 ?side2 ?side3 ?side4 A45.out).mono ?_
        (case side1 => repeat (first | exact (Kd.V_reads' HO247.out).2.2 | (with_reducible refine Kd.C_alloc ?_ _) | (with_reducible refine Kd.C_drewN ?_ _) | (with_reducible refine Kd.C_drew ?_)))
        (case side2 => exact (Kd.V_reads' HO247.out).2.1)
        (case side3 => repeat (first | exact (Kd.V_reads' HO253.out).2.2 | (with_reducible refine Kd.C_alloc ?_ _) | (with_reducible refine Kd.C_drewN ?_ _) | (with_reducible refine Kd.C_drew ?_)))
        (case side4 => exact (Kd.V_reads' HO253.out).2.1)
        rintro e w99 ⟨rfl, hb⟩
        refine ⟨_, rfl, ?_⟩
        replace HO247 := zab.mk (Kd.zat (by (with_reducible repeat (first | apply Kd.V_alloc | apply Kd.zak | apply Kd.zam)); exact HO247.out) hb)
        replace HO253 := zab.mk (Kd.zat (by (with_reducible repeat (first | apply Kd.V_alloc | apply Kd.zak | apply Kd.zam)); exact HO253.out) hb)
        replace BK238 := Ykb BK238 hb
        replace BK239 := Ykb BK239 hb
        replace BK250 := Ykb BK250 hb
        replace BK256 := Ykb BK256 hb
        replace HB := zab.mk (za1 Yb_PGssPushesx9_3 hb)
        (try clear hb)
        (try clear hb2)
        (try clear hk)
        (try clear hi)
        refine hK.out _ _ ⟨(zaf BK250.out 0).trans rfl, (zaf BK256.out 0).trans rfl, (zaf BK238.out 0).trans rfl, (zaf BK239.out 0).trans rfl⟩ (fun hHeld => ?_)
        clear hK K
        refine Ynw 56 ?_
        refine Ypt 3 57 26 15 HT_ ?_
        refine Ypt 4 58 26 31 HT_ ?_
        refine Ypt 5 59 26 63 HT_ ?_
        refine Ypt 6 60 26 127 HT_ ?_
        refine Ypt 7 61 26 255 HT_ ?_
        refine Ypt 8 62 26 511 HT_ ?_
        refine Ypt 9 63 26 1023 HT_ ?_
        refine Ypt 10 64 26 2047 HT_ ?_
        refine Ypt 11 65 26 4095 HT_ ?_
        refine Ypt 12 66 26 8191 HT_ ?_
        refine Ypt 13 67 26 16383 HT_ ?_
        refine Ytt 14 68 26 32767 HT_ HW_ hHeld ?_
        refine Ytt 15 69 26 65535 HT_ HW_ hHeld ?_
        refine Ytt 17 71 26 196607 HT_ HW_ hHeld ?_
        refine Ytt 18 72 26 458751 HT_ HW_ hHeld ?_
        refine Yot 16 70 26 524287 HT_ (fun K hK => ?_)
        refine Ygs Try.func17 #[.agg #[.slice A0_0 l0_0.length c0_0], .agg #[.slice A1_0 l1_0.length c1_0]] ?_
        with_reducible refine (zcs.calls _ _ l0_0 _ _ l1_0 t258 _ (Kd.za4 HR0_0.out Ybe) HC0_0.out (Kd.za4 HR1_0.out Ybe) HC1_0.out A49.out).mono ?_
        rintro e w100 ⟨v259, rfl, ho0, hb⟩
        refine ⟨_, rfl, ?_⟩
        replace HO247 := zab.mk (Kd.V_elder' (by (with_reducible repeat (first | apply Kd.V_alloc | apply Kd.zak | apply Kd.zam)); exact HO247.out) (Kd.zdi ho0) hb)
        replace HO253 := zab.mk (Kd.V_elder' (by (with_reducible repeat (first | apply Kd.V_alloc | apply Kd.zak | apply Kd.zam)); exact HO253.out) (Kd.zdi ho0) hb)
        have HO260 := zab.mk (Kd.zde ho0 (za7 Yb_PGssPushesx9_3))
        replace BK238 := Ykb BK238 hb
        replace BK239 := Ykb BK239 hb
        replace BK250 := Ykb BK250 hb
        replace BK256 := Ykb BK256 hb
        replace HB := zab.mk (za1 Yb_PGssPushesx9_3 hb)
        (try clear hb)
        (try clear hb2)
        (try clear hk)
        (try clear hi)
        (try clear ho0)
        refine hK.out _ _ ⟨(zaf BK250.out 0).trans rfl, (zaf BK256.out 0).trans rfl, (zaf BK238.out 0).trans rfl, (zaf BK239.out 0).trans rfl⟩ (fun hHeld => ?_)
        clear hK K
        refine Ynw 70 ?_
        refine Yot 19 73 26 1048575 HT_ (fun K hK => ?_)
        refine Ygs Try.func18 #[.agg #[.slice A0_0 l0_0.length c0_0], .agg #[.slice A1_0 l1_0.length c1_0]] ?_
        with_reducible refine (zan.calls kj5 (fun k_ => k_ < w.heap.size) _ _ l0_0 (fun k_ => k_ < w.heap.size) _ _ l1_0 t261 _ ?side1 ?side2 A50.out).mono ?_
        (case side1 => exact Kd.V_mk HC0_0.out (Kd.zcq (Kd.C_F zcw HR0_0.out) Yb_PGssPushesx9_3))
        (case side2 => exact Kd.V_mk HC1_0.out (Kd.zcq (Kd.C_F zcw HR1_0.out) Yb_PGssPushesx9_3))
        rintro e w101 ⟨v262, rfl, ho0, hb⟩
        refine ⟨_, rfl, ?_⟩
        replace HO247 := zab.mk (Kd.zat (by (with_reducible repeat (first | apply Kd.V_alloc | apply Kd.zak | apply Kd.zam)); exact HO247.out) hb)
        replace HO253 := zab.mk (Kd.zat (by (with_reducible repeat (first | apply Kd.V_alloc | apply Kd.zak | apply Kd.zam)); exact HO253.out) hb)
        have HO263 := zab.mk (Kd.zc2 (Kd.zar (ok' := fun k_ => some k_ ≠ (v259 : Value).ownBlock ∧ k_ ≠ gb238 ∧ k_ ≠ gb239 ∧ k_ ≠ gb250 ∧ k_ ≠ gb256) ho0 (fun k_ hk_ => ⟨Or.elim hk_ (fun hs_ => Or.elim hs_ (fun hs_ => fun e_ => Nat.not_le.2 hs_ (Kd.zdi HO260.out k_ e_.symm)) (fun hs_ => fun e_ => Nat.not_le.2 hs_ (Kd.zdi HO260.out k_ e_.symm))) (fun hn_ => (Kd.fresh' (Kd.R_lt (Yr HO260)) k_ hn_)), Or.elim hk_ (fun hs_ => Or.elim hs_ (fun hs_ => fun e_ => Nat.not_le.2 hs_ (by rw [e_]; exact GW238.out)) (fun hs_ => fun e_ => Nat.not_le.2 hs_ (by rw [e_]; exact GW238.out))) (fun hn_ => (Kd.zbh (g := gb238) (o := .cells #[.slice A0_0 l0_0.length c0_0] 24 (0, 0)) (Yg BK238) k_ hn_)), Or.elim hk_ (fun hs_ => Or.elim hs_ (fun hs_ => fun e_ => Nat.not_le.2 hs_ (by rw [e_]; exact GW239.out)) (fun hs_ => fun e_ => Nat.not_le.2 hs_ (by rw [e_]; exact GW239.out))) (fun hn_ => (Kd.zbh (g := gb239) (o := .cells #[.slice A1_0 l1_0.length c1_0] 24 (0, 0)) (Yg BK239) k_ hn_)), Or.elim hk_ (fun hs_ => Or.elim hs_ (fun hs_ => fun e_ => Nat.not_le.2 hs_ (by rw [e_]; exact GW250.out)) (fun hs_ => fun e_ => Nat.not_le.2 hs_ (by rw [e_]; exact GW250.out))) (fun hn_ => (Kd.zbh (g := gb250) (o := .cells #[.slice Ao84 t245.length co84] 24 (0, 0)) (Yg BK250) k_ hn_)), Or.elim hk_ (fun hs_ => Or.elim hs_ (fun hs_ => fun e_ => Nat.not_le.2 hs_ (by rw [e_]; exact GW256.out)) (fun hs_ => fun e_ => Nat.not_le.2 hs_ (by rw [e_]; exact GW256.out))) (fun hn_ => (Kd.zbh (g := gb256) (o := .cells #[.slice Ao92 t251.length co92] 24 (0, 0)) (Yg BK256) k_ hn_))⟩)) (za7 Yb_PGssPushesx9_3))
        replace HO260 := zab.mk (Kd.zdd (Yr HO260) hb)
        replace BK238 := Ykb BK238 hb
        replace BK239 := Ykb BK239 hb
        replace BK250 := Ykb BK250 hb
        replace BK256 := Ykb BK256 hb
        replace HB := zab.mk (za1 Yb_PGssPushesx9_3 hb)
        (try clear hb)
        (try clear hb2)
        (try clear hk)
        (try clear hi)
        (try clear ho0)
        obtain ⟨Ao102, co102, eo102⟩ := Kd.zcf HO260.out
        (first | subst eo102 | (injection eo102 with f1_ f2_ f3_; have f4_ := f1_.symm; have f5_ := f3_.symm; clear f1_ f2_ f3_; subst f4_; subst f5_))
        obtain ⟨Ao103, co103, eo103⟩ := Kd.zbz HO263.out
        (first | subst eo103 | (injection eo103 with f1_ f2_ f3_; have f4_ := f1_.symm; have f5_ := f3_.symm; clear f1_ f2_ f3_; subst f4_; subst f5_))
        refine hK.out _ _ ⟨(zaf BK250.out 0).trans rfl, (zaf BK256.out 0).trans rfl, (zaf BK238.out 0).trans rfl, (zaf BK239.out 0).trans rfl⟩ (fun hHeld => ?_)
        clear hK K
        refine Ynw 73 ?_
        refine Yot 20 74 26 2097151 HT_ (fun K hK => ?_)
        refine Ygs Try.func16 #[.agg #[.slice Ao102 t258.length co102], .agg #[.slice Ao103 t261.length co103]] ?_
        with_reducible refine (zay.calls kj5 _ _ t258 _ _ t261 false _ ?side1 ?side2 ?side3 ?side4 A51.out).mono ?_
        (case side1 => repeat (first | exact (Kd.R_reads' HO260.out).2.2 | (with_reducible refine Kd.C_alloc ?_ _) | (with_reducible refine Kd.C_drewN ?_ _) | (with_reducible refine Kd.C_drew ?_)))
        (case side2 => exact (Kd.R_reads' HO260.out).2.1)
        (case side3 => repeat (first | exact (Kd.V_reads' HO263.out).2.2 | (with_reducible refine Kd.C_alloc ?_ _) | (with_reducible refine Kd.C_drewN ?_ _) | (with_reducible refine Kd.C_drew ?_)))
        (case side4 => exact (Kd.V_reads' HO263.out).2.1)
        rintro e w104 ⟨rfl, hb⟩
        refine ⟨_, rfl, ?_⟩
        replace HO247 := zab.mk (Kd.zat (by (with_reducible repeat (first | apply Kd.V_alloc | apply Kd.zak | apply Kd.zam)); exact HO247.out) hb)
        replace HO253 := zab.mk (Kd.zat (by (with_reducible repeat (first | apply Kd.V_alloc | apply Kd.zak | apply Kd.zam)); exact HO253.out) hb)
        replace HO260 := zab.mk (Kd.zdd (Yr HO260) hb)
        replace HO263 := zab.mk (Kd.zat (by (with_reducible repeat (first | apply Kd.V_alloc | apply Kd.zak | apply Kd.zam)); exact HO263.out) hb)
        replace BK238 := Ykb BK238 hb
        replace BK239 := Ykb BK239 hb
        replace BK250 := Ykb BK250 hb
        replace BK256 := Ykb BK256 hb
        replace HB := zab.mk (za1 Yb_PGssPushesx9_3 hb)
        (try clear hb)
        (try clear hb2)
        (try clear hk)
        (try clear hi)
        refine hK.out _ _ ⟨(zaf BK250.out 0).trans rfl, (zaf BK256.out 0).trans rfl, (zaf BK238.out 0).trans rfl, (zaf BK239.out 0).trans rfl⟩ (fun hHeld => ?_)
        clear hK K
        refine Ynw 74 ?_
        refine Ypt 21 75 26 4194303 HT_ ?_
        refine Ypt 22 76 26 8388607 HT_ ?_
        refine Ypu 23 77 26 16777215 HT_ ?_
        refine Ypt 24 78 26 33554431 HT_ ?_
        refine Ypt 25 10 26 67108863 HT_ ?_
        refine zby (zbv HT_.out (by kernel_rfl)) ?_
        try go_wp2
        go_ret
        exact ⟨Yfi, Yb_PGssPushesx9_3⟩
      ·rw [if_neg c48] at H
       have c48b0 : (t249 == t255) = false := by simpa using c48
       (try (have c48b1 : decide (t249 = t255) = false := by simpa using c48))
       (try (have c48b2 : (t249 == t255) = false := by simpa using c48))
       (try (have c48b3 : ¬ (t249 = t255) := by simpa using c48))
       clear c48;obtain rfl := Option.some.inj H
       have hnb105 := NB238_239.out
       have hnc105 := NB239_238.out
       obtain ⟨hcz106_0, hfz106_0⟩ := Yc1 BK238.out
       try go_wp2_with (first | ((with_reducible refine za6 (f := 13) rfl ?_); refine Ygl (some 41) Try.func13 #[.agg #[.slice A0_0 l0_0.length c0_0], .int .i64 a2, .int .i64 a3, .int .i64 a4] ?_; (with_reducible refine (zc9.calls (fun k_ => k_ < w.heap.size) _ _ l0_0 a2 a3 a4 t245 t248 t249 _ ?side1 A43.out).mono ?_); (case side1 => exact Kd.V_mk HC0_0.out (Kd.zcq (Kd.C_F zcw HR0_0.out) Yb_PGssPushesx9_1)); rintro e w107 ⟨v246, rfl, ho0, hb⟩; refine ⟨_, rfl, ?_⟩; have HO247 := zab.mk (Kd.zc2 (Kd.zar (ok' := fun k_ => k_ ≠ gb238 ∧ k_ ≠ gb239) ho0 (fun k_ hk_ => ⟨Or.elim hk_ (fun hs_ => fun e_ => Nat.not_le.2 hs_ (by rw [e_]; exact GW238.out)) (fun hn_ => (Kd.zbh (g := gb238) (o := .cells #[.slice A0_0 l0_0.length c0_0] 24 (0, 0)) (Yg BK238) k_ hn_)), Or.elim hk_ (fun hs_ => fun e_ => Nat.not_le.2 hs_ (by rw [e_]; exact GW239.out)) (fun hn_ => (Kd.zbh (g := gb239) (o := .cells #[.slice A1_0 l1_0.length c1_0] 24 (0, 0)) (Yg BK239) k_ hn_))⟩)) (za7 Yb_PGssPushesx9_1)); replace BK238 := Ykb BK238 hb; replace BK239 := Ykb BK239 hb; replace HB := zab.mk (za1 Yb_PGssPushesx9_1 hb); (try clear hb); (try clear hb2); (try clear hk); (try clear hi); (try clear ho0)) | ((with_reducible refine zbb (N := 11) rfl ?_); refine Ybx 11 #[.slice none 0 0] 24 ?_; intro gb250 hg w108 hbox hb; replace HO247 := zab.mk (Kd.zat (Kd.zbi (by (with_reducible repeat (first | apply Kd.V_alloc | apply Kd.zak | apply Kd.zam)); exact HO247.out) gb250 (Nat.le_of_eq hg.symm)) hb); obtain ⟨BK250, GW250, GE250, HB⟩ := Yb4 hbox hg hb Yb_PGssPushesx9_1; have NB238_250 := Ynl BK238 hg; have NB250_238 := Yng BK238 hg; replace BK238 := Ykb BK238 hb; have NB239_250 := Ynl BK239 hg; have NB250_239 := Yng BK239 hg; replace BK239 := Ykb BK239 hb; clear hb hbox hg; obtain ⟨Ao109, co109, eo109⟩ := Kd.zbz HO247.out; subst eo109; have hnb110 := NB250_238.out; have hnc110 := NB238_250.out; have hnb111 := NB250_239.out; have hnc111 := NB239_250.out; obtain ⟨hcz112_0, hfz112_0⟩ := Yc1 BK250.out) | ((with_reducible refine zdt (t := 24) (p := 11) rfl ?_); refine zdl (t := 24) (p := 11) (v := ?vo_w113) (w1 := (w108.setCell ⟨gb250, 0, none⟩ (.slice Ao109 t245.length co109))) ?hg ?ho ?hn ?hr ?_; (case ho => rfl); (case hg => rfl); (case hn => rfl); (case hr => first | (go_simp; done) | (go_simp; rfl)); intro w113 hw; have n0_ : zab (Kd.V k38 38 w113 w.heap.size (fun k_ => k_ ≠ gb238 ∧ k_ ≠ gb239 ∧ k_ ≠ gb250) (.slice Ao109 t245.length co109) t245) := ⟨(by rw [hw]; exact (by (with_reducible repeat (first | apply Kd.V_alloc | apply Kd.zak | apply Kd.zam)); exact Kd.zar (Kd.za0 (p := ⟨gb250, 0, none⟩) (Kd.zar HO247.out (fun k_ hk => (⟨hk, hk.2⟩ : _ ∧ k_ ≠ gb250))) (fun _ hk => hk.2) (.slice Ao109 t245.length co109)) (fun _ hk => ⟨hk.1.1.1, ⟨hk.1.1.2, hk.1.2⟩⟩)))⟩; have n1_ : zab (w113.heap[gb238]? = some (.cells #[.slice A0_0 l0_0.length c0_0] 24 (0, 0))) := ⟨(by rw [hw]; exact (by (with_reducible repeat (first | refine zae ?_ _ | refine zac ?_ | refine zad ?_ _)); refine zaj ?_ NB238_250.out _; (with_reducible repeat (first | refine zae ?_ _ | refine zac ?_ | refine zad ?_ _)); exact BK238.out))⟩; have n2_ : zab (w113.heap[gb239]? = some (.cells #[.slice A1_0 l1_0.length c1_0] 24 (0, 0))) := ⟨(by rw [hw]; exact (by (with_reducible repeat (first | refine zae ?_ _ | refine zac ?_ | refine zad ?_ _)); refine zaj ?_ NB239_250.out _; (with_reducible repeat (first | refine zae ?_ _ | refine zac ?_ | refine zad ?_ _)); exact BK239.out))⟩; have n3_ : zab (w113.heap[gb250]? = some (.cells #[.slice Ao109 t245.length co109] 24 (0, 0))) := ⟨(by rw [hw]; exact (by (with_reducible repeat (first | refine zae ?_ _ | refine zac ?_ | refine zad ?_ _)); refine zas (cs := #[.slice none 0 0]) ?_ 0 _ rfl; (with_reducible repeat (first | refine zae ?_ _ | refine zac ?_ | refine zad ?_ _)); exact BK250.out))⟩; have n4_ : zab (Below w.heap.size w w113) := ⟨(by rw [hw]; exact Yb_PGssPushesx9_2)⟩; clear hw; clear HO247; clear BK238; clear BK239; clear BK250; clear HB; have HO247 := n0_; have BK238 := n1_; have BK239 := n2_; have BK250 := n3_; have HB := n4_; clear n0_ n1_ n2_ n3_ n4_; obtain ⟨hcz114_0, hfz114_0⟩ := Yc1 BK238.out) | ((with_reducible refine za6 (f := 15) rfl ?_); refine Ygl (some 50) Try.func15 #[.agg #[.slice A0_0 l0_0.length c0_0], .int .i64 a2, .int .i64 a3, .int .i64 a4] ?_; (with_reducible refine (zaq.calls kj5 (fun k_ => k_ < w.heap.size) _ _ l0_0 a2 a3 a4 t251 t254 t255 _ ?side1 A44.out).mono ?_); (case side1 => exact Kd.V_mk HC0_0.out (Kd.zcq (Kd.C_F zcw HR0_0.out) Yb_PGssPushesx9_2)); rintro e w115 ⟨v252, rfl, ho0, hb⟩; refine ⟨_, rfl, ?_⟩; replace HO247 := zab.mk (Kd.zat (by (with_reducible repeat (first | apply Kd.V_alloc | apply Kd.zak | apply Kd.zam)); exact HO247.out) hb); have HO253 := zab.mk (Kd.zc2 (Kd.zar (ok' := fun k_ => k_ ≠ gb238 ∧ k_ ≠ gb239 ∧ k_ ≠ gb250) ho0 (fun k_ hk_ => ⟨Or.elim hk_ (fun hs_ => fun e_ => Nat.not_le.2 hs_ (by rw [e_]; exact GW238.out)) (fun hn_ => (Kd.zbh (g := gb238) (o := .cells #[.slice A0_0 l0_0.length c0_0] 24 (0, 0)) (Yg BK238) k_ hn_)), Or.elim hk_ (fun hs_ => fun e_ => Nat.not_le.2 hs_ (by rw [e_]; exact GW239.out)) (fun hn_ => (Kd.zbh (g := gb239) (o := .cells #[.slice A1_0 l1_0.length c1_0] 24 (0, 0)) (Yg BK239) k_ hn_)), Or.elim hk_ (fun hs_ => fun e_ => Nat.not_le.2 hs_ (by rw [e_]; exact GW250.out)) (fun hn_ => (Kd.zbh (g := gb250) (o := .cells #[.slice Ao109 t245.length co109] 24 (0, 0)) (Yg BK250) k_ hn_))⟩)) (za7 Yb_PGssPushesx9_2)); replace BK238 := Ykb BK238 hb; replace BK239 := Ykb BK239 hb; replace BK250 := Ykb BK250 hb; replace HB := zab.mk (za1 Yb_PGssPushesx9_2 hb); (try clear hb); (try clear hb2); (try clear hk); (try clear hi); (try clear ho0)) | ((with_reducible refine zbb (N := 14) rfl ?_); refine Ybx 14 #[.slice none 0 0] 24 ?_; intro gb256 hg w116 hbox hb; replace HO247 := zab.mk (Kd.zat (Kd.zbi (by (with_reducible repeat (first | apply Kd.V_alloc | apply Kd.zak | apply Kd.zam)); exact HO247.out) gb256 (Nat.le_of_eq hg.symm)) hb); replace HO253 := zab.mk (Kd.zat (Kd.zbi (by (with_reducible repeat (first | apply Kd.V_alloc | apply Kd.zak | apply Kd.zam)); exact HO253.out) gb256 (Nat.le_of_eq hg.symm)) hb); obtain ⟨BK256, GW256, GE256, HB⟩ := Yb4 hbox hg hb Yb_PGssPushesx9_2; have NB238_256 := Ynl BK238 hg; have NB256_238 := Yng BK238 hg; replace BK238 := Ykb BK238 hb; have NB239_256 := Ynl BK239 hg; have NB256_239 := Yng BK239 hg; replace BK239 := Ykb BK239 hb; have NB250_256 := Ynl BK250 hg; have NB256_250 := Yng BK250 hg; replace BK250 := Ykb BK250 hb; clear hb hbox hg; obtain ⟨Ao117, co117, eo117⟩ := Kd.zbz HO253.out; subst eo117; have hnb118 := NB256_238.out; have hnc118 := NB238_256.out; have hnb119 := NB256_239.out; have hnc119 := NB239_256.out; have hnb120 := NB256_250.out; have hnc120 := NB250_256.out; obtain ⟨hcz121_0, hfz121_0⟩ := Yc1 BK256.out))
       have n0_ : zab (Kd.V k38 38 (w116.setCell ⟨gb256, 0, none⟩ (.slice Ao117 t251.length co117)) w.heap.size (fun k_ => k_ ≠ gb238 ∧ k_ ≠ gb239 ∧ k_ ≠ gb250 ∧ k_ ≠ gb256) (.slice Ao109 t245.length co109) t245) := ⟨by (with_reducible repeat (first | apply Kd.V_alloc | apply Kd.zak | apply Kd.zam)); exact Kd.zar (Kd.za0 (p := ⟨gb256, 0, none⟩) (Kd.zar HO247.out (fun k_ hk => (⟨hk, hk.2⟩ : _ ∧ k_ ≠ gb256))) (fun _ hk => hk.2) (.slice Ao117 t251.length co117)) (fun _ hk => ⟨hk.1.1.1, ⟨hk.1.1.2.1, ⟨hk.1.1.2.2, hk.1.2⟩⟩⟩)⟩
       have n1_ : zab (Kd.V k38 38 (w116.setCell ⟨gb256, 0, none⟩ (.slice Ao117 t251.length co117)) w.heap.size (fun k_ => k_ ≠ gb238 ∧ k_ ≠ gb239 ∧ k_ ≠ gb250 ∧ k_ ≠ gb256) (.slice Ao117 t251.length co117) t251) := ⟨by (with_reducible repeat (first | apply Kd.V_alloc | apply Kd.zak | apply Kd.zam)); exact Kd.zar (Kd.za0 (p := ⟨gb256, 0, none⟩) (Kd.zar HO253.out (fun k_ hk => (⟨hk, hk.2⟩ : _ ∧ k_ ≠ gb256))) (fun _ hk => hk.2) (.slice Ao117 t251.length co117)) (fun _ hk => ⟨hk.1.1.1, ⟨hk.1.1.2.1, ⟨hk.1.1.2.2, hk.1.2⟩⟩⟩)⟩
       have n2_ : zab ((w116.setCell ⟨gb256, 0, none⟩ (.slice Ao117 t251.length co117)).heap[gb238]? = some (.cells #[.slice A0_0 l0_0.length c0_0] 24 (0, 0))) := ⟨by (with_reducible repeat (first | refine zae ?_ _ | refine zac ?_ | refine zad ?_ _)); refine zaj ?_ NB238_256.out _; (with_reducible repeat (first | refine zae ?_ _ | refine zac ?_ | refine zad ?_ _)); exact BK238.out⟩
       have n3_ : zab ((w116.setCell ⟨gb256, 0, none⟩ (.slice Ao117 t251.length co117)).heap[gb239]? = some (.cells #[.slice A1_0 l1_0.length c1_0] 24 (0, 0))) := ⟨by (with_reducible repeat (first | refine zae ?_ _ | refine zac ?_ | refine zad ?_ _)); refine zaj ?_ NB239_256.out _; (with_reducible repeat (first | refine zae ?_ _ | refine zac ?_ | refine zad ?_ _)); exact BK239.out⟩
       have n4_ : zab ((w116.setCell ⟨gb256, 0, none⟩ (.slice Ao117 t251.length co117)).heap[gb250]? = some (.cells #[.slice Ao109 t245.length co109] 24 (0, 0))) := ⟨by (with_reducible repeat (first | refine zae ?_ _ | refine zac ?_ | refine zad ?_ _)); refine zaj ?_ NB250_256.out _; (with_reducible repeat (first | refine zae ?_ _ | refine zac ?_ | refine zad ?_ _)); exact BK250.out⟩
       have n5_ : zab ((w116.setCell ⟨gb256, 0, none⟩ (.slice Ao117 t251.length co117)).heap[gb256]? = some (.cells #[.slice Ao117 t251.length co117] 24 (0, 0))) := ⟨by (with_reducible repeat (first | refine zae ?_ _ | refine zac ?_ | refine zad ?_ _)); refine zas (cs := #[.slice none 0 0]) ?_ 0 _ rfl; (with_reducible repeat (first | refine zae ?_ _ | refine zac ?_ | refine zad ?_ _)); exact BK256.out⟩
       have n6_ : zab (Below w.heap.size w (w116.setCell ⟨gb256, 0, none⟩ (.slice Ao117 t251.length co117))) := ⟨Yb_PGssPushesx9_3⟩
       (try clear HO247)
       (try clear HO253)
       (try clear BK238)
       (try clear BK239)
       (try clear BK250)
       (try clear BK256)
       (try clear HB)
       generalize (w116.setCell ⟨gb256, 0, none⟩ (.slice Ao117 t251.length co117)) = w122 at n0_ n1_ n2_ n3_ n4_ n5_ n6_ ⊢
       have HO247 := n0_;have HO253 := n1_;have BK238 := n2_;have BK239 := n3_;have BK250 := n4_;have BK256 := n5_;have HB := n6_;clear n0_ n1_ n2_ n3_ n4_ n5_ n6_
       replace HO247 := zab.mk (Kd.zam HO247.out)
       replace HO253 := zab.mk (Kd.zam HO253.out)
       replace BK238 := zab.mk (zac BK238.out)
       replace BK239 := zab.mk (zac BK239.out)
       replace BK250 := zab.mk (zac BK250.out)
       replace BK256 := zab.mk (zac BK256.out)
       replace HB := zab.mk (zav HB.out)
       refine zbt (n := 26) (S := fun w' => w'.cell? ⟨gb250, 0, none⟩ = some (.slice Ao109 t245.length co109) ∧ w'.cell? ⟨gb256, 0, none⟩ = some (.slice Ao117 t251.length co117)) (ds := []) (Ymk 26 0) (by kernel_rfl) rfl rfl ⟨(zaf BK250.out 0).trans rfl, (zaf BK256.out 0).trans rfl⟩ (fun hHeld => ?_); refine zbo zao.tab5 zao.bits5 (fun HT_ HW_ => ?_)
       generalize w122.drew = w123 at HO247 HO253 BK238 BK239 BK250 BK256 HB hHeld ⊢
       refine Ytt 0 54 26 1 HT_ HW_ hHeld ?_
       refine Ytt 1 55 26 3 HT_ HW_ hHeld ?_
       refine Yot 2 56 26 7 HT_ (fun K hK => ?_)
       refine Ygs Try.func16 #[.agg #[.slice Ao109 t245.length co109], .agg #[.slice Ao117 t251.length co117]] ?_
       with_reducible refine (zay.calls kj5 _ _ t245 _ _ t251 true _ ?side1 ?side2 ?side3 ?side4 A45.out).mono ?_
       (case side1 => repeat (first | exact (Kd.V_reads' HO247.out).2.2 | (with_reducible refine Kd.C_alloc ?_ _) | (with_reducible refine Kd.C_drewN ?_ _) | (with_reducible refine Kd.C_drew ?_)))
       (case side2 => exact (Kd.V_reads' HO247.out).2.1)
       (case side3 => repeat (first | exact (Kd.V_reads' HO253.out).2.2 | (with_reducible refine Kd.C_alloc ?_ _) | (with_reducible refine Kd.C_drewN ?_ _) | (with_reducible refine Kd.C_drew ?_)))
       (case side4 => exact (Kd.V_reads' HO253.out).2.1)
       rintro e w124 ⟨rfl, hb⟩
       refine ⟨_, rfl, ?_⟩
       replace HO247 := zab.mk (Kd.zat (by (with_reducible repeat (first | apply Kd.V_alloc | apply Kd.zak | apply Kd.zam)); exact HO247.out) hb)
       replace HO253 := zab.mk (Kd.zat (by (with_reducible repeat (first | apply Kd.V_alloc | apply Kd.zak | apply Kd.zam)); exact HO253.out) hb)
       replace BK238 := Ykb BK238 hb
       replace BK239 := Ykb BK239 hb
       replace BK250 := Ykb BK250 hb
       replace BK256 := Ykb BK256 hb
       replace HB := zab.mk (za1 Yb_PGssPushesx9_3 hb)
       (try clear hb)
       (try clear hb2)
       (try clear hk)
       (try clear hi)
       refine hK.out _ _ ⟨(zaf BK250.out 0).trans rfl, (zaf BK256.out 0).trans rfl⟩ (fun hHeld => ?_)
       clear hK K
       refine Ynw 56 ?_
       refine Ypt 3 57 26 15 HT_ ?_
       refine Ypt 4 58 26 31 HT_ ?_
       refine Ypt 5 59 26 63 HT_ ?_
       refine Ypt 6 60 26 127 HT_ ?_
       refine Ypt 7 61 26 255 HT_ ?_
       refine Ypt 8 62 26 511 HT_ ?_
       refine Ypt 9 63 26 1023 HT_ ?_
       refine Ypt 10 64 26 2047 HT_ ?_
       refine Ypt 11 65 26 4095 HT_ ?_
       refine Ypt 12 66 26 8191 HT_ ?_
       refine Ypt 13 67 26 16383 HT_ ?_
       refine Ypu 14 68 26 32767 HT_ ?_
       refine Ypu 15 69 26 65535 HT_ ?_
       refine Ypu 16 70 26 131071 HT_ ?_
       refine Ypu 17 71 26 262143 HT_ ?_
       refine Ypu 18 72 26 524287 HT_ ?_
       refine Ypu 19 73 26 1048575 HT_ ?_
       refine Ypu 20 74 26 2097151 HT_ ?_
       refine Ypt 21 75 26 4194303 HT_ ?_
       refine Ypt 22 76 26 8388607 HT_ ?_
       refine Ypu 23 77 26 16777215 HT_ ?_
       refine Ypt 24 78 26 33554431 HT_ ?_
       refine Ypt 25 10 26 67108863 HT_ ?_
       refine zby (zbv HT_.out (by kernel_rfl)) ?_
       try go_wp2
       go_ret
       exact ⟨Yfi, Yb_PGssPushesx9_3⟩
     ·rw [if_neg c47] at H
      have c47b0 : (t248 == t254) = false := beq_eq_false_iff_ne.mpr c47
      have c47b1 : (t248 != t254) = true := bne_iff_ne.mpr c47
      obtain rfl := Option.some.inj H
      have hnb125 := NB238_239.out
      have hnc125 := NB239_238.out
      obtain ⟨hcz126_0, hfz126_0⟩ := Yc1 BK238.out
      try go_wp2_with (first | ((with_reducible refine za6 (f := 13) rfl ?_); refine Ygl (some 41) Try.func13 #[.agg #[.slice A0_0 l0_0.length c0_0], .int .i64 a2, .int .i64 a3, .int .i64 a4] ?_; (with_reducible refine (zc9.calls (fun k_ => k_ < w.heap.size) _ _ l0_0 a2 a3 a4 t245 t248 t249 _ ?side1 A43.out).mono ?_); (case side1 => exact Kd.V_mk HC0_0.out (Kd.zcq (Kd.C_F zcw HR0_0.out) Yb_PGssPushesx9_1)); rintro e w127 ⟨v246, rfl, ho0, hb⟩; refine ⟨_, rfl, ?_⟩; have HO247 := zab.mk (Kd.zc2 (Kd.zar (ok' := fun k_ => k_ ≠ gb238 ∧ k_ ≠ gb239) ho0 (fun k_ hk_ => ⟨Or.elim hk_ (fun hs_ => fun e_ => Nat.not_le.2 hs_ (by rw [e_]; exact GW238.out)) (fun hn_ => (Kd.zbh (g := gb238) (o := .cells #[.slice A0_0 l0_0.length c0_0] 24 (0, 0)) (Yg BK238) k_ hn_)), Or.elim hk_ (fun hs_ => fun e_ => Nat.not_le.2 hs_ (by rw [e_]; exact GW239.out)) (fun hn_ => (Kd.zbh (g := gb239) (o := .cells #[.slice A1_0 l1_0.length c1_0] 24 (0, 0)) (Yg BK239) k_ hn_))⟩)) (za7 Yb_PGssPushesx9_1)); replace BK238 := Ykb BK238 hb; replace BK239 := Ykb BK239 hb; replace HB := zab.mk (za1 Yb_PGssPushesx9_1 hb); (try clear hb); (try clear hb2); (try clear hk); (try clear hi); (try clear ho0)) | ((with_reducible refine zbb (N := 11) rfl ?_); refine Ybx 11 #[.slice none 0 0] 24 ?_; intro gb250 hg w128 hbox hb; replace HO247 := zab.mk (Kd.zat (Kd.zbi (by (with_reducible repeat (first | apply Kd.V_alloc | apply Kd.zak | apply Kd.zam)); exact HO247.out) gb250 (Nat.le_of_eq hg.symm)) hb); obtain ⟨BK250, GW250, GE250, HB⟩ := Yb4 hbox hg hb Yb_PGssPushesx9_1; have NB238_250 := Ynl BK238 hg; have NB250_238 := Yng BK238 hg; replace BK238 := Ykb BK238 hb; have NB239_250 := Ynl BK239 hg; have NB250_239 := Yng BK239 hg; replace BK239 := Ykb BK239 hb; clear hb hbox hg; obtain ⟨Ao129, co129, eo129⟩ := Kd.zbz HO247.out; subst eo129; have hnb130 := NB250_238.out; have hnc130 := NB238_250.out; have hnb131 := NB250_239.out; have hnc131 := NB239_250.out; obtain ⟨hcz132_0, hfz132_0⟩ := Yc1 BK250.out) | ((with_reducible refine zdt (t := 24) (p := 11) rfl ?_); refine zdl (t := 24) (p := 11) (v := ?vo_w133) (w1 := (w128.setCell ⟨gb250, 0, none⟩ (.slice Ao129 t245.length co129))) ?hg ?ho ?hn ?hr ?_; (case ho => rfl); (case hg => rfl); (case hn => rfl); (case hr => first | (go_simp; done) | (go_simp; rfl)); intro w133 hw; have n0_ : zab (Kd.V k38 38 w133 w.heap.size (fun k_ => k_ ≠ gb238 ∧ k_ ≠ gb239 ∧ k_ ≠ gb250) (.slice Ao129 t245.length co129) t245) := ⟨(by rw [hw]; exact (by (with_reducible repeat (first | apply Kd.V_alloc | apply Kd.zak | apply Kd.zam)); exact Kd.zar (Kd.za0 (p := ⟨gb250, 0, none⟩) (Kd.zar HO247.out (fun k_ hk => (⟨hk, hk.2⟩ : _ ∧ k_ ≠ gb250))) (fun _ hk => hk.2) (.slice Ao129 t245.length co129)) (fun _ hk => ⟨hk.1.1.1, ⟨hk.1.1.2, hk.1.2⟩⟩)))⟩; have n1_ : zab (w133.heap[gb238]? = some (.cells #[.slice A0_0 l0_0.length c0_0] 24 (0, 0))) := ⟨(by rw [hw]; exact (by (with_reducible repeat (first | refine zae ?_ _ | refine zac ?_ | refine zad ?_ _)); refine zaj ?_ NB238_250.out _; (with_reducible repeat (first | refine zae ?_ _ | refine zac ?_ | refine zad ?_ _)); exact BK238.out))⟩; have n2_ : zab (w133.heap[gb239]? = some (.cells #[.slice A1_0 l1_0.length c1_0] 24 (0, 0))) := ⟨(by rw [hw]; exact (by (with_reducible repeat (first | refine zae ?_ _ | refine zac ?_ | refine zad ?_ _)); refine zaj ?_ NB239_250.out _; (with_reducible repeat (first | refine zae ?_ _ | refine zac ?_ | refine zad ?_ _)); exact BK239.out))⟩; have n3_ : zab (w133.heap[gb250]? = some (.cells #[.slice Ao129 t245.length co129] 24 (0, 0))) := ⟨(by rw [hw]; exact (by (with_reducible repeat (first | refine zae ?_ _ | refine zac ?_ | refine zad ?_ _)); refine zas (cs := #[.slice none 0 0]) ?_ 0 _ rfl; (with_reducible repeat (first | refine zae ?_ _ | refine zac ?_ | refine zad ?_ _)); exact BK250.out))⟩; have n4_ : zab (Below w.heap.size w w133) := ⟨(by rw [hw]; exact Yb_PGssPushesx9_2)⟩; clear hw; clear HO247; clear BK238; clear BK239; clear BK250; clear HB; have HO247 := n0_; have BK238 := n1_; have BK239 := n2_; have BK250 := n3_; have HB := n4_; clear n0_ n1_ n2_ n3_ n4_; obtain ⟨hcz134_0, hfz134_0⟩ := Yc1 BK238.out) | ((with_reducible refine za6 (f := 15) rfl ?_); refine Ygl (some 50) Try.func15 #[.agg #[.slice A0_0 l0_0.length c0_0], .int .i64 a2, .int .i64 a3, .int .i64 a4] ?_; (with_reducible refine (zaq.calls kj5 (fun k_ => k_ < w.heap.size) _ _ l0_0 a2 a3 a4 t251 t254 t255 _ ?side1 A44.out).mono ?_); (case side1 => exact Kd.V_mk HC0_0.out (Kd.zcq (Kd.C_F zcw HR0_0.out) Yb_PGssPushesx9_2)); rintro e w135 ⟨v252, rfl, ho0, hb⟩; refine ⟨_, rfl, ?_⟩; replace HO247 := zab.mk (Kd.zat (by (with_reducible repeat (first | apply Kd.V_alloc | apply Kd.zak | apply Kd.zam)); exact HO247.out) hb); have HO253 := zab.mk (Kd.zc2 (Kd.zar (ok' := fun k_ => k_ ≠ gb238 ∧ k_ ≠ gb239 ∧ k_ ≠ gb250) ho0 (fun k_ hk_ => ⟨Or.elim hk_ (fun hs_ => fun e_ => Nat.not_le.2 hs_ (by rw [e_]; exact GW238.out)) (fun hn_ => (Kd.zbh (g := gb238) (o := .cells #[.slice A0_0 l0_0.length c0_0] 24 (0, 0)) (Yg BK238) k_ hn_)), Or.elim hk_ (fun hs_ => fun e_ => Nat.not_le.2 hs_ (by rw [e_]; exact GW239.out)) (fun hn_ => (Kd.zbh (g := gb239) (o := .cells #[.slice A1_0 l1_0.length c1_0] 24 (0, 0)) (Yg BK239) k_ hn_)), Or.elim hk_ (fun hs_ => fun e_ => Nat.not_le.2 hs_ (by rw [e_]; exact GW250.out)) (fun hn_ => (Kd.zbh (g := gb250) (o := .cells #[.slice Ao129 t245.length co129] 24 (0, 0)) (Yg BK250) k_ hn_))⟩)) (za7 Yb_PGssPushesx9_2)); replace BK238 := Ykb BK238 hb; replace BK239 := Ykb BK239 hb; replace BK250 := Ykb BK250 hb; replace HB := zab.mk (za1 Yb_PGssPushesx9_2 hb); (try clear hb); (try clear hb2); (try clear hk); (try clear hi); (try clear ho0)) | ((with_reducible refine zbb (N := 14) rfl ?_); refine Ybx 14 #[.slice none 0 0] 24 ?_; intro gb256 hg w136 hbox hb; replace HO247 := zab.mk (Kd.zat (Kd.zbi (by (with_reducible repeat (first | apply Kd.V_alloc | apply Kd.zak | apply Kd.zam)); exact HO247.out) gb256 (Nat.le_of_eq hg.symm)) hb); replace HO253 := zab.mk (Kd.zat (Kd.zbi (by (with_reducible repeat (first | apply Kd.V_alloc | apply Kd.zak | apply Kd.zam)); exact HO253.out) gb256 (Nat.le_of_eq hg.symm)) hb); obtain ⟨BK256, GW256, GE256, HB⟩ := Yb4 hbox hg hb Yb_PGssPushesx9_2; have NB238_256 := Ynl BK238 hg; have NB256_238 := Yng BK238 hg; replace BK238 := Ykb BK238 hb; have NB239_256 := Ynl BK239 hg; have NB256_239 := Yng BK239 hg; replace BK239 := Ykb BK239 hb; have NB250_256 := Ynl BK250 hg; have NB256_250 := Yng BK250 hg; replace BK250 := Ykb BK250 hb; clear hb hbox hg; obtain ⟨Ao137, co137, eo137⟩ := Kd.zbz HO253.out; subst eo137; have hnb138 := NB256_238.out; have hnc138 := NB238_256.out; have hnb139 := NB256_239.out; have hnc139 := NB239_256.out; have hnb140 := NB256_250.out; have hnc140 := NB250_256.out; obtain ⟨hcz141_0, hfz141_0⟩ := Yc1 BK256.out))
      have n0_ : zab (Kd.V k38 38 (w136.setCell ⟨gb256, 0, none⟩ (.slice Ao137 t251.length co137)) w.heap.size (fun k_ => k_ ≠ gb238 ∧ k_ ≠ gb239 ∧ k_ ≠ gb250 ∧ k_ ≠ gb256) (.slice Ao129 t245.length co129) t245) := ⟨by (with_reducible repeat (first | apply Kd.V_alloc | apply Kd.zak | apply Kd.zam)); exact Kd.zar (Kd.za0 (p := ⟨gb256, 0, none⟩) (Kd.zar HO247.out (fun k_ hk => (⟨hk, hk.2⟩ : _ ∧ k_ ≠ gb256))) (fun _ hk => hk.2) (.slice Ao137 t251.length co137)) (fun _ hk => ⟨hk.1.1.1, ⟨hk.1.1.2.1, ⟨hk.1.1.2.2, hk.1.2⟩⟩⟩)⟩
      have n1_ : zab (Kd.V k38 38 (w136.setCell ⟨gb256, 0, none⟩ (.slice Ao137 t251.length co137)) w.heap.size (fun k_ => k_ ≠ gb238 ∧ k_ ≠ gb239 ∧ k_ ≠ gb250 ∧ k_ ≠ gb256) (.slice Ao137 t251.length co137) t251) := ⟨by (with_reducible repeat (first | apply Kd.V_alloc | apply Kd.zak | apply Kd.zam)); exact Kd.zar (Kd.za0 (p := ⟨gb256, 0, none⟩) (Kd.zar HO253.out (fun k_ hk => (⟨hk, hk.2⟩ : _ ∧ k_ ≠ gb256))) (fun _ hk => hk.2) (.slice Ao137 t251.length co137)) (fun _ hk => ⟨hk.1.1.1, ⟨hk.1.1.2.1, ⟨hk.1.1.2.2, hk.1.2⟩⟩⟩)⟩
      have n2_ : zab ((w136.setCell ⟨gb256, 0, none⟩ (.slice Ao137 t251.length co137)).heap[gb238]? = some (.cells #[.slice A0_0 l0_0.length c0_0] 24 (0, 0))) := ⟨by (with_reducible repeat (first | refine zae ?_ _ | refine zac ?_ | refine zad ?_ _)); refine zaj ?_ NB238_256.out _; (with_reducible repeat (first | refine zae ?_ _ | refine zac ?_ | refine zad ?_ _)); exact BK238.out⟩
      have n3_ : zab ((w136.setCell ⟨gb256, 0, none⟩ (.slice Ao137 t251.length co137)).heap[gb239]? = some (.cells #[.slice A1_0 l1_0.length c1_0] 24 (0, 0))) := ⟨by (with_reducible repeat (first | refine zae ?_ _ | refine zac ?_ | refine zad ?_ _)); refine zaj ?_ NB239_256.out _; (with_reducible repeat (first | refine zae ?_ _ | refine zac ?_ | refine zad ?_ _)); exact BK239.out⟩
      have n4_ : zab ((w136.setCell ⟨gb256, 0, none⟩ (.slice Ao137 t251.length co137)).heap[gb250]? = some (.cells #[.slice Ao129 t245.length co129] 24 (0, 0))) := ⟨by (with_reducible repeat (first | refine zae ?_ _ | refine zac ?_ | refine zad ?_ _)); refine zaj ?_ NB250_256.out _; (with_reducible repeat (first | refine zae ?_ _ | refine zac ?_ | refine zad ?_ _)); exact BK250.out⟩
      have n5_ : zab ((w136.setCell ⟨gb256, 0, none⟩ (.slice Ao137 t251.length co137)).heap[gb256]? = some (.cells #[.slice Ao137 t251.length co137] 24 (0, 0))) := ⟨by (with_reducible repeat (first | refine zae ?_ _ | refine zac ?_ | refine zad ?_ _)); refine zas (cs := #[.slice none 0 0]) ?_ 0 _ rfl; (with_reducible repeat (first | refine zae ?_ _ | refine zac ?_ | refine zad ?_ _)); exact BK256.out⟩
      have n6_ : zab (Below w.heap.size w (w136.setCell ⟨gb256, 0, none⟩ (.slice Ao137 t251.length co137))) := ⟨Yb_PGssPushesx9_3⟩
      (try clear HO247)
      (try clear HO253)
      (try clear BK238)
      (try clear BK239)
      (try clear BK250)
      (try clear BK256)
      (try clear HB)
      generalize (w136.setCell ⟨gb256, 0, none⟩ (.slice Ao137 t251.length co137)) = w142 at n0_ n1_ n2_ n3_ n4_ n5_ n6_ ⊢
      have HO247 := n0_;have HO253 := n1_;have BK238 := n2_;have BK239 := n3_;have BK250 := n4_;have BK256 := n5_;have HB := n6_;clear n0_ n1_ n2_ n3_ n4_ n5_ n6_
      replace HO247 := zab.mk (Kd.zam HO247.out)
      replace HO253 := zab.mk (Kd.zam HO253.out)
      replace BK238 := zab.mk (zac BK238.out)
      replace BK239 := zab.mk (zac BK239.out)
      replace BK250 := zab.mk (zac BK250.out)
      replace BK256 := zab.mk (zac BK256.out)
      replace HB := zab.mk (zav HB.out)
      refine zbt (n := 26) (S := fun w' => w'.cell? ⟨gb250, 0, none⟩ = some (.slice Ao129 t245.length co129) ∧ w'.cell? ⟨gb256, 0, none⟩ = some (.slice Ao137 t251.length co137)) (ds := []) (Ymk 26 0) (by kernel_rfl) rfl rfl ⟨(zaf BK250.out 0).trans rfl, (zaf BK256.out 0).trans rfl⟩ (fun hHeld => ?_); refine zbo zao.tab5 zao.bits5 (fun HT_ HW_ => ?_)
      generalize w142.drew = w143 at HO247 HO253 BK238 BK239 BK250 BK256 HB hHeld ⊢
      refine Ytt 0 54 26 1 HT_ HW_ hHeld ?_
      refine Ytt 1 55 26 3 HT_ HW_ hHeld ?_
      refine Yot 2 56 26 7 HT_ (fun K hK => ?_)
      refine Ygs Try.func16 #[.agg #[.slice Ao129 t245.length co129], .agg #[.slice Ao137 t251.length co137]] ?_
      with_reducible refine (zay.calls kj5 _ _ t245 _ _ t251 true _ ?side1 ?side2 ?side3 ?side4 A45.out).mono ?_
      (case side1 => repeat (first | exact (Kd.V_reads' HO247.out).2.2 | (with_reducible refine Kd.C_alloc ?_ _) | (with_reducible refine Kd.C_drewN ?_ _) | (with_reducible refine Kd.C_drew ?_)))
      (case side2 => exact (Kd.V_reads' HO247.out).2.1)
      (case side3 => repeat (first | exact (Kd.V_reads' HO253.out).2.2 | (with_reducible refine Kd.C_alloc ?_ _) | (with_reducible refine Kd.C_drewN ?_ _) | (with_reducible refine Kd.C_drew ?_)))
      (case side4 => exact (Kd.V_reads' HO253.out).2.1)
      rintro e w144 ⟨rfl, hb⟩
      refine ⟨_, rfl, ?_⟩
      replace HO247 := zab.mk (Kd.zat (by (with_reducible repeat (first | apply Kd.V_alloc | apply Kd.zak | apply Kd.zam)); exact HO247.out) hb)
      replace HO253 := zab.mk (Kd.zat (by (with_reducible repeat (first | apply Kd.V_alloc | apply Kd.zak | apply Kd.zam)); exact HO253.out) hb)
      replace BK238 := Ykb BK238 hb
      replace BK239 := Ykb BK239 hb
      replace BK250 := Ykb BK250 hb
      replace BK256 := Ykb BK256 hb
      replace HB := zab.mk (za1 Yb_PGssPushesx9_3 hb)
      (try clear hb)
      (try clear hb2)
      (try clear hk)
      (try clear hi)
      refine hK.out _ _ ⟨(zaf BK250.out 0).trans rfl, (zaf BK256.out 0).trans rfl⟩ (fun hHeld => ?_)
      clear hK K
      refine Ynw 56 ?_
      refine Ypt 3 57 26 15 HT_ ?_
      refine Ypt 4 58 26 31 HT_ ?_
      refine Ypt 5 59 26 63 HT_ ?_
      refine Ypt 6 60 26 127 HT_ ?_
      refine Ypt 7 61 26 255 HT_ ?_
      refine Ypt 8 62 26 511 HT_ ?_
      refine Ypu 9 63 26 1023 HT_ ?_
      refine Ypu 10 64 26 2047 HT_ ?_
      refine Ypu 11 65 26 4095 HT_ ?_
      refine Ypt 12 66 26 8191 HT_ ?_
      refine Ypt 13 67 26 16383 HT_ ?_
      refine Ypu 14 68 26 32767 HT_ ?_
      refine Ypu 15 69 26 65535 HT_ ?_
      refine Ypu 16 70 26 131071 HT_ ?_
      refine Ypu 17 71 26 262143 HT_ ?_
      refine Ypu 18 72 26 524287 HT_ ?_
      refine Ypu 19 73 26 1048575 HT_ ?_
      refine Ypu 20 74 26 2097151 HT_ ?_
      refine Ypt 21 75 26 4194303 HT_ ?_
      refine Ypt 22 76 26 8388607 HT_ ?_
      refine Ypu 23 77 26 16777215 HT_ ?_
      refine Ypt 24 78 26 33554431 HT_ ?_
      refine Ypt 25 10 26 67108863 HT_ ?_
      refine zby (zbv HT_.out (by kernel_rfl)) ?_
      try go_wp2
      go_ret
      exact ⟨Yfi, Yb_PGssPushesx9_3⟩
    ·replace c46 := Bool.eq_false_iff.mpr c46
     subst c46
     have H1 : (some false) = some r := by rw [if_neg (show ¬ (false = true) by decide)] at H; exact H
     clear H;have H := H1;clear H1;obtain rfl := Option.some.inj H
     have hnb145 := NB238_239.out
     have hnc145 := NB239_238.out
     obtain ⟨hcz146_0, hfz146_0⟩ := Yc1 BK238.out
     try go_wp2_with (first | ((with_reducible refine za6 (f := 13) rfl ?_); refine Ygl (some 41) Try.func13 #[.agg #[.slice A0_0 l0_0.length c0_0], .int .i64 a2, .int .i64 a3, .int .i64 a4] ?_; (with_reducible refine (zc9.calls (fun k_ => k_ < w.heap.size) _ _ l0_0 a2 a3 a4 t245 t248 t249 _ ?side1 A43.out).mono ?_); (case side1 => exact Kd.V_mk HC0_0.out (Kd.zcq (Kd.C_F zcw HR0_0.out) Yb_PGssPushesx9_1)); rintro e w147 ⟨v246, rfl, ho0, hb⟩; refine ⟨_, rfl, ?_⟩; have HO247 := zab.mk (Kd.zc2 (Kd.zar (ok' := fun k_ => k_ ≠ gb238 ∧ k_ ≠ gb239) ho0 (fun k_ hk_ => ⟨Or.elim hk_ (fun hs_ => fun e_ => Nat.not_le.2 hs_ (by rw [e_]; exact GW238.out)) (fun hn_ => (Kd.zbh (g := gb238) (o := .cells #[.slice A0_0 l0_0.length c0_0] 24 (0, 0)) (Yg BK238) k_ hn_)), Or.elim hk_ (fun hs_ => fun e_ => Nat.not_le.2 hs_ (by rw [e_]; exact GW239.out)) (fun hn_ => (Kd.zbh (g := gb239) (o := .cells #[.slice A1_0 l1_0.length c1_0] 24 (0, 0)) (Yg BK239) k_ hn_))⟩)) (za7 Yb_PGssPushesx9_1)); replace BK238 := Ykb BK238 hb; replace BK239 := Ykb BK239 hb; replace HB := zab.mk (za1 Yb_PGssPushesx9_1 hb); (try clear hb); (try clear hb2); (try clear hk); (try clear hi); (try clear ho0)) | ((with_reducible refine zbb (N := 11) rfl ?_); refine Ybx 11 #[.slice none 0 0] 24 ?_; intro gb250 hg w148 hbox hb; replace HO247 := zab.mk (Kd.zat (Kd.zbi (by (with_reducible repeat (first | apply Kd.V_alloc | apply Kd.zak | apply Kd.zam)); exact HO247.out) gb250 (Nat.le_of_eq hg.symm)) hb); obtain ⟨BK250, GW250, GE250, HB⟩ := Yb4 hbox hg hb Yb_PGssPushesx9_1; have NB238_250 := Ynl BK238 hg; have NB250_238 := Yng BK238 hg; replace BK238 := Ykb BK238 hb; have NB239_250 := Ynl BK239 hg; have NB250_239 := Yng BK239 hg; replace BK239 := Ykb BK239 hb; clear hb hbox hg; obtain ⟨Ao149, co149, eo149⟩ := Kd.zbz HO247.out; subst eo149; have hnb150 := NB250_238.out; have hnc150 := NB238_250.out; have hnb151 := NB250_239.out; have hnc151 := NB239_250.out; obtain ⟨hcz152_0, hfz152_0⟩ := Yc1 BK250.out) | ((with_reducible refine zdt (t := 24) (p := 11) rfl ?_); refine zdl (t := 24) (p := 11) (v := ?vo_w153) (w1 := (w148.setCell ⟨gb250, 0, none⟩ (.slice Ao149 t245.length co149))) ?hg ?ho ?hn ?hr ?_; (case ho => rfl); (case hg => rfl); (case hn => rfl); (case hr => first | (go_simp; done) | (go_simp; rfl)); intro w153 hw; have n0_ : zab (Kd.V k38 38 w153 w.heap.size (fun k_ => k_ ≠ gb238 ∧ k_ ≠ gb239 ∧ k_ ≠ gb250) (.slice Ao149 t245.length co149) t245) := ⟨(by rw [hw]; exact (by (with_reducible repeat (first | apply Kd.V_alloc | apply Kd.zak | apply Kd.zam)); exact Kd.zar (Kd.za0 (p := ⟨gb250, 0, none⟩) (Kd.zar HO247.out (fun k_ hk => (⟨hk, hk.2⟩ : _ ∧ k_ ≠ gb250))) (fun _ hk => hk.2) (.slice Ao149 t245.length co149)) (fun _ hk => ⟨hk.1.1.1, ⟨hk.1.1.2, hk.1.2⟩⟩)))⟩; have n1_ : zab (w153.heap[gb238]? = some (.cells #[.slice A0_0 l0_0.length c0_0] 24 (0, 0))) := ⟨(by rw [hw]; exact (by (with_reducible repeat (first | refine zae ?_ _ | refine zac ?_ | refine zad ?_ _)); refine zaj ?_ NB238_250.out _; (with_reducible repeat (first | refine zae ?_ _ | refine zac ?_ | refine zad ?_ _)); exact BK238.out))⟩; have n2_ : zab (w153.heap[gb239]? = some (.cells #[.slice A1_0 l1_0.length c1_0] 24 (0, 0))) := ⟨(by rw [hw]; exact (by (with_reducible repeat (first | refine zae ?_ _ | refine zac ?_ | refine zad ?_ _)); refine zaj ?_ NB239_250.out _; (with_reducible repeat (first | refine zae ?_ _ | refine zac ?_ | refine zad ?_ _)); exact BK239.out))⟩; have n3_ : zab (w153.heap[gb250]? = some (.cells #[.slice Ao149 t245.length co149] 24 (0, 0))) := ⟨(by rw [hw]; exact (by (with_reducible repeat (first | refine zae ?_ _ | refine zac ?_ | refine zad ?_ _)); refine zas (cs := #[.slice none 0 0]) ?_ 0 _ rfl; (with_reducible repeat (first | refine zae ?_ _ | refine zac ?_ | refine zad ?_ _)); exact BK250.out))⟩; have n4_ : zab (Below w.heap.size w w153) := ⟨(by rw [hw]; exact Yb_PGssPushesx9_2)⟩; clear hw; clear HO247; clear BK238; clear BK239; clear BK250; clear HB; have HO247 := n0_; have BK238 := n1_; have BK239 := n2_; have BK250 := n3_; have HB := n4_; clear n0_ n1_ n2_ n3_ n4_; obtain ⟨hcz154_0, hfz154_0⟩ := Yc1 BK238.out) | ((with_reducible refine za6 (f := 15) rfl ?_); refine Ygl (some 50) Try.func15 #[.agg #[.slice A0_0 l0_0.length c0_0], .int .i64 a2, .int .i64 a3, .int .i64 a4] ?_; (with_reducible refine (zaq.calls kj5 (fun k_ => k_ < w.heap.size) _ _ l0_0 a2 a3 a4 t251 t254 t255 _ ?side1 A44.out).mono ?_); (case side1 => exact Kd.V_mk HC0_0.out (Kd.zcq (Kd.C_F zcw HR0_0.out) Yb_PGssPushesx9_2)); rintro e w155 ⟨v252, rfl, ho0, hb⟩; refine ⟨_, rfl, ?_⟩; replace HO247 := zab.mk (Kd.zat (by (with_reducible repeat (first | apply Kd.V_alloc | apply Kd.zak | apply Kd.zam)); exact HO247.out) hb); have HO253 := zab.mk (Kd.zc2 (Kd.zar (ok' := fun k_ => k_ ≠ gb238 ∧ k_ ≠ gb239 ∧ k_ ≠ gb250) ho0 (fun k_ hk_ => ⟨Or.elim hk_ (fun hs_ => fun e_ => Nat.not_le.2 hs_ (by rw [e_]; exact GW238.out)) (fun hn_ => (Kd.zbh (g := gb238) (o := .cells #[.slice A0_0 l0_0.length c0_0] 24 (0, 0)) (Yg BK238) k_ hn_)), Or.elim hk_ (fun hs_ => fun e_ => Nat.not_le.2 hs_ (by rw [e_]; exact GW239.out)) (fun hn_ => (Kd.zbh (g := gb239) (o := .cells #[.slice A1_0 l1_0.length c1_0] 24 (0, 0)) (Yg BK239) k_ hn_)), Or.elim hk_ (fun hs_ => fun e_ => Nat.not_le.2 hs_ (by rw [e_]; exact GW250.out)) (fun hn_ => (Kd.zbh (g := gb250) (o := .cells #[.slice Ao149 t245.length co149] 24 (0, 0)) (Yg BK250) k_ hn_))⟩)) (za7 Yb_PGssPushesx9_2)); replace BK238 := Ykb BK238 hb; replace BK239 := Ykb BK239 hb; replace BK250 := Ykb BK250 hb; replace HB := zab.mk (za1 Yb_PGssPushesx9_2 hb); (try clear hb); (try clear hb2); (try clear hk); (try clear hi); (try clear ho0)) | ((with_reducible refine zbb (N := 14) rfl ?_); refine Ybx 14 #[.slice none 0 0] 24 ?_; intro gb256 hg w156 hbox hb; replace HO247 := zab.mk (Kd.zat (Kd.zbi (by (with_reducible repeat (first | apply Kd.V_alloc | apply Kd.zak | apply Kd.zam)); exact HO247.out) gb256 (Nat.le_of_eq hg.symm)) hb); replace HO253 := zab.mk (Kd.zat (Kd.zbi (by (with_reducible repeat (first | apply Kd.V_alloc | apply Kd.zak | apply Kd.zam)); exact HO253.out) gb256 (Nat.le_of_eq hg.symm)) hb); obtain ⟨BK256, GW256, GE256, HB⟩ := Yb4 hbox hg hb Yb_PGssPushesx9_2; have NB238_256 := Ynl BK238 hg; have NB256_238 := Yng BK238 hg; replace BK238 := Ykb BK238 hb; have NB239_256 := Ynl BK239 hg; have NB256_239 := Yng BK239 hg; replace BK239 := Ykb BK239 hb; have NB250_256 := Ynl BK250 hg; have NB256_250 := Yng BK250 hg; replace BK250 := Ykb BK250 hb; clear hb hbox hg; obtain ⟨Ao157, co157, eo157⟩ := Kd.zbz HO253.out; subst eo157; have hnb158 := NB256_238.out; have hnc158 := NB238_256.out; have hnb159 := NB256_239.out; have hnc159 := NB239_256.out; have hnb160 := NB256_250.out; have hnc160 := NB250_256.out; obtain ⟨hcz161_0, hfz161_0⟩ := Yc1 BK256.out))
     have n0_ : zab (Kd.V k38 38 (w156.setCell ⟨gb256, 0, none⟩ (.slice Ao157 t251.length co157)) w.heap.size (fun k_ => k_ ≠ gb238 ∧ k_ ≠ gb239 ∧ k_ ≠ gb250 ∧ k_ ≠ gb256) (.slice Ao149 t245.length co149) t245) := ⟨by (with_reducible repeat (first | apply Kd.V_alloc | apply Kd.zak | apply Kd.zam)); exact Kd.zar (Kd.za0 (p := ⟨gb256, 0, none⟩) (Kd.zar HO247.out (fun k_ hk => (⟨hk, hk.2⟩ : _ ∧ k_ ≠ gb256))) (fun _ hk => hk.2) (.slice Ao157 t251.length co157)) (fun _ hk => ⟨hk.1.1.1, ⟨hk.1.1.2.1, ⟨hk.1.1.2.2, hk.1.2⟩⟩⟩)⟩
     have n1_ : zab (Kd.V k38 38 (w156.setCell ⟨gb256, 0, none⟩ (.slice Ao157 t251.length co157)) w.heap.size (fun k_ => k_ ≠ gb238 ∧ k_ ≠ gb239 ∧ k_ ≠ gb250 ∧ k_ ≠ gb256) (.slice Ao157 t251.length co157) t251) := ⟨by (with_reducible repeat (first | apply Kd.V_alloc | apply Kd.zak | apply Kd.zam)); exact Kd.zar (Kd.za0 (p := ⟨gb256, 0, none⟩) (Kd.zar HO253.out (fun k_ hk => (⟨hk, hk.2⟩ : _ ∧ k_ ≠ gb256))) (fun _ hk => hk.2) (.slice Ao157 t251.length co157)) (fun _ hk => ⟨hk.1.1.1, ⟨hk.1.1.2.1, ⟨hk.1.1.2.2, hk.1.2⟩⟩⟩)⟩
     have n2_ : zab ((w156.setCell ⟨gb256, 0, none⟩ (.slice Ao157 t251.length co157)).heap[gb238]? = some (.cells #[.slice A0_0 l0_0.length c0_0] 24 (0, 0))) := ⟨by (with_reducible repeat (first | refine zae ?_ _ | refine zac ?_ | refine zad ?_ _)); refine zaj ?_ NB238_256.out _; (with_reducible repeat (first | refine zae ?_ _ | refine zac ?_ | refine zad ?_ _)); exact BK238.out⟩
     have n3_ : zab ((w156.setCell ⟨gb256, 0, none⟩ (.slice Ao157 t251.length co157)).heap[gb239]? = some (.cells #[.slice A1_0 l1_0.length c1_0] 24 (0, 0))) := ⟨by (with_reducible repeat (first | refine zae ?_ _ | refine zac ?_ | refine zad ?_ _)); refine zaj ?_ NB239_256.out _; (with_reducible repeat (first | refine zae ?_ _ | refine zac ?_ | refine zad ?_ _)); exact BK239.out⟩
     have n4_ : zab ((w156.setCell ⟨gb256, 0, none⟩ (.slice Ao157 t251.length co157)).heap[gb250]? = some (.cells #[.slice Ao149 t245.length co149] 24 (0, 0))) := ⟨by (with_reducible repeat (first | refine zae ?_ _ | refine zac ?_ | refine zad ?_ _)); refine zaj ?_ NB250_256.out _; (with_reducible repeat (first | refine zae ?_ _ | refine zac ?_ | refine zad ?_ _)); exact BK250.out⟩
     have n5_ : zab ((w156.setCell ⟨gb256, 0, none⟩ (.slice Ao157 t251.length co157)).heap[gb256]? = some (.cells #[.slice Ao157 t251.length co157] 24 (0, 0))) := ⟨by (with_reducible repeat (first | refine zae ?_ _ | refine zac ?_ | refine zad ?_ _)); refine zas (cs := #[.slice none 0 0]) ?_ 0 _ rfl; (with_reducible repeat (first | refine zae ?_ _ | refine zac ?_ | refine zad ?_ _)); exact BK256.out⟩
     have n6_ : zab (Below w.heap.size w (w156.setCell ⟨gb256, 0, none⟩ (.slice Ao157 t251.length co157))) := ⟨Yb_PGssPushesx9_3⟩
     (try clear HO247)
     (try clear HO253)
     (try clear BK238)
     (try clear BK239)
     (try clear BK250)
     (try clear BK256)
     (try clear HB)
     generalize (w156.setCell ⟨gb256, 0, none⟩ (.slice Ao157 t251.length co157)) = w162 at n0_ n1_ n2_ n3_ n4_ n5_ n6_ ⊢
     have HO247 := n0_;have HO253 := n1_;have BK238 := n2_;have BK239 := n3_;have BK250 := n4_;have BK256 := n5_;have HB := n6_;clear n0_ n1_ n2_ n3_ n4_ n5_ n6_
     replace HO247 := zab.mk (Kd.zam HO247.out)
     replace HO253 := zab.mk (Kd.zam HO253.out)
     replace BK238 := zab.mk (zac BK238.out)
     replace BK239 := zab.mk (zac BK239.out)
     replace BK250 := zab.mk (zac BK250.out)
     replace BK256 := zab.mk (zac BK256.out)
     replace HB := zab.mk (zav HB.out)
     refine zbt (n := 26) (S := fun w' => w'.cell? ⟨gb250, 0, none⟩ = some (.slice Ao149 t245.length co149) ∧ w'.cell? ⟨gb256, 0, none⟩ = some (.slice Ao157 t251.length co157)) (ds := []) (Ymk 26 0) (by kernel_rfl) rfl rfl ⟨(zaf BK250.out 0).trans rfl, (zaf BK256.out 0).trans rfl⟩ (fun hHeld => ?_); refine zbo zao.tab5 zao.bits5 (fun HT_ HW_ => ?_)
     generalize w162.drew = w163 at HO247 HO253 BK238 BK239 BK250 BK256 HB hHeld ⊢
     refine Ytt 0 54 26 1 HT_ HW_ hHeld ?_
     refine Ytt 1 55 26 3 HT_ HW_ hHeld ?_
     refine Yot 2 56 26 7 HT_ (fun K hK => ?_)
     refine Ygs Try.func16 #[.agg #[.slice Ao149 t245.length co149], .agg #[.slice Ao157 t251.length co157]] ?_
     with_reducible refine (zay.calls kj5 _ _ t245 _ _ t251 false _ ?side1 ?side2 ?side3 ?side4 A45.out).mono ?_
     (case side1 => repeat (first | exact (Kd.V_reads' HO247.out).2.2 | (with_reducible refine Kd.C_alloc ?_ _) | (with_reducible refine Kd.C_drewN ?_ _) | (with_reducible refine Kd.C_drew ?_)))
     (case side2 => exact (Kd.V_reads' HO247.out).2.1)
     (case side3 => repeat (first | exact (Kd.V_reads' HO253.out).2.2 | (with_reducible refine Kd.C_alloc ?_ _) | (with_reducible refine Kd.C_drewN ?_ _) | (with_reducible refine Kd.C_drew ?_)))
     (case side4 => exact (Kd.V_reads' HO253.out).2.1)
     rintro e w164 ⟨rfl, hb⟩
     refine ⟨_, rfl, ?_⟩
     replace HO247 := zab.mk (Kd.zat (by (with_reducible repeat (first | apply Kd.V_alloc | apply Kd.zak | apply Kd.zam)); exact HO247.out) hb)
     replace HO253 := zab.mk (Kd.zat (by (with_reducible repeat (first | apply Kd.V_alloc | apply Kd.zak | apply Kd.zam)); exact HO253.out) hb)
     replace BK238 := Ykb BK238 hb
     replace BK239 := Ykb BK239 hb
     replace BK250 := Ykb BK250 hb
     replace BK256 := Ykb BK256 hb
     replace HB := zab.mk (za1 Yb_PGssPushesx9_3 hb)
     (try clear hb)
     (try clear hb2)
     (try clear hk)
     (try clear hi)
     refine hK.out _ _ ⟨(zaf BK250.out 0).trans rfl, (zaf BK256.out 0).trans rfl⟩ (fun hHeld => ?_)
     clear hK K
     refine Ynw 56 ?_
     refine Ypt 3 57 26 15 HT_ ?_
     refine Ypu 4 58 26 31 HT_ ?_
     refine Ypu 5 59 26 63 HT_ ?_
     refine Ypu 6 60 26 127 HT_ ?_
     refine Ypt 7 61 26 255 HT_ ?_
     refine Ypt 8 62 26 511 HT_ ?_
     refine Ypu 9 63 26 1023 HT_ ?_
     refine Ypu 10 64 26 2047 HT_ ?_
     refine Ypu 11 65 26 4095 HT_ ?_
     refine Ypt 12 66 26 8191 HT_ ?_
     refine Ypt 13 67 26 16383 HT_ ?_
     refine Ypu 14 68 26 32767 HT_ ?_
     refine Ypu 15 69 26 65535 HT_ ?_
     refine Ypu 16 70 26 131071 HT_ ?_
     refine Ypu 17 71 26 262143 HT_ ?_
     refine Ypu 18 72 26 524287 HT_ ?_
     refine Ypu 19 73 26 1048575 HT_ ?_
     refine Ypu 20 74 26 2097151 HT_ ?_
     refine Ypt 21 75 26 4194303 HT_ ?_
     refine Ypt 22 76 26 8388607 HT_ ?_
     refine Ypu 23 77 26 16777215 HT_ ?_
     refine Ypt 24 78 26 33554431 HT_ ?_
     refine Ypt 25 10 26 67108863 HT_ ?_
     refine zby (zbv HT_.out (by kernel_rfl)) ?_
     try go_wp2
     go_ret
     exact ⟨Yfi, Yb_PGssPushesx9_3⟩
end Go.Proofs.ZZ.PGssPushes
end
section
namespace Go.Proofs.ZZ.PGssPushes
open Go.RowKit Go.Proofs.ZW.PrintWords Go.Proofs.ZW.PrintLast
def ok38 (s : S38) : Prop := ((Lit.int .i64 s.f0).wf = true) ∧ ((Lit.int .i64 s.f1).wf = true) ∧ (s.f2.length * 8 ≤ 140737488351232 ∧ ∀ y ∈ s.f2, ((Lit.int .i64 y).wf = true))
def ok24 (s : S24) : Prop := (s.f0.length * 40 ≤ 140737488351232 ∧ ∀ y ∈ s.f0, ok38 y)
def zao.Pure : Prop := ∀ (s0 : S24) (s1 : S24) (a2 : Int) (a3 : Int) (a4 : Int), ok24 s0 → ok24 s1 → ((Lit.int .i64 a2).wf = true) → ((Lit.int .i64 a3).wf = true) → ((Lit.int .i64 a4).wf = true) → ∃ k, zao.f k s0.f0 s1.f0 a2 a3 a4 = some true
end Go.Proofs.ZZ.PGssPushes
end
section
namespace Go.Proofs.ZZ.Pure
open Go.RowKit Go.Proofs.ZZ.PGssPushes Go.Proofs.ZW.PrintWords Go.Proofs.ZW.PrintLast Go.Proofs.ZW.PrintMore
theorem w64 {x : Int} (h1 : -9223372036854775808 ≤ x) (h2 : x ≤ 9223372036854775807) : wrap64 x = x := by
 unfold wrap64
 omega
theorem evAt {α : Type} {g : Nat → Option α} {r : α} (h : ∀ k, g (k + 1) = some r) : Ev g r := ⟨1, fun k hk => by obtain ⟨m, rfl⟩ : ∃ m, k = m + 1 := ⟨k - 1, by omega⟩; exact h m⟩
open Go.Proofs.ZZ.G16 in
theorem zd8 (a : Int) : zba.f a = some (decide (0 ≤ a ∧ a ≤ 65535)) := by
 unfold zba.f
 by_cases h : 0 ≤ a
 ·rw [if_pos h]
  congr 1
  simp [h]
 ·rw [if_neg (by omega)]
  congr 1
  simp [h]
open Go.Proofs.ZZ.G16 in
theorem zgw (x y : S38) : zbl.f x.f0 x.f1 x.f2 y.f0 y.f1 y.f2 = some (decide (x.f1 < y.f1 ∨ x.f1 = y.f1 ∧ x.f0 < y.f0)) := by
 unfold zbl.f
 by_cases h : x.f1 < y.f1
 ·rw [if_pos h]; simp [h]
 ·rw [if_neg h]
  by_cases h2 : x.f1 = y.f1
  ·rw [if_pos h2]; simp [h2]
  ·rw [if_neg h2]; simp [h, h2]
theorem rd38 (l : List S38) (i : Nat) (h : i < l.length) : zaa l (i : Int) = l[i] := by
 show l.getD ((i : Int)).toNat z38 = _
 rw [Int.toNat_natCast, List.getD_eq_getElem?_getD, List.getElem?_eq_getElem h]
 rfl
theorem rdI (l : List Int) (i : Nat) (h : i < l.length) : rd l (i : Int) = l[i] := by
 show l.getD ((i : Int)).toNat 0 = _
 rw [Int.toNat_natCast, List.getD_eq_getElem?_getD, List.getElem?_eq_getElem h]
 rfl
def sumW (l : List S38) : Nat := (l.map fun x => 1 + x.f2.length).sum
theorem few_l0 (l : List S38) (hl : l.length ≤ 10000000000000) (hs : ∀ x ∈ l, x.f2.length ≤ 100000000000000) (d : Nat) : ∀ (i : Nat) (c : Int), i + d = l.length → c ≤ 3000 → -100000000000001 ≤ c → ∃ b, Ev (fun k => za9.l0 k c i l) b ∧ (b = true → ((sumW (l.drop i) : Nat) : Int) ≤ c ∧ l.length ≤ 120) := by
 induction d with
 | zero =>
  intro i c hi h1 h2
  by_cases hc : 0 ≤ c
  ·refine ⟨decide ((l.length : Int) ≤ 120), evAt fun k => ?_, fun hb => ?_⟩
   ·simp only [za9.l0]
    rw [if_neg (by omega), if_pos hc]
   ·rw [List.drop_of_length_le (by omega)]
    have := of_decide_eq_true hb
    exact ⟨by simpa [sumW] using hc, by omega⟩
  ·refine ⟨false, evAt fun k => ?_, fun h => nomatch h⟩
   simp only [za9.l0]
   rw [if_neg (by omega), if_neg (by omega)]
 | succ d ih =>
  intro i c hi h1 h2
  have hil : i < l.length := by omega
  by_cases hc : 0 ≤ c
  ·have hx := hs l[i] (List.getElem_mem hil)
   obtain ⟨b, e, g⟩ := ih (i + 1) (c - 1 - (l[i].f2.length : Int)) (by omega) (by omega) (by omega)
   refine ⟨b, Ev.step (fun k => ?_) e, fun hb => ?_⟩
   ·simp only [za9.l0]
    rw [if_pos (by omega), if_pos hc, if_pos (by omega), rd38 l i hil, w64 (x := c - 1) (by omega) (by omega), w64 (x := c - 1 - _) (by omega) (by omega), w64 (x := (i : Int) + 1) (by omega) (by omega)]
    rfl
   ·obtain ⟨g1, g2⟩ := g hb
    refine ⟨?_, g2⟩
    rw [List.drop_eq_getElem_cons hil]
    unfold sumW at g1 ⊢
    rw [List.map_cons, List.sum_cons]
    omega
  ·refine ⟨false, evAt fun k => ?_, fun h => nomatch h⟩
   simp only [za9.l0]
   rw [if_pos (by omega), if_neg (by omega)]
theorem few_Ev (l : List S38) (hl : l.length ≤ 10000000000000) (hs : ∀ x ∈ l, x.f2.length ≤ 100000000000000) : ∃ b, Ev (fun k => za9.f k l) b ∧ (b = true → sumW l ≤ 3000 ∧ l.length ≤ 120) := by
 obtain ⟨b, e, g⟩ := few_l0 l hl hs l.length 0 3000 (by omega) (by omega) (by omega)
 refine ⟨b, e, fun hb => ?_⟩
 obtain ⟨g1, g2⟩ := g hb
 rw [List.drop_zero] at g1
 exact ⟨by omega, g2⟩
def LinkOk (l : List S38) (a : Int) (f2 : List Int) (j : Nat) : Prop := 0 ≤ rd f2 j ∧ rd f2 j < (l.length : Int) ∧ (zaa l (rd f2 j)).f1 ≤ a ∧ (0 < j → rd f2 ((j : Int) - 1) < rd f2 j)
def zfh (l : List S38) (i : Nat) : Prop := (0 ≤ (zaa l i).f0 ∧ (zaa l i).f0 ≤ 65535) ∧ (0 ≤ (zaa l i).f1 ∧ (zaa l i).f1 ≤ 65535) ∧ (0 < i → (zaa l ((i : Int) - 1)).f1 < (zaa l i).f1 ∨ (zaa l ((i : Int) - 1)).f1 = (zaa l i).f1 ∧ (zaa l ((i : Int) - 1)).f0 < (zaa l i).f0) ∧ ∀ j, j < (zaa l i).f2.length → LinkOk l (zaa l i).f1 (zaa l i).f2 j
theorem fit_l1 (l : List S38) (hl : l.length ≤ 4096) (i : Nat) (f0 f1 : Int) (f2 : List Int) (hf : f2.length ≤ 100000000000000) (hi : i < l.length) {b' : Bool} (h0 : Ev (fun k => zah.l0 k (l.length : Int) ((i : Int) + 1) l) b') (d : Nat) :
  ∀ j : Nat, j + d = f2.length → ∃ b, Ev (fun k => zah.l1 k (l.length : Int) i j l f0 f1 f2) b ∧ (b = true ↔ (∀ q, j ≤ q → q < f2.length → LinkOk l f1 f2 q) ∧ b' = true) := by
 induction d with
 | zero =>
  intro j hj
  refine ⟨b', Ev.step (fun k => ?_) h0, ⟨fun h => ⟨fun q h1 h2 => by omega, h⟩, fun h => h.2⟩⟩
  simp only [zah.l1]
  rw [if_neg (by omega), w64 (x := (i : Int) + 1) (by omega) (by omega)]
 | succ d ih =>
  intro j hj
  have bad : ∀ {b : Bool}, b = false → ¬ LinkOk l f1 f2 j → (b = true ↔ (∀ q, j ≤ q → q < f2.length → LinkOk l f1 f2 q) ∧ b' = true) := fun hb hn => by
   rw [hb]
   exact ⟨fun h => (nomatch h), fun h => absurd (h.1 j (Nat.le_refl _) (by omega)) hn⟩
  by_cases c1 : rd f2 j < 0
  ·refine ⟨false, evAt fun k => ?_, bad rfl (fun h => by have := h.1; omega)⟩
   simp only [zah.l1]
   rw [if_pos (by omega), if_pos (by omega), if_pos c1]
  ·by_cases c2 : (l.length : Int) ≤ rd f2 j
   ·refine ⟨false, evAt fun k => ?_, bad rfl (fun h => by have := h.2.1; omega)⟩
    simp only [zah.l1]
    rw [if_pos (by omega), if_pos (by omega), if_neg c1, if_pos c2]
   ·by_cases c3 : (zaa l (rd f2 j)).f1 > f1
    ·refine ⟨false, evAt fun k => ?_, bad rfl (fun h => by have := h.2.2.1; omega)⟩
     simp only [zah.l1]
     rw [if_pos (by omega), if_pos (by omega), if_neg c1, if_neg (by omega), if_pos (by omega), if_pos (by omega), if_pos c3]
    ·by_cases c4 : 0 < j
     ·by_cases c5 : rd f2 ((j : Int) - 1) ≥ rd f2 j
      ·refine ⟨false, evAt fun k => ?_, bad rfl (fun h => by have := h.2.2.2 c4; omega)⟩
       simp only [zah.l1]
       rw [if_pos (by omega), if_pos (by omega), if_neg c1, if_neg (by omega), if_pos (by omega), if_pos (by omega), if_neg c3, if_pos (by omega), w64 (x := (j : Int) - 1) (by omega) (by omega), if_pos (by omega), if_pos (by omega), if_pos c5]
      ·obtain ⟨b, e, g⟩ := ih (j + 1) (by omega)
       refine ⟨b, Ev.step (fun k => ?_) e, g.trans ⟨fun h => ⟨fun q h1 h2 => ?_, h.2⟩, fun h => ⟨fun q h1 h2 => h.1 q (by omega) h2, h.2⟩⟩⟩
       ·simp only [zah.l1]
        rw [if_pos (by omega), if_pos (by omega), if_neg c1, if_neg (by omega), if_pos (by omega), if_pos (by omega), if_neg c3, if_pos (by omega), w64 (x := (j : Int) - 1) (by omega) (by omega), if_pos (by omega), if_pos (by omega), if_neg c5, w64 (x := (j : Int) + 1) (by omega) (by omega)]
        rfl
       ·by_cases hq : q = j
        ·rw [hq]; exact ⟨by omega, by omega, by omega, fun _ => by omega⟩
        ·exact h.1 q (by omega) h2
     ·obtain ⟨b, e, g⟩ := ih (j + 1) (by omega)
      refine ⟨b, Ev.step (fun k => ?_) e, g.trans ⟨fun h => ⟨fun q h1 h2 => ?_, h.2⟩, fun h => ⟨fun q h1 h2 => h.1 q (by omega) h2, h.2⟩⟩⟩
      ·simp only [zah.l1]
       rw [if_pos (by omega), if_pos (by omega), if_neg c1, if_neg (by omega), if_pos (by omega), if_pos (by omega), if_neg c3, if_neg (by omega), w64 (x := (j : Int) + 1) (by omega) (by omega)]
       rfl
      ·by_cases hq : q = j
       ·rw [hq]; exact ⟨by omega, by omega, by omega, fun h => absurd h c4⟩
       ·exact h.1 q (by omega) h2
theorem fit_l0 (l : List S38) (hl : l.length ≤ 4096) (hs : ∀ x ∈ l, x.f2.length ≤ 100000000000000) (d : Nat) :
  ∀ i : Nat, i + d = l.length → ∃ b, Ev (fun k => zah.l0 k (l.length : Int) i l) b ∧ (b = true ↔ ∀ q, i ≤ q → q < l.length → zfh l q) := by
 induction d with
 | zero =>
  intro i hi
  refine ⟨true, Ev.step (f := fun k => zah.j1 k (l.length : Int) i false l) (fun k => ?_) (evAt fun k => ?_), ⟨fun _ q h1 h2 => by omega, fun _ => rfl⟩⟩
  ·simp only [zah.l0]
   rw [if_neg (by omega)]
  ·simp only [zah.j1]
   rw [if_neg (by decide), decide_eq_true (by omega)]
 | succ d ih =>
  intro i hi
  have hil : i < l.length := by omega
  obtain ⟨b', e', g'⟩ := ih (i + 1) (by omega)
  have hx : (zaa l i).f2.length ≤ 100000000000000 := by rw [rd38 l i hil]; exact hs _ (List.getElem_mem hil)
  obtain ⟨b, e, g⟩ := fit_l1 l hl i (zaa l i).f0 (zaa l i).f1 (zaa l i).f2 hx hil e' _ 0 (Nat.zero_add _)
  have st : ∀ {b : Bool}, Ev (fun k => zah.j1 k (l.length : Int) i true l) b → Ev (fun k => zah.l0 k (l.length : Int) i l) b := fun h => Ev.step (fun k => by
   simp only [zah.l0]
   rw [if_pos (by omega), decide_eq_true (by omega)]) h
  have no : ¬ zfh l i → ∀ {b : Bool}, b = false → (b = true ↔ ∀ q, i ≤ q → q < l.length → zfh l q) := fun hn _ hb => by
   rw [hb]
   exact ⟨fun h => (nomatch h), fun h => absurd (h i (Nat.le_refl _) hil) hn⟩
  have j2f : Ev (fun k => zah.j2 k (l.length : Int) i true l (zaa l i).f0 (zaa l i).f1 (zaa l i).f2) false := evAt fun k => by
   simp only [zah.j2]
   rw [if_pos trivial]
  have j2t : Ev (fun k => zah.j2 k (l.length : Int) i false l (zaa l i).f0 (zaa l i).f1 (zaa l i).f2) b := Ev.step (fun k => by
   simp only [zah.j2]
   rw [if_neg (by decide)]
   rfl) e
  have yes : (0 ≤ (zaa l i).f0 ∧ (zaa l i).f0 ≤ 65535) → (0 ≤ (zaa l i).f1 ∧ (zaa l i).f1 ≤ 65535) → (0 < i → (zaa l ((i : Int) - 1)).f1 < (zaa l i).f1 ∨ (zaa l ((i : Int) - 1)).f1 = (zaa l i).f1 ∧ (zaa l ((i : Int) - 1)).f0 < (zaa l i).f0) → (b = true ↔ ∀ q, i ≤ q → q < l.length → zfh l q) := fun c1 c2 c3 => by
   rw [g, g']
   refine ⟨fun h q h1 h2 => ?_, fun h => ⟨fun q _ h2 => (h i (Nat.le_refl _) hil).2.2.2 q h2, fun q h1 h2 => h q (by omega) h2⟩⟩
   by_cases hq : q = i
   ·subst hq
    exact ⟨c1, c2, c3, fun j hj => h.1 j (Nat.zero_le _) hj⟩
   ·exact h.2 q (by omega) h2
  by_cases c1 : 0 ≤ (zaa l i).f0 ∧ (zaa l i).f0 ≤ 65535
  ·by_cases c2 : 0 ≤ (zaa l i).f1 ∧ (zaa l i).f1 ≤ 65535
   ·by_cases c3 : 0 < i
    ·by_cases c4 : (zaa l ((i : Int) - 1)).f1 < (zaa l i).f1 ∨ (zaa l ((i : Int) - 1)).f1 = (zaa l i).f1 ∧ (zaa l ((i : Int) - 1)).f0 < (zaa l i).f0
     ·refine ⟨b, st (Ev.step (fun k => ?_) j2t), yes c1 c2 fun _ => c4⟩
      simp only [zah.j1]
      rw [if_pos trivial, if_pos (by omega), if_pos (by omega), zd8, Option.bind_some, if_pos (decide_eq_true c1), zd8, Option.bind_some, if_pos (decide_eq_true c2), if_pos (by omega), w64 (x := (i : Int) - 1) (by omega) (by omega), if_pos (by omega), if_pos (by omega), zgw, Option.bind_some, decide_eq_true c4]
      rfl
     ·refine ⟨false, st (Ev.step (fun k => ?_) j2f), no (fun h => c4 (h.2.2.1 c3)) rfl⟩
      simp only [zah.j1]
      rw [if_pos trivial, if_pos (by omega), if_pos (by omega), zd8, Option.bind_some, if_pos (decide_eq_true c1), zd8, Option.bind_some, if_pos (decide_eq_true c2), if_pos (by omega), w64 (x := (i : Int) - 1) (by omega) (by omega), if_pos (by omega), if_pos (by omega), zgw, Option.bind_some, decide_eq_false c4]
      rfl
    ·refine ⟨b, st (Ev.step (fun k => ?_) j2t), yes c1 c2 fun h => absurd h c3⟩
     simp only [zah.j1]
     rw [if_pos trivial, if_pos (by omega), if_pos (by omega), zd8, Option.bind_some, if_pos (decide_eq_true c1), zd8, Option.bind_some, if_pos (decide_eq_true c2), if_neg (by omega)]
   ·refine ⟨false, st (Ev.step (fun k => ?_) j2f), no (fun h => c2 h.2.1) rfl⟩
    simp only [zah.j1]
    rw [if_pos trivial, if_pos (by omega), if_pos (by omega), zd8, Option.bind_some, if_pos (decide_eq_true c1), zd8, Option.bind_some, decide_eq_false c2, if_neg (by decide)]
  ·refine ⟨false, st (Ev.step (fun k => ?_) j2f), no (fun h => c1 h.1) rfl⟩
   simp only [zah.j1]
   rw [if_pos trivial, if_pos (by omega), if_pos (by omega), zd8, Option.bind_some, decide_eq_false c1, if_neg (by decide)]
theorem zh5 {α : Type} {lt : α → α → Prop} (tr : ∀ {a b c}, lt a b → lt b c → lt a c) : ∀ {l : List α}, (∀ i (h : i + 1 < l.length), lt (l[i]'(by omega)) (l[i + 1]'h)) → l.Pairwise lt
 | [], _ => List.Pairwise.nil
 | [a], _ => List.pairwise_singleton _ _
 | a :: b :: t, h => by
  have h0 : lt a b := h 0 (by simp)
  have ht : (b :: t).Pairwise lt := zh5 (lt := lt) tr fun i hi => h (i + 1) (by simp at hi ⊢; omega)
  refine List.pairwise_cons.2 ⟨fun x hx => ?_, ht⟩
  rcases List.mem_cons.1 hx with rfl | hx
  ·exact h0
  ·exact tr h0 ((List.pairwise_cons.1 ht).1 x hx)
open Go.Proofs.ZZ.G16 in
theorem nodes_fit {l : List S38} (hl : l.length ≤ 4096) : (∀ q, 0 ≤ q → q < l.length → zfh l q) ↔ FitG (l.map ndT) := by
 constructor
 ·intro h
  have hx : ∀ x ∈ l.map ndT, ∃ i, ∃ hi : i < l.length, x = ndT l[i] ∧ zfh l i := by
   intro x hx
   obtain ⟨y, hy, rfl⟩ := List.mem_map.1 hx
   obtain ⟨i, hi, rfl⟩ := List.getElem_of_mem hy
   exact ⟨i, hi, rfl, h i (Nat.zero_le _) hi⟩
  have hk : ∀ i (hi : i < l.length), zfh l i → ∀ k ∈ l[i].f2, 0 ≤ k ∧ k < (l.length : Int) ∧ (zaa l k).f1 ≤ l[i].f1 := by
   intro i hi ho k hk
   obtain ⟨j, hj, rfl⟩ := List.getElem_of_mem hk
   have e : (zaa l i).f2 = l[i].f2 := by rw [rd38 l i hi]
   obtain ⟨g1, g2, g3, _⟩ := ho.2.2.2 j (by rw [e]; exact hj)
   rw [e, rdI _ j hj] at g1 g2 g3
   rw [rd38 l i hi] at g3
   exact ⟨g1, g2, g3⟩
  refine GAwake.zfl (by rw [List.length_map]; exact hl) ?_ ?_ ?_
  ·refine zh5 (lt := mlt) (fun h1 h2 => zdp h1 h2) fun i hi => ?_
   have hi' : i + 1 < l.length := by simpa [marks] using hi
   have h1 := (h (i + 1) (Nat.zero_le _) hi').2.2.1 (by omega)
   have ei : ((i + 1 : Nat) : Int) - 1 = (i : Int) := by omega
   rw [ei, rd38 l i (by omega), rd38 l (i + 1) hi'] at h1
   simp only [marks, List.getElem_map, mlt, mrk, ndT]
   exact h1
  ·intro x hx'
   obtain ⟨i, hi, rfl, ho⟩ := hx x hx'
   have e := rd38 l i hi
   obtain ⟨o1, o2, _, o4⟩ := id ho
   rw [e] at o1 o2 o4
   refine ⟨o1.1, o1.2, o2.1, o2.2, ?_, fun k hk' => ?_⟩
   ·refine zh5 (lt := fun a b : Int => a < b) (fun h1 h2 => Int.lt_trans h1 h2) fun j hj => ?_
    have hj : j + 1 < l[i].f2.length := hj
    have := (o4 (j + 1) hj).2.2.2 (by omega)
    have ej : ((j + 1 : Nat) : Int) - 1 = (j : Int) := by omega
    rw [ej, rdI _ j (by omega), rdI _ (j + 1) hj] at this
    exact this
   ·obtain ⟨a, b, _⟩ := hk i hi ho k hk'
    exact ⟨a, by rw [List.length_map]; exact b⟩
  ·intro x hx' k hk'
   obtain ⟨i, hi, rfl, ho⟩ := hx x hx'
   obtain ⟨a, b, c⟩ := hk i hi ho k hk'
   have hkl : k.toNat < l.length := by omega
   have e : zaa l k = l[k.toNat] := by
    have := rd38 l k.toNat hkl
    rw [show ((k.toNat : Nat) : Int) = k by omega] at this
    exact this
   rw [e] at c
   simp only [List.getD_eq_getElem?_getD, List.getElem?_map, List.getElem?_eq_getElem hkl]
   exact c
 ·intro h q _ hq
  have e := rd38 l q hq
  have hm : ndT l[q] ∈ l.map ndT := List.mem_map.2 ⟨_, List.getElem_mem hq, rfl⟩
  have o := h.ok _ hm
  refine ⟨by rw [e]; exact ⟨o.s0, o.s1⟩, by rw [e]; exact ⟨o.a0, o.a1⟩, fun h0 => ?_, fun j hj => ?_⟩
  ·have hr := List.pairwise_iff_getElem.1 h.rise (q - 1) q (by simp [marks]; omega) (by simp [marks]; omega) (by omega)
   have eq : ((q : Int) - 1) = ((q - 1 : Nat) : Int) := by omega
   rw [eq, rd38 l (q - 1) (by omega), e]
   simp only [marks, List.getElem_map, mlt, mrk, ndT] at hr
   exact hr
  ·rw [e] at hj ⊢
   have hmj : l[q].f2[j] ∈ l[q].f2 := List.getElem_mem hj
   have hi := o.inn l[q].f2[j] hmj
   rw [List.length_map] at hi
   have hkl : l[q].f2[j].toNat < l.length := by omega
   have ej := rdI l[q].f2 j hj
   refine ⟨by rw [ej]; exact hi.1, by rw [ej]; exact hi.2, ?_, fun h0 => ?_⟩
   ·rw [ej]
    have e2 : zaa l l[q].f2[j] = l[l[q].f2[j].toNat] := by
     have := rd38 l l[q].f2[j].toNat hkl
     rw [show ((l[q].f2[j].toNat : Nat) : Int) = l[q].f2[j] by omega] at this
     exact this
    rw [e2]
    exact h.back (mrk (ndT l[q])) (mrk (ndT l[l[q].f2[j].toNat])) ⟨_, hm, rfl, l[q].f2[j], hmj, hi.1, by simp [marks, List.getElem?_eq_getElem hkl]⟩
   ·have eq : ((j : Int) - 1) = ((j - 1 : Nat) : Int) := by omega
    rw [eq, rdI _ (j - 1) (by omega), ej]
    exact List.pairwise_iff_getElem.1 o.up (j - 1) j (by show j - 1 < l[q].f2.length; omega) hj (by omega)
open Go.Proofs.ZZ.G16 in
theorem fit_Ev (l : List S38) (hl : l.length ≤ 4096) (hs : ∀ x ∈ l, x.f2.length ≤ 100000000000000) : ∃ b, Ev (fun k => zah.f k l) b ∧ (b = true ↔ FitG (l.map ndT)) := by
 obtain ⟨b, e, g⟩ := fit_l0 l hl hs l.length 0 (Nat.zero_add _)
 exact ⟨b, e, g.trans (nodes_fit hl)⟩
theorem ints_refl (l : List Int) (hl : l.length ≤ 100000000000000) : Ev (fun k => za3.f k l l) true := by
 have : ∀ d j : Nat, j + d = l.length → Ev (fun k => za3.l0 k l l (j : Int)) true := by
  intro d
  induction d with
  | zero =>
   intro j hj
   refine evAt fun k => ?_
   simp only [za3.l0]
   rw [if_neg (by omega)]
  | succ d ih =>
   intro j hj
   refine Ev.step (fun k => ?_) (ih (j + 1) (by omega))
   simp only [za3.l0]
   rw [if_pos (by omega), if_pos (by omega), if_pos (by omega), if_true, w64 (x := (j : Int) + 1) (by omega) (by omega)]
   rfl
 refine Ev.congr (fun k => ?_) (this l.length 0 (Nat.zero_add _))
 simp only [za3.f]
 rw [if_true]
 rfl
theorem same_refl (l : List S38) (hl : l.length ≤ 10000000000000) (hs : ∀ x ∈ l, x.f2.length ≤ 100000000000000) : Ev (fun k => zay.f k l l) true := by
 have : ∀ d j : Nat, j + d = l.length → Ev (fun k => zay.l0 k (j : Int) l l) true := by
  intro d
  induction d with
  | zero =>
   intro j hj
   refine evAt fun k => ?_
   simp only [zay.l0]
   rw [if_neg (by omega)]
  | succ d ih =>
   intro j hj
   have hjl : j < l.length := by omega
   refine Ev.step (f := fun k => (za3.f k (zaa l j).f2 (zaa l j).f2).bind fun t => if t = true then zay.l0 k ((j + 1 : Nat) : Int) l l else some false) (fun k => ?_) (Ev.bind (ints_refl _ (by rw [rd38 l j hjl]; exact hs _ (List.getElem_mem hjl))) ?_)
   ·simp only [zay.l0]
    rw [if_pos (by omega), if_pos (by omega), if_pos (by omega), if_true, if_true, w64 (x := (j : Int) + 1) (by omega) (by omega)]
    rfl
   ·exact ih (j + 1) (by omega)
 refine Ev.congr (fun k => ?_) (this l.length 0 (Nat.zero_add _))
 simp only [zay.f]
 rw [if_true]
 rfl
open Go.Proofs.ZZ.G16
abbrev Ls (g : List Nd) : List S38 := g.map ndS
theorem Ls_T (l : List S38) : Ls (l.map ndT) = l := by
 show (l.map ndT).map ndS = l
 rw [List.map_map]
 exact List.map_id' l
theorem T_Ls (g : List Nd) : (Ls g).map ndT = g := by
 show (g.map ndS).map ndT = g
 rw [List.map_map]
 exact List.map_id' g
theorem zgk {g : List Nd} (h : FitG g) {x : Nd} (hx : x ∈ g) : x.2.2.length ≤ g.length := by
 have o := h.ok x hx
 have := zdv x.2.2 ((List.range g.length).map Int.ofNat) (zfa (lt := fun a b : Int => a < b) (fun a => Int.lt_irrefl a) o.up) fun k hk => by
  obtain ⟨a, b⟩ := o.inn k hk
  exact List.mem_map.2 ⟨k.toNat, List.mem_range.2 (by omega), by show ((k.toNat : Nat) : Int) = k; omega⟩
 simpa using this
theorem cnt_le {M : Nat} : ∀ {g : List Nd}, (∀ x ∈ g, x.2.2.length ≤ M) → GAdd.cntG g ≤ g.length * (M + 1)
 | [], _ => by simp [GAdd.cntG]
 | x :: t, h => by
  have h1 := cnt_le (g := t) fun y hy => h y (List.mem_cons_of_mem _ hy)
  have h2 := h x (by simp)
  simp only [GAdd.cntG, List.length_cons, Nat.add_mul]
  omega
theorem cnt_fit {g : List Nd} (h : FitG g) (hl : g.length ≤ 1000) : GAdd.cntG g ≤ 1001000 := by
 have h1 := cnt_le (M := 1000) (g := g) fun x hx => Nat.le_trans (zgk h hx) hl
 have h2 : g.length * 1001 ≤ 1000 * 1001 := Nat.mul_le_mul_right _ hl
 omega
theorem Ls_links {g : List Nd} (h : FitG g) : ∀ x ∈ Ls g, x.f2.length ≤ 100000000000000 := fun x hx => by
 obtain ⟨y, hy, rfl⟩ := List.mem_map.1 hx
 have h1 := zgk h hy
 have h2 := h.len
 show y.2.2.length ≤ _
 omega
theorem zb3 (g : List Nd) : (Ls g).length = g.length := List.length_map _
theorem ok_len {s : S24} (h : ok24 s) : s.f0.length ≤ 10000000000000 := by
 have := h.1
 omega
theorem zgo {s : S24} (h : ok24 s) : ∀ x ∈ s.f0, x.f2.length ≤ 100000000000000 := fun x hx => by
 have := (h.2 x hx).2.2.1
 omega
theorem evT {α β : Type} {g : Nat → Option Bool} {f h : Nat → Option β} {r : β} {b : Bool} (e : Ev g b) (k1 : b = true → Ev f r) (k2 : b = false → Ev h r) : Ev (fun n => (g n).bind fun t => if t = true then f n else h n) r := by
 refine Ev.bind e ?_
 cases hb : b with
 | true => exact k1 hb
 | false => exact k2 hb
theorem find_l0 (l : List S38) (hl : l.length ≤ 4096) (s a : Int) (d : Nat) : ∀ i : Nat, i + d = l.length → Ev (fun k => zaw.l0 k s a i l) (GFind.zeu s a i ((l.map ndT).drop i)) := by
 induction d with
 | zero =>
  intro i hi
  rw [List.drop_of_length_le (by rw [List.length_map]; omega)]
  refine evAt fun k => ?_
  simp only [zaw.l0]
  rw [if_neg (by omega)]
  rfl
 | succ d ih =>
  intro i hi
  have hil : i < l.length := by omega
  have e := rd38 l i hil
  rw [List.drop_eq_getElem_cons (by rw [List.length_map]; exact hil), List.getElem_map]
  unfold GFind.zeu
  have go : Ev (fun k => zaw.l0 k s a (wrap64 ((i : Int) + 1)) l) (GFind.zeu s a (i + 1) ((l.map ndT).drop (i + 1))) := by
   rw [w64 (by omega) (by omega)]
   exact ih (i + 1) (by omega)
  by_cases h1 : l[i].f0 = s
  ·by_cases h2 : l[i].f1 = a
   ·rw [if_pos ⟨h1, h2⟩]
    refine evAt fun k => ?_
    simp only [zaw.l0]
    rw [if_pos (by omega), if_pos (by omega), e, if_pos h1, if_pos h2]
   ·rw [if_neg (fun h => h2 h.2)]
    refine Ev.step (fun k => ?_) go
    simp only [zaw.l0]
    rw [if_pos (by omega), if_pos (by omega), e, if_pos h1, if_neg h2]
  ·rw [if_neg (fun h => h1 h.1)]
   refine Ev.step (fun k => ?_) go
   simp only [zaw.l0]
   rw [if_pos (by omega), if_pos (by omega), e, if_neg h1]
theorem find_Ev (l : List S38) (hl : l.length ≤ 4096) (s a : Int) : Ev (fun k => zaw.f k l s a) (GFind.zcb (l.map ndT) s a) := by
 have := find_l0 l hl s a l.length 0 (Nat.zero_add _)
 rw [List.drop_zero] at this
 exact this
theorem push_eq {g : List Nd} (hg : FitG g) (hl : g.length ≤ 1000) (f s a : Int) : zc9.f (Ls g) f s a = some (Ls (GPush.zbq g f s a).1, (GPush.zbq g f s a).2.1, (GPush.zbq g f s a).2.2) := by
 unfold zc9.f
 rw [T_Ls, if_pos ⟨GGiv.zhz hg, by have := cnt_fit hg hl; omega⟩]
theorem same_Ls {g : List Nd} (h : FitG g) : Ev (fun k => zay.f k (Ls g) (Ls g)) true :=
 same_refl (Ls g) (by rw [zb3]; have := h.len; omega) (Ls_links h)
theorem rdL {g : List Nd} {i : Nat} (h : i < g.length) : zaa (Ls g) (i : Int) = ndS g[i] := by
 rw [rd38 (Ls g) i (by rw [zb3]; exact h), List.getElem_map]
theorem put_l0 (l : List Int) (hl : l.length ≤ 1000000) (x : Int) (d : Nat) : ∀ j : Nat, j + d = l.length → Ev (fun k => zbg.l0 k l x (j : Int)) (l.take j ++ putI x (l.drop j)) := by
 have stop : ∀ j : Nat, j ≤ l.length → ∀ {r : List Int}, r = l.take j ++ x :: l.drop j → ((some (l.take (j : Int).toNat : List Int)).bind fun y163 => (if ([] : List Int).length + y163.length < 17592186044416 then ((some (([] : List Int) ++ y163 : List Int)).bind fun y168 => (if y168.length < 17592186044416 then ((some (y168 ++ [x] : List Int)).bind fun y171 => ((some (l.drop (j : Int).toNat : List Int)).bind fun y174 => (if y171.length + y174.length < 17592186044416 then (some (y171 ++ y174)) else (none)))) else (none))) else (none))) = some r := by
  rintro j hj r rfl
  have h1 : (l.take j).length ≤ l.length := by rw [List.length_take]; omega
  have h2 : (l.drop j).length ≤ l.length := by rw [List.length_drop]; omega
  rw [Int.toNat_natCast, Option.bind_some, List.nil_append, if_pos (by simp only [List.length_nil]; omega), Option.bind_some, if_pos (by omega), Option.bind_some, Option.bind_some, if_pos (by rw [List.length_append, List.length_singleton]; omega), List.append_assoc]
  rfl
 induction d with
 | zero =>
  intro j hj
  refine evAt fun k => ?_
  simp only [zbg.l0]
  rw [if_neg (by omega), if_pos (by omega), if_pos (by omega)]
  refine stop j (by omega) ?_
  rw [List.drop_of_length_le (by omega)]
  rfl
 | succ d ih =>
  intro j hj
  have hjl : j < l.length := by omega
  have e := rdI l j hjl
  have hd := List.drop_eq_getElem_cons hjl
  by_cases h1 : l[j] < x
  ·have := ih (j + 1) (by omega)
   have e2 : l.take j ++ putI x (l.drop j) = l.take (j + 1) ++ putI x (l.drop (j + 1)) := by
    rw [hd, List.take_succ_eq_append_getElem hjl, List.append_assoc]
    simp only [putI]
    rw [if_pos h1]
    rfl
   rw [e2]
   refine Ev.step (fun k => ?_) this
   simp only [zbg.l0]
   rw [if_pos (by omega), if_pos (by omega), e, if_pos h1, w64 (x := (j : Int) + 1) (by omega) (by omega)]
   rfl
  ·by_cases h2 : l[j] = x
   ·refine evAt fun k => ?_
    simp only [zbg.l0]
    rw [if_pos (by omega), if_pos (by omega), e, if_neg h1, if_pos h2, hd]
    simp only [putI]
    rw [if_neg h1, if_pos h2, ← hd, List.take_append_drop]
   ·refine evAt fun k => ?_
    simp only [zbg.l0]
    rw [if_pos (by omega), if_pos (by omega), e, if_neg h1, if_neg h2, if_pos (by omega)]
    refine stop j (by omega) ?_
    rw [hd]
    simp only [putI]
    rw [if_neg h1, if_neg h2]
theorem put_Ev (l : List Int) (hl : l.length ≤ 1000000) (x : Int) : Ev (fun k => zbg.f k l x) (putI x l) := by
 have := put_l0 l hl x l.length 0 (Nat.zero_add _)
 rw [List.take_zero, List.drop_zero, List.nil_append] at this
 exact this
def zd5 (g : List Nd) (p : Nat) (nw : Nd) : Nat → Nat → List Nd
 | 0, i => if i = p then [nw] else []
 | d + 1, i => (if i = p then [nw] else []) ++ ((g[i]?).map (shN p)).toList ++ zd5 g p nw d (i + 1)
theorem zil (g : List Nd) (p : Nat) (nw : Nd) : ∀ d i, i + d = g.length → p < i → zd5 g p nw d i = (g.drop i).map (shN p)
 | 0, i, h, hp => by
  rw [List.drop_of_length_le (by omega)]
  simp only [zd5]
  rw [if_neg (by omega)]
  rfl
 | d + 1, i, h, hp => by
  simp only [zd5]
  rw [if_neg (by omega), List.getElem?_eq_getElem (by omega), zil g p nw d (i + 1) (by omega) (by omega), List.drop_eq_getElem_cons (i := i) (by omega)]
  rfl
theorem restR_at (g : List Nd) (p : Nat) (nw : Nd) : ∀ d, p + d = g.length → zd5 g p nw d p = nw :: (g.drop p).map (shN p)
 | 0, h => by
  rw [List.drop_of_length_le (by omega)]
  simp only [zd5]
  rw [if_pos trivial]
  rfl
 | d + 1, h => by
  simp only [zd5]
  rw [if_pos trivial, List.getElem?_eq_getElem (by omega), zil g p nw d (p + 1) (by omega) (by omega), List.drop_eq_getElem_cons (i := p) (by omega)]
  rfl
theorem zim (g : List Nd) (p : Nat) (nw : Nd) : ∀ q d i, i + d = g.length → i + q = p → p ≤ g.length → zd5 g p nw d i = ((g.drop i).take q).map (shN p) ++ nw :: (g.drop p).map (shN p)
 | 0, d, i, h, hi, hp => by
  obtain rfl : i = p := by omega
  rw [restR_at g i nw d h, List.take_zero]
  rfl
 | q + 1, 0, i, h, hi, hp => by omega
 | q + 1, d + 1, i, h, hi, hp => by
  simp only [zd5]
  rw [if_neg (by omega), List.getElem?_eq_getElem (by omega), zim g p nw q d (i + 1) (by omega) (by omega) hp, List.drop_eq_getElem_cons (i := i) (by omega), List.take_succ_cons]
  rfl
theorem restR_with (g : List Nd) (m : Mk) : zd5 g (pos g m) (m.2, m.1, []) g.length 0 = zcx g m := by
 rw [zim g (pos g m) _ (pos g m) g.length 0 (Nat.zero_add _) (Nat.zero_add _) (pos_le g m), List.drop_zero]
 rfl
theorem with_l2 {g : List Nd} (hg : FitG g) (p i : Nat) (hp : p ≤ 4096) (hi : i < g.length) (s a : Int) (L : List Int) (out : List Nd) (hout : out.length ≤ 100000) {r : List S38}
  (K : Ev (fun k => zal.l1 k (p : Int) ((i + 1 : Nat) : Int) (Ls g) s a L (Ls (out ++ [shN p g[i]]))) r) (d : Nat) :
  ∀ j : Nat, j + d = g[i].2.2.length → Ev (fun k => zal.l2 k (p : Int) (i : Int) (j : Int) (Ls g) s a L (Ls out) g[i].1 g[i].2.1 ((g[i].2.2.take j).map (shI p))) r := by
 have hlk := zgk hg (List.getElem_mem hi)
 have hgl := hg.len
 have e0 := rdL hi
 have i1 : (i : Int) < ((Ls g).length : Int) := by rw [zb3]; omega
 induction d with
 | zero =>
  intro j hj
  refine Ev.step (fun k => ?_) K
  simp only [zal.l2]
  rw [if_pos (by omega), if_pos i1, e0, if_neg (by show ¬ ((j : Int) < (g[i].2.2.length : Int)); omega), if_pos (by rw [zb3]; omega), w64 (x := (i : Int) + 1) (by omega) (by omega), List.take_of_length_le (by omega)]
  simp [shN, ndS]
 | succ d ih =>
  intro j hj
  have hjl : j < g[i].2.2.length := by omega
  have e := rdI g[i].2.2 j hjl
  have nx := ih (j + 1) (by omega)
  have hk := (hg.ok _ (List.getElem_mem hi)).inn _ (List.getElem_mem hjl)
  rw [List.take_succ_eq_append_getElem hjl, List.map_append, List.map_singleton] at nx
  refine Ev.step (fun k => ?_) nx
  simp only [zal.l2]
  rw [if_pos (by omega), if_pos i1, e0, if_pos (by show (j : Int) < (g[i].2.2.length : Int); omega), if_pos (by omega), show (ndS g[i]).f2 = g[i].2.2 from rfl, e, w64 (x := (j : Int) + 1) (by omega) (by omega)]
  have hlen : ((g[i].2.2.take j).map (shI p)).length < 17592186044416 := by rw [List.length_map, List.length_take]; omega
  by_cases c : (p : Int) ≤ g[i].2.2[j]
  ·rw [if_pos c, if_pos hlen, w64 (x := _ + 1) (by omega) (by omega), show shI p g[i].2.2[j] = g[i].2.2[j] + 1 from if_pos c]
   rfl
  ·rw [if_neg (by omega), if_pos hlen, show shI p g[i].2.2[j] = g[i].2.2[j] from if_neg c]
   rfl
theorem with_l1 {g : List Nd} (hg : FitG g) (p : Nat) (hp : p ≤ g.length) (s a : Int) (L : List Int) (d : Nat) :
  ∀ (i : Nat) (out : List Nd), i + d = g.length → out.length + 2 * d ≤ 90000 → Ev (fun k => zal.l1 k (p : Int) (i : Int) (Ls g) s a L (Ls out)) (Ls (out ++ zd5 g p (s, a, []) d i)) := by
 have hgl := hg.len
 have app : ∀ (out : List Nd), Ls out ++ [(⟨s, a, []⟩ : S38)] = Ls (out ++ [(s, a, [])]) := fun out => by simp [ndS]
 have j3 : ∀ (i : Nat) (out : List Nd) (r : List S38), i ≤ g.length → out.length ≤ 90000 → Ev (fun k => zal.j3 k (p : Int) (i : Int) (Ls g) s a L (Ls (out ++ if i = p then [(s, a, [])] else []))) r → Ev (fun k => zal.l1 k (p : Int) (i : Int) (Ls g) s a L (Ls out)) r := by
  intro i out r h1 h2 h3
  by_cases c : i = p
  ·rw [if_pos c] at h3
   refine Ev.step (fun k => ?_) h3
   simp only [zal.l1]
   rw [if_pos (by rw [zb3]; omega), if_pos (by omega), if_pos (by rw [zb3]; omega), app]
  ·rw [if_neg c, List.append_nil] at h3
   refine Ev.step (fun k => ?_) h3
   simp only [zal.l1]
   rw [if_pos (by rw [zb3]; omega), if_neg (by omega)]
 induction d with
 | zero =>
  intro i out hi ho
  refine j3 i out _ (by omega) (by omega) (evAt fun k => ?_)
  simp only [zal.j3]
  rw [if_pos (by rw [zb3]; omega)]
  rfl
 | succ d ih =>
  intro i out hi ho
  have hil : i < g.length := by omega
  have e0 := rdL hil
  have hlp : (if i = p then [((s, a, []) : Nd)] else []).length ≤ 1 := by split <;> simp
  refine j3 i out _ (by omega) (by omega) ?_
  obtain ⟨o1, ho1⟩ : ∃ o1, o1 = out ++ if i = p then [((s, a, []) : Nd)] else [] := ⟨_, rfl⟩
  have hol : o1.length ≤ out.length + 1 := by rw [ho1, List.length_append]; omega
  rw [← ho1]
  have nx := ih (i + 1) (o1 ++ [shN p g[i]]) (by omega) (by rw [List.length_append, List.length_singleton]; omega)
  have er : out ++ zd5 g p (s, a, []) (d + 1) i = o1 ++ [shN p g[i]] ++ zd5 g p (s, a, []) d (i + 1) := by
   simp only [zd5]
   rw [ho1, List.getElem?_eq_getElem hil]
   simp
  rw [er]
  refine Ev.step (fun k => ?_) (with_l2 hg p i (by omega) hil s a L o1 (by omega) nx g[i].2.2.length 0 (Nat.zero_add _))
  simp only [zal.j3]
  rw [if_neg (by rw [zb3]; omega), if_pos (by omega), if_pos (by rw [zb3]; omega), e0]
  rfl
theorem pos_of {g : List Nd} {m : Mk} : ∀ {i : Nat}, i ≤ g.length → (∀ j (h : j < g.length), j < i → mlt (mrk g[j]) m) → (∀ h : i < g.length, ¬ mlt (mrk g[i]) m) → pos g m = i := by
 unfold pos
 induction g with
 | nil => intro i h1 _ _; simp at h1 ⊢; exact h1.symm
 | cons x t ih =>
  intro i h1 h2 h3
  cases i with
  | zero =>
   have := h3 (by simp)
   rw [List.takeWhile_cons_of_neg (by simpa using this)]
   rfl
  | succ i =>
   have h0 := h2 0 (by simp) (by omega)
   rw [List.takeWhile_cons_of_pos (by simpa using h0), List.length_cons]
   congr 1
   exact ih (by simp at h1; omega) (fun j h hj => h2 (j + 1) (by simp; omega) (by omega)) (fun h => h3 (by simp; omega))
theorem with_l0 {g : List Nd} (hg : FitG g) (s a : Int) (L : List Int) (d : Nat) :
  ∀ i : Nat, i + d = g.length → (∀ j (h : j < g.length), j < i → mlt (mrk g[j]) (a, s)) → Ev (fun k => zal.l0 k (i : Int) (Ls g) s a L) (Ls (zcx g (a, s))) := by
 have hgl := hg.len
 have fin : ∀ i : Nat, pos g (a, s) = i → Ev (fun k => zal.j1 k (i : Int) (Ls g) s a L) (Ls (zcx g (a, s))) := by
  rintro i rfl
  have := with_l1 hg (pos g (a, s)) (pos_le g _) s a L g.length 0 [] (Nat.zero_add _) (by simp only [List.length_nil]; omega)
  rw [List.nil_append, restR_with g (a, s)] at this
  refine Ev.step (fun k => ?_) this
  simp only [zal.j1]
  rfl
 induction d with
 | zero =>
  intro i hi hb
  refine Ev.step (fun k => ?_) (fin i (pos_of (by omega) hb (fun h => by omega)))
  simp only [zal.l0]
  rw [if_neg (by rw [zb3]; omega)]
 | succ d ih =>
  intro i hi hb
  have hil : i < g.length := by omega
  have e0 := rdL hil
  have hbe : zbl.f (ndS g[i]).f0 (ndS g[i]).f1 (ndS g[i]).f2 s a L = some (decide (g[i].2.1 < a ∨ g[i].2.1 = a ∧ g[i].1 < s)) := zgw (ndS g[i]) (⟨s, a, L⟩ : S38)
  by_cases c : mlt (mrk g[i]) (a, s)
  ·refine Ev.step (fun k => ?_) (ih (i + 1) (by omega) (fun j h hj => ?_))
   ·simp only [zal.l0]
    rw [if_pos (by rw [zb3]; omega), if_pos (by omega), e0, hbe, Option.bind_some, if_pos (decide_eq_true (show g[i].2.1 < a ∨ g[i].2.1 = a ∧ g[i].1 < s from c)), w64 (x := (i : Int) + 1) (by omega) (by omega)]
    rfl
   ·by_cases hji : j = i
    ·subst hji; exact c
    ·exact hb j h (by omega)
  ·refine Ev.step (fun k => ?_) (fin i (pos_of (by omega) hb (fun _ => c)))
   simp only [zal.l0]
   rw [if_pos (by rw [zb3]; omega), if_pos (by omega), e0, hbe, Option.bind_some, if_neg (by rw [decide_eq_true_eq]; exact c)]
theorem with_Ev {g : List Nd} (hg : FitG g) (s a : Int) (L : List Int) : Ev (fun k => zal.f k (Ls g) s a L) (Ls (zcx g (a, s))) :=
 with_l0 hg s a L g.length 0 (Nat.zero_add _) (fun j _ h => by omega)
theorem addE_set {g : List Nd} (hn : (marks g).Nodup) {m b : Mk} {i : Nat} (hi : i < g.length) (hm : mrk g[i] = m) : addE g m b = g.set i (g[i].1, g[i].2.1, putI (idx (marks g) b) g[i].2.2) := by
 unfold addE
 refine List.ext_getElem? fun j => ?_
 rw [List.getElem?_map, List.getElem?_set]
 by_cases hj : i = j
 ·subst hj
  rw [if_pos rfl, if_pos hi, List.getElem?_eq_getElem hi, Option.map_some, if_pos hm]
 ·rw [if_neg hj]
  cases hx : g[j]? with
  | none => rfl
  | some x =>
   rw [Option.map_some, if_neg]
   intro he
   refine hj (zfr hn (i := i) (j := j) (a := m) ?_ ?_)
   ·rw [zc3 (List.getElem?_eq_getElem hi), hm]
   ·rw [zc3 hx, he]
theorem zf7 {g : List Nd} (hl : g.length ≤ 4096) (s a : Int) : Ev (fun k => zaw.f k (Ls g) s a) (if (a, s) ∈ marks g then idx (marks g) (a, s) else -1) := by
 have := find_Ev (Ls g) (by rw [zb3]; exact hl) s a
 rw [T_Ls, GFind.zd7] at this
 exact this
theorem zh3 {g : List Nd} {m : Mk} (hm : m ∈ marks g) : ∃ i, ∃ h : i < g.length, idx (marks g) m = (i : Int) ∧ mrk g[i] = m := by
 obtain ⟨h1, h2, h3⟩ := zdy hm
 rw [zcl] at h3
 have hl : (idx (marks g) m).toNat < g.length := by omega
 refine ⟨(idx (marks g) m).toNat, hl, by omega, ?_⟩
 rw [zc3 (List.getElem?_eq_getElem hl)] at h1
 exact Option.some.inj h1
theorem set_Ls (g : List Nd) (i : Nat) (s a : Int) (L : List Int) : (Ls g).set i ⟨s, a, L⟩ = Ls (g.set i (s, a, L)) := by
 show (g.map ndS).set i _ = (g.set i _).map ndS
 rw [List.map_set]
 rfl
theorem zfz {g : List Nd} (h : FitG g) {i : Nat} (hi : i < g.length) : g[i].2.2.length ≤ 4096 := Nat.le_trans (zgk h (List.getElem_mem hi)) h.len
theorem rpush_j2 {g : List Nd} (hg : FitG g) {m b : Mk} (hm : m ∈ marks g) (hb : b ∈ marks g) (fr : Bool) (L : List Int) {i : Nat} (hi : i < g.length) (ei : idx (marks g) m = (i : Int)) (mi : mrk g[i] = m) :
  Ev (fun k => zaq.j2 k m.2 m.1 fr (Ls g) b.2 b.1 L) (if idx (marks g) b ∈ g[i].2.2 then (Ls g, (i : Int), fr) else (Ls (addE g m b), (i : Int), true)) := by
 have hgl := hg.len
 have f1 := zf7 hgl m.2 m.1
 have f2 := zf7 hgl b.2 b.1
 rw [if_pos (show (m.1, m.2) ∈ marks g from hm), show ((m.1, m.2) : Mk) = m from rfl, ei] at f1
 rw [if_pos (show (b.1, b.2) ∈ marks g from hb), show ((b.1, b.2) : Mk) = b from rfl] at f2
 have hp := put_Ev g[i].2.2 (by have := zfz hg hi; omega) (idx (marks g) b)
 have up := (hg.ok _ (List.getElem_mem hi)).up
 have hpl := putI_len (x := idx (marks g) b) up
 have il : (i : Int) < ((Ls g).length : Int) := by rw [zb3]; omega
 refine Ev.step (f := fun k => (zaw.f k (Ls g) m.2 m.1).bind fun t193 => ((zaw.f k (Ls g) b.2 b.1).bind fun t194 => (if 0 ≤ t193 then (if t193 < ((Ls g).length : Int) then ((zbg.f k ((zaa (Ls g) t193).f2) t194).bind fun t196 => (if (t196.length : Int) > (((zaa (Ls g) t193).f2).length : Int) then (if ([] : List (S38)).length + (Ls g).length < 3518437208883 then ((some (([] : List (S38)) ++ (Ls g) : List (S38))).bind fun y200 => (if t193 < (y200.length : Int) then (some ((y200.set (t193 : Int).toNat (⟨(zaa y200 t193).f0, (zaa y200 t193).f1, t196⟩ : S38)), t193, true)) else (none))) else (none)) else (some ((Ls g), t193, fr)))) else (none)) else (none)))) (fun k => by simp only [zaq.j2]) ?_
 refine Ev.bind f1 (Ev.bind f2 ?_)
 refine Ev.congr (fun k => by rw [if_pos (by omega), if_pos il, rdL hi]) ?_
 refine Ev.bind hp ?_
 show Ev (fun _ => if (((putI (idx (marks g) b) g[i].2.2).length : Nat) : Int) > ((g[i].2.2.length : Nat) : Int) then _ else _) _
 by_cases c : idx (marks g) b ∈ g[i].2.2
 ·rw [if_pos c] at hpl
  refine Ev.congr (fun k => by rw [if_neg (by omega)]) ?_
  rw [if_pos c]
  exact Ev.now _
 ·rw [if_neg c] at hpl
  refine Ev.congr (fun k => by rw [if_pos (by omega), List.nil_append, if_pos (by rw [zb3]; simp only [List.length_nil]; omega), Option.bind_some, if_pos il, rdL hi, Int.toNat_natCast, show (⟨(ndS g[i]).f0, (ndS g[i]).f1, putI (idx (marks g) b) g[i].2.2⟩ : S38) = ⟨g[i].1, g[i].2.1, putI (idx (marks g) b) g[i].2.2⟩ from rfl, set_Ls, ← addE_set hg.nodup hi mi]) ?_
  rw [if_neg c]
  exact Ev.now _
theorem rpush_no (g : List Nd) (fr st at_ : Int) : Ev (fun k => zaq.j0 k fr st at_ true (Ls g)) (Ls g, -1, false) := evAt fun k => by
 simp only [zaq.j0]
 rw [if_pos trivial]
theorem rpush_Ev {g : List Nd} (hg : FitG g) (hl : g.length ≤ 120) (fr st at_ : Int) :
  Ev (fun k => zaq.f k (Ls g) fr st at_) (Ls (GPush.zbq g fr st at_).1, (GPush.zbq g fr st at_).2.1, (GPush.zbq g fr st at_).2.2) := by
 have no := rpush_no g fr st at_
 by_cases c1 : fr < 0
 ·rw [show GPush.zbq g fr st at_ = (g, -1, false) from dif_neg (fun h => by omega)]
  exact Ev.congr (fun k => if_pos c1) no
 by_cases c2 : fr ≥ (g.length : Int)
 ·rw [show GPush.zbq g fr st at_ = (g, -1, false) from dif_neg (fun h => by omega)]
  exact Ev.congr (fun k => by
   simp only [zaq.f]
   rw [if_neg c1, if_pos (by rw [zb3]; exact c2)]) no
 obtain ⟨i, rfl⟩ : ∃ i : Nat, fr = (i : Int) := ⟨fr.toNat, by omega⟩
 have hi : i < g.length := by omega
 have il : (i : Int) < ((Ls g).length : Int) := by rw [zb3]; omega
 have eg : g.getD (i : Int).toNat (0, 0, []) = g[i] := by rw [Int.toNat_natCast, List.getD_eq_getElem?_getD, List.getElem?_eq_getElem hi]; rfl
 have hgp : GPush.zbq g (i : Int) st at_ = if g[i].2.1 ≤ at_ ∧ (0 ≤ st ∧ st ≤ 65535) ∧ 0 ≤ at_ ∧ at_ ≤ 65535 then
   (if 0 ≤ GFind.zcb g st at_ ∧ (i : Int) ∈ (g.getD (GFind.zcb g st at_).toNat (0, 0, [])).2.2 then (g, GFind.zcb g st at_, false)
   else if GFind.zcb g st at_ < 0 ∧ 4096 ≤ g.length then (g, -1, false)
   else (zd4 g (mrk g[i]) (at_, st), GFind.zcb (zd4 g (mrk g[i]) (at_, st)) st at_, true)) else (g, -1, false) := by
  unfold GPush.zbq
  rw [dif_pos ⟨by omega, by omega⟩]
  simp only [eg]
 have st1 : ∀ {r : List S38 × Int × Bool}, Ev (fun k => if at_ < g[i].2.1 then zaq.j0 k (i : Int) st at_ true (Ls g) else (zba.f st).bind fun t185 => (if t185 = true then ((zba.f at_).bind fun t186 => (zaq.j0 k (i : Int) st at_ (!t186) (Ls g))) else (zaq.j0 k (i : Int) st at_ true (Ls g)))) r → Ev (fun k => zaq.f k (Ls g) (i : Int) st at_) r := fun h => Ev.congr (fun k => by
  simp only [zaq.f]
  rw [if_neg c1, if_neg (by rw [zb3]; omega), if_pos (by omega), if_pos il, rdL hi]
  rfl) h
 refine st1 ?_
 by_cases c3 : at_ < g[i].2.1
 ·rw [hgp, if_neg (fun h => by omega)]
  exact Ev.congr (fun k => if_pos c3) no
 refine Ev.congr (fun k => if_neg c3) ?_
 refine Ev.congr (fun k => by rw [zd8, Option.bind_some]) ?_
 by_cases c4 : 0 ≤ st ∧ st ≤ 65535
 case neg =>
  rw [hgp, if_neg (fun h => c4 h.2.1)]
  exact Ev.congr (fun k => if_neg (by rw [decide_eq_true_eq]; exact c4)) no
 refine Ev.congr (fun k => by rw [if_pos (decide_eq_true c4), zd8, Option.bind_some]) ?_
 by_cases c5 : 0 ≤ at_ ∧ at_ ≤ 65535
 case neg =>
  rw [hgp, if_neg (fun h => c5 h.2.2)]
  exact Ev.congr (fun k => by rw [decide_eq_false c5]; rfl) no
 refine Ev.congr (fun k => by rw [decide_eq_true c5]) ?_
 rw [hgp, if_pos ⟨by omega, c4, c5⟩]
 show Ev (fun k => zaq.j0 k (i : Int) st at_ false (Ls g)) _
 have hgl := hg.len
 have hbm : mrk g[i] ∈ marks g := List.mem_map.2 ⟨_, List.getElem_mem hi, rfl⟩
 have hle : (mrk g[i]).1 ≤ (at_, st).1 := by show g[i].2.1 ≤ at_; omega
 have hr : 0 ≤ (at_, st).1 ∧ (at_, st).1 ≤ 65535 ∧ 0 ≤ (at_, st).2 ∧ (at_, st).2 ≤ 65535 := ⟨c5.1, c5.2, c4.1, c4.2⟩
 have hps := push_same hg hbm hle hr (.inr (by omega))
 have fm := zf7 hgl st at_
 have hj0 : ∀ {r : List S38 × Int × Bool} {t : Int}, Ev (fun k => zaw.f k (Ls g) st at_) t → Ev (fun k => zaq.j1 k st at_ (decide (t < 0)) false (Ls g) g[i].1 g[i].2.1 g[i].2.2) r → Ev (fun k => zaq.j0 k (i : Int) st at_ false (Ls g)) r := by
  intro r t ht h
  refine Ev.step (f := fun k => (zaw.f k (Ls g) st at_).bind fun t189 => (if t189 < 0 then (zaq.j1 k st at_ (decide (t189 < 0)) (decide (((Ls g).length : Int) ≥ 4096)) (Ls g) g[i].1 g[i].2.1 g[i].2.2) else (zaq.j1 k st at_ (decide (t189 < 0)) false (Ls g) g[i].1 g[i].2.1 g[i].2.2))) (fun k => ?_) (Ev.bind ht ?_)
  ·simp only [zaq.j0]
   rw [if_neg (by decide), if_pos (by omega), if_pos il, rdL hi]
   rfl
  ·refine Ev.congr (fun k => ?_) h
   rw [decide_eq_false (p := ((Ls g).length : Int) ≥ 4096) (by rw [zb3]; omega)]
   split <;> rfl
 by_cases hm : (at_, st) ∈ marks g
 ·obtain ⟨j, hj, ej, mj⟩ := zh3 hm
  rw [if_pos hm, ej] at fm
  have hf : GFind.zcb g st at_ = (j : Int) := by rw [GFind.zd7, if_pos hm, ej]
  have eb : idx (marks g) (mrk g[i]) = (i : Int) := idx_of hg.nodup (zc3 (List.getElem?_eq_getElem hi))
  have h2 := rpush_j2 hg hm hbm false g[i].2.2 hj ej mj
  refine hj0 fm ?_
  rw [eb] at h2
  have gj : g.getD (j : Int).toNat (0, 0, []) = g[j] := by rw [Int.toNat_natCast, List.getD_eq_getElem?_getD, List.getElem?_eq_getElem hj]; rfl
  rw [hf, gj]
  have go : ∀ {r : List S38 × Int × Bool}, Ev (fun k => zaq.j2 k st at_ false (Ls g) g[i].1 g[i].2.1 g[i].2.2) r → Ev (fun k => zaq.j1 k st at_ (decide ((j : Int) < 0)) false (Ls g) g[i].1 g[i].2.1 g[i].2.2) r := fun h => Ev.step (fun k => by
   simp only [zaq.j1]
   rw [if_neg (by decide), decide_eq_false (show ¬ ((j : Int) < 0) by omega), if_neg (by decide)]) h
  refine go ?_
  by_cases c6 : (i : Int) ∈ g[j].2.2
  ·rw [if_pos c6] at h2
   rw [if_pos ⟨by omega, c6⟩]
   exact h2
  ·rw [if_neg c6] at h2
   rw [if_neg (fun h => c6 h.2), if_neg (fun h => by omega)]
   have he : pushR g (mrk g[i]) (at_, st) = addE g (at_, st) (mrk g[i]) := by
    unfold pushR zdb
    rw [if_pos hm]
   have hff : GFind.zcb (zd4 g (mrk g[i]) (at_, st)) st at_ = (j : Int) := by
    rw [GFind.zd7, hps, he, zcn, if_pos hm, ej]
   rw [hff, hps, he]
   exact h2
 ·rw [if_neg hm] at fm
  have hf : GFind.zcb g st at_ = -1 := by rw [GFind.zd7, if_neg hm]
  refine hj0 fm ?_
  rw [hf, if_neg (fun h => by omega), if_neg (fun h => by omega)]
  have hw := hg.fit_withV hm (by omega) hr
  have hm' : (at_, st) ∈ marks (zcx g (at_, st)) := zg2.2 (.inl rfl)
  have hb' : mrk g[i] ∈ marks (zcx g (at_, st)) := zg2.2 (.inr hbm)
  obtain ⟨j, hj, ej, mj⟩ := zh3 hm'
  have h2 := rpush_j2 hw hm' hb' true g[i].2.2 hj ej mj
  have he : pushR g (mrk g[i]) (at_, st) = addE (zcx g (at_, st)) (at_, st) (mrk g[i]) := by
   unfold pushR zdb
   rw [if_neg hm]
  have hff : GFind.zcb (zd4 g (mrk g[i]) (at_, st)) st at_ = (j : Int) := by
   rw [GFind.zd7, hps, he, zcn, if_pos hm', ej]
  have hno : idx (marks (zcx g (at_, st))) (mrk g[i]) ∉ (zcx g (at_, st))[j].2.2 := by
   intro hin
   have ib := zdy hb'
   have hE : G16.Edge (zcx g (at_, st)) (at_, st) (mrk g[i]) := ⟨_, List.getElem_mem hj, mj, _, hin, ib.2.1, ib.1⟩
   have := (hg.zge (at_, st) _ _).1 hE
   exact hm (zel this).1
  rw [if_neg hno] at h2
  rw [hff, hps, he]
  refine Ev.step (f := fun k => (zal.f k (Ls g) st at_ []).bind fun t190 => zaq.j2 k st at_ true t190 g[i].1 g[i].2.1 g[i].2.2) (fun k => ?_) (Ev.bind (with_Ev hg st at_ []) h2)
  simp only [zaq.j1]
  rw [if_neg (by decide)]
  rfl
theorem rm_l2 {b : List Nd} (hb : FitG b) {j : Nat} (hj : j < b.length) {q : Nat} {r : List S38} (d : Nat) :
  ∀ (i : Nat) (out : List Nd), i + d = b[j].2.2.length → FitG out → (∀ m ∈ marks b, m ∈ marks out) → (hq : q < out.length) → mrk out[q] = mrk b[j] →
   Ev (fun k => zan.l1 k ((j + 1 : Nat) : Int) (Ls b) (Ls ((b[j].2.2.drop i).foldl (fun out k => addE out (mrk b[j]) ((marks b).getD k.toNat (0, 0))) out))) r →
   Ev (fun k => zan.l2 k (j : Int) (q : Int) (i : Int) (Ls b) (Ls out) b[j].1 b[j].2.1 b[j].2.2) r := by
 have hbl := hb.len
 have hlk := zfz hb hj
 induction d with
 | zero =>
  intro i out hi ho hm hq eq K
  rw [List.drop_of_length_le (by omega)] at K
  refine Ev.step (fun k => ?_) K
  simp only [zan.l2]
  rw [if_neg (by omega), w64 (x := (j : Int) + 1) (by omega) (by omega)]
  rfl
 | succ d ih =>
  intro i out hi ho hm hq eq K
  have hol := ho.len
  have hil : i < b[j].2.2.length := by omega
  have e := rdI b[j].2.2 i hil
  obtain ⟨kk, hkk⟩ : ∃ kk, kk = b[j].2.2[i] := ⟨_, rfl⟩
  obtain ⟨k0, k1⟩ := (hb.ok _ (List.getElem_mem hj)).inn _ (List.getElem_mem hil)
  rw [← hkk] at k0 k1 e
  have kl : kk.toNat < b.length := by omega
  have ek : zaa (Ls b) kk = ndS b[kk.toNat] := by
   have := rdL kl
   rwa [show ((kk.toNat : Nat) : Int) = kk by omega] at this
  have hgd : (marks b).getD kk.toNat (0, 0) = mrk b[kk.toNat] := by rw [List.getD_eq_getElem?_getD, zc3 (List.getElem?_eq_getElem kl)]; rfl
  have hxm : mrk b[j] ∈ marks b := List.mem_map.2 ⟨_, List.getElem_mem hj, rfl⟩
  have hym : mrk b[kk.toNat] ∈ marks b := List.mem_map.2 ⟨_, List.getElem_mem kl, rfl⟩
  have hle : (mrk b[kk.toNat]).1 ≤ (mrk b[j]).1 := hb.back _ _ ⟨_, List.getElem_mem hj, rfl, kk, by rw [hkk]; exact List.getElem_mem hil, k0, zc3 (List.getElem?_eq_getElem kl)⟩
  have hfit := ho.zgg (hm _ hxm) (hm _ hym) hle
  have f := zf7 hol b[kk.toNat].1 b[kk.toNat].2.1
  rw [if_pos (show (b[kk.toNat].2.1, b[kk.toNat].1) ∈ marks out from hm _ hym)] at f
  have hp := put_Ev out[q].2.2 (by have := zfz ho hq; omega) (idx (marks out) (mrk b[kk.toNat]))
  have hset := addE_set ho.nodup (b := mrk b[kk.toNat]) hq eq
  rw [List.drop_eq_getElem_cons hil, List.foldl_cons, ← hkk, hgd] at K
  have hq2 : q < (addE out (mrk b[j]) (mrk b[kk.toNat])).length := by rw [zhx]; exact hq
  have eq2 : mrk (addE out (mrk b[j]) (mrk b[kk.toNat]))[q] = mrk b[j] := by
   have h1 := zc3 (List.getElem?_eq_getElem hq2)
   rw [zcn, zc3 (List.getElem?_eq_getElem hq), eq] at h1
   exact (Option.some.inj h1).symm
  have nx := ih (i + 1) _ (by omega) hfit (fun m h => by rw [zcn]; exact hm m h) hq2 eq2 K
  rw [hset, ← set_Ls] at nx
  have ql : (q : Int) < ((Ls out).length : Int) := by rw [zb3]; omega
  refine Ev.step (f := fun k => (zaw.f k (Ls out) b[kk.toNat].1 b[kk.toNat].2.1).bind fun t233 => (zbg.f k out[q].2.2 t233).bind fun t234 => zan.l2 k (j : Int) (q : Int) ((i + 1 : Nat) : Int) (Ls b) ((Ls out).set q ⟨out[q].1, out[q].2.1, t234⟩) b[j].1 b[j].2.1 b[j].2.2) (fun k => ?_) (Ev.bind f (Ev.bind hp nx))
  simp only [zan.l2]
  rw [if_pos (by omega), if_pos (by omega), e, if_pos k0, if_pos (by rw [zb3]; omega), if_pos (by omega), if_pos ql, ek, rdL hq, Int.toNat_natCast, w64 (x := (i : Int) + 1) (by omega) (by omega)]
  rfl
theorem fold_ok {b : List Nd} (hb : FitG b) {j : Nat} (hj : j < b.length) : ∀ (ls : List Int) (out : List Nd), (∀ k ∈ ls, k ∈ b[j].2.2) → FitG out → (∀ m ∈ marks b, m ∈ marks out) → FitG (ls.foldl (fun out k => addE out (mrk b[j]) ((marks b).getD k.toNat (0, 0))) out) ∧ marks (ls.foldl (fun out k => addE out (mrk b[j]) ((marks b).getD k.toNat (0, 0))) out) = marks out
 | [], out, _, ho, _ => ⟨ho, rfl⟩
 | k :: ls, out, hk, ho, hm => by
  obtain ⟨k0, k1⟩ := (hb.ok _ (List.getElem_mem hj)).inn k (hk k List.mem_cons_self)
  have kl : k.toNat < b.length := by omega
  have hgd : (marks b).getD k.toNat (0, 0) = mrk b[k.toNat] := by rw [List.getD_eq_getElem?_getD, zc3 (List.getElem?_eq_getElem kl)]; rfl
  have hxm : mrk b[j] ∈ marks b := List.mem_map.2 ⟨_, List.getElem_mem hj, rfl⟩
  have hym : mrk b[k.toNat] ∈ marks b := List.mem_map.2 ⟨_, List.getElem_mem kl, rfl⟩
  have hle : (mrk b[k.toNat]).1 ≤ (mrk b[j]).1 := hb.back _ _ ⟨_, List.getElem_mem hj, rfl, k, hk k List.mem_cons_self, k0, zc3 (List.getElem?_eq_getElem kl)⟩
  rw [List.foldl_cons, hgd]
  obtain ⟨h1, h2⟩ := fold_ok hb hj ls (addE out (mrk b[j]) (mrk b[k.toNat])) (fun k' h => hk k' (List.mem_cons_of_mem _ h)) (ho.zgg (hm _ hxm) (hm _ hym) hle) (fun m h => by rw [zcn]; exact hm m h)
  exact ⟨h1, h2.trans (zcn _ _ _)⟩
theorem rm_l1 {b : List Nd} (hb : FitG b) (d : Nat) : ∀ (j : Nat) (out : List Nd), j + d = b.length → FitG out → (∀ m ∈ marks b, m ∈ marks out) →
  Ev (fun k => zan.l1 k (j : Int) (Ls b) (Ls out)) (Ls ((b.drop j).foldl (fun out x => x.2.2.foldl (fun out k => addE out (mrk x) ((marks b).getD k.toNat (0, 0))) out) out)) := by
 have hbl := hb.len
 induction d with
 | zero =>
  intro j out hj ho hm
  rw [List.drop_of_length_le (by omega)]
  refine evAt fun k => ?_
  simp only [zan.l1]
  rw [if_neg (by rw [zb3]; omega)]
  rfl
 | succ d ih =>
  intro j out hj ho hm
  have hjl : j < b.length := by omega
  have hxm : mrk b[j] ∈ marks b := List.mem_map.2 ⟨_, List.getElem_mem hjl, rfl⟩
  obtain ⟨q, hq, eq, mq⟩ := zh3 (hm _ hxm)
  have f := zf7 ho.len b[j].1 b[j].2.1
  rw [if_pos (show (b[j].2.1, b[j].1) ∈ marks out from hm _ hxm), show ((b[j].2.1, b[j].1) : Mk) = mrk b[j] from rfl, eq] at f
  obtain ⟨h1, h2⟩ := fold_ok hb hjl b[j].2.2 out (fun _ h => h) ho hm
  have nx := ih (j + 1) _ (by omega) h1 (fun m h => by rw [h2]; exact hm m h)
  rw [List.drop_eq_getElem_cons hjl, List.foldl_cons]
  refine Ev.step (f := fun k => (zaw.f k (Ls out) b[j].1 b[j].2.1).bind fun t228 => zan.l2 k (j : Int) t228 0 (Ls b) (Ls out) b[j].1 b[j].2.1 b[j].2.2) (fun k => ?_) (Ev.bind f (rm_l2 hb hjl b[j].2.2.length 0 out (Nat.zero_add _) ho hm hq mq (by rw [List.drop_zero]; exact nx)))
  simp only [zan.l1]
  rw [if_pos (by rw [zb3]; omega), if_pos (by omega), rdL hjl]
  rfl
theorem rm_l0 {a b : List Nd} (hb : FitG b) (d : Nat) : ∀ (j : Nat) (out : List Nd), j + d = b.length → FitG out → out.length + d ≤ 4096 → (∀ m ∈ marks b, m ∈ marks (zem out (b.drop j))) →
  Ev (fun k => zan.l0 k (j : Int) (Ls a) (Ls b) (Ls out)) (Ls (linksR (marks b) (zem out (b.drop j)) b)) := by
 have hbl := hb.len
 induction d with
 | zero =>
  intro j out hj ho hl hm
  rw [List.drop_of_length_le (by omega)] at hm ⊢
  have := rm_l1 hb b.length 0 out (Nat.zero_add _) ho hm
  rw [List.drop_zero] at this
  refine Ev.step (fun k => ?_) this
  simp only [zan.l0]
  rw [if_neg (by rw [zb3]; omega), if_pos (by rw [zb3]; simp only [List.length_nil]; omega), List.nil_append]
  rfl
 | succ d ih =>
  intro j out hj ho hl hm
  have hjl : j < b.length := by omega
  have hxm : mrk b[j] ∈ marks b := List.mem_map.2 ⟨_, List.getElem_mem hjl, rfl⟩
  have f := zf7 ho.len b[j].1 b[j].2.1
  have hr := zer hb hxm
  have hn := zgm ho hr (.inr (by omega))
  have hen : zem out (b.drop j) = zem (zdb out (mrk b[j])) (b.drop (j + 1)) := by
   rw [List.drop_eq_getElem_cons hjl]
   rfl
  have hnl : (zdb out (mrk b[j])).length ≤ out.length + 1 := by
   unfold zdb
   split
   ·omega
   ·rw [zfx]; omega
  rw [hen] at hm ⊢
  have nx := ih (j + 1) (zdb out (mrk b[j])) (by omega) hn.fit (by omega) hm
  refine Ev.step (f := fun k => (zaw.f k (Ls out) b[j].1 b[j].2.1).bind fun t219 => (if t219 < 0 then (if ((Ls out).length : Int) ≥ 4096 then (some (Ls a)) else ((zal.f k (Ls out) b[j].1 b[j].2.1 b[j].2.2).bind fun t220 => (zan.l0 k ((j + 1 : Nat) : Int) (Ls a) (Ls b) t220))) else (zan.l0 k ((j + 1 : Nat) : Int) (Ls a) (Ls b) (Ls out)))) (fun k => ?_) (Ev.bind f ?_)
  ·simp only [zan.l0]
   rw [if_pos (by rw [zb3]; omega), if_pos (by omega), rdL hjl, w64 (x := (j : Int) + 1) (by omega) (by omega)]
   rfl
  ·by_cases c : mrk b[j] ∈ marks out
   ·have c' : (b[j].2.1, b[j].1) ∈ marks out := c
    have i0 := (zdy c').2.1
    have en : zdb out (mrk b[j]) = out := by unfold zdb; rw [if_pos c]
    rw [en] at nx
    rw [if_pos c', en]
    exact Ev.congr (fun k => if_neg (by omega)) nx
   ·have c' : (b[j].2.1, b[j].1) ∉ marks out := c
    have en : zdb out (mrk b[j]) = zcx out (mrk b[j]) := by unfold zdb; rw [if_neg c]
    rw [en] at nx
    rw [if_neg c', en]
    refine Ev.congr (fun k => by rw [if_pos (by decide), if_neg (by rw [zb3]; omega)]) ?_
    exact Ev.bind (with_Ev ho b[j].1 b[j].2.1 b[j].2.2) nx
theorem rmerge_Ev {a b : List Nd} (ha : FitG a) (hb : FitG b) (hl : a.length + b.length ≤ 4096) : Ev (fun k => zan.f k (Ls a) (Ls b)) (Ls (zdo a b)) := by
 have hs := (zhr (b := b) (fun x hx => zer hb (List.mem_map.2 ⟨x, hx, rfl⟩)) ha hl).1
 have := rm_l0 (a := a) hb b.length 0 a (Nat.zero_add _) ha hl (fun m hm => by rw [List.drop_zero]; exact (hs.mem m).2 (.inr hm))
 rw [List.drop_zero] at this
 rw [merge_same ha hb hl]
 exact this
theorem merge_eq {g h : List Nd} (hg : FitG g) (hh : FitG h) (lg : g.length ≤ 1000) (lh : h.length ≤ 1000) : zcs.f (Ls g) (Ls h) = some (Ls (zdo g h)) := by
 unfold zcs.f
 rw [T_Ls, T_Ls, if_pos ⟨GGiv.zhz hg, GGiv.zhz hh, by simp; omega, by have := cnt_fit hg lg; have := cnt_fit hh lh; omega⟩]
theorem awake_Ev (x y z : Int) (a b : List S38) : Ev (fun k => zao.j0 k x y z true a b) true := evAt fun k => by
 simp only [zao.j0]
 rw [if_pos trivial]
 rfl
theorem gpush_fit {g : List Nd} (hg : FitG g) (hl : g.length ≤ 120) (f s a : Int) : FitG (GPush.zbq g f s a).1 := by
 unfold GPush.zbq
 split
 case isFalse => exact hg
 rename_i hf
 dsimp only
 split
 case isFalse => exact hg
 rename_i hc
 split
 case isTrue => exact hg
 split
 case isTrue => exact hg
 have hlt : f.toNat < g.length := by omega
 have e : g.getD f.toNat (0, 0, []) = g[f.toNat] := by rw [List.getD_eq_getElem?_getD, List.getElem?_eq_getElem hlt]; rfl
 rw [e] at hc ⊢
 exact (zii hg (b := mrk g[f.toNat]) (m := (a, s)) (List.mem_map.2 ⟨_, List.getElem_mem hlt, rfl⟩) hc.1 ⟨hc.2.2.1, hc.2.2.2, hc.2.1.1, hc.2.1.2⟩ (.inr (by omega))).fit
theorem pushes_Ev {a b : List Nd} (ha : FitG a) (hb : FitG b) (la : a.length ≤ 120) (lb : b.length ≤ 120) (x y z : Int) : Ev (fun k => zao.j0 k x y z false (Ls a) (Ls b)) true := by
 have hp := rpush_Ev ha la x y z
 have hm := rmerge_Ev ha hb (by omega)
 have fp := gpush_fit ha la x y z
 have fm := (zhq ha hb (by omega)).fit
 refine Ev.step (f := fun k => (zaq.f k (Ls a) x y z).bind fun bt251 => (zay.f k (Ls (GPush.zbq a x y z).1) bt251.1).bind fun t257 => (if t257 = true then (if (GPush.zbq a x y z).2.1 = bt251.2.1 then (if ((GPush.zbq a x y z).2.2 == bt251.2.2) = true then ((zan.f k (Ls a) (Ls b)).bind fun t261 => ((zay.f k (Ls (zdo a b)) t261).bind fun t264 => (if t264 = true then ((zbk.f).bind fun t265 => (some t265)) else (some false)))) else (some false)) else (some false)) else (some false))) (fun k => ?_) (Ev.bind hp ?_)
 ·simp only [zao.j0]
  rw [if_neg (by decide), push_eq ha (by omega), Option.bind_some, merge_eq ha hb (by omega) (by omega)]
  rfl
 ·refine evT (α := Bool) (same_Ls fp) (fun _ => ?_) (fun h => nomatch h)
  refine Ev.congr (fun k => by rw [if_pos rfl, if_pos (beq_self_eq_true _)]) ?_
  refine Ev.bind hm ?_
  exact evT (α := Bool) (same_Ls fm) (fun _ => Ev.now true) (fun h => nomatch h)
theorem GssPushes : zao.Pure := by
 intro s0 s1 a2 a3 a4 o0 o1 _ _ _
 obtain ⟨b0, e0, g0⟩ := few_Ev s0.f0 (ok_len o0) (zgo o0)
 obtain ⟨b1, e1, g1⟩ := few_Ev s1.f0 (ok_len o1) (zgo o1)
 have z := awake_Ev a2 a3 a4 s0.f0 s1.f0
 refine Ev.rounds (evT (α := Bool) e0 (fun h0 => ?_) fun _ => z)
 refine evT (α := Bool) e1 (fun h1 => ?_) fun _ => z
 have l0 := (g0 h0).2
 have l1 := (g1 h1).2
 obtain ⟨c0, f0, k0⟩ := fit_Ev s0.f0 (by omega) (zgo o0)
 obtain ⟨c1, f1, k1⟩ := fit_Ev s1.f0 (by omega) (zgo o1)
 refine evT (α := Bool) f0 (fun j0 => ?_) fun _ => z
 refine Ev.bind f1 ?_
 cases hc : c1 with
 | false => exact z
 | true =>
  have := pushes_Ev (k0.1 j0) (k1.1 hc) (by rw [List.length_map]; exact l0) (by rw [List.length_map]; exact l1) a2 a3 a4
  rw [Ls_T, Ls_T] at this
  exact this
end Go.Proofs.ZZ.Pure
end
section
namespace Go.Proofs.ZZ.Opening
open Go.RowKit Go.Proofs.ZW.PrintWords
section
variable {H : Type} {enc : TypeId × Value → H} {P : Program} {W : World}
def Op {α : Type} (enc : TypeId × Value → H) (P : Program) (W : World) (n : Nat) (t : TypeId) (d : Kd α) (B : α → Prop) : Prop :=
 ∀ fuel, fuel ≤ n → ∀ cs y, DataW.trod enc P W 0 (fun _ => true) true fuel t cs = some y → (DataW.weights P t y.1).all (· ≤ reachBytes) = true → ∃ x, d.K W x cs ∧ B x
theorem Op.mono {α : Type} {n m : Nat} {t : TypeId} {d : Kd α} {B : α → Prop} (h : Op enc P W n t d B) (hm : m ≤ n) : Op enc P W m t d B :=
 fun fuel hf => h fuel (Nat.le_trans hf hm)
theorem op_int {n : Nat} {t : TypeId} {k : IntKind} (hu : P.underlying t = some (.int k)) : Op enc P W n t (Kd.int k) (fun x => (Lit.int k x).wf = true) := by
 intro fuel _ cs y hy _
 obtain ⟨m, rfl, _, hw⟩ := DataW.trod_int hu hy
 exact ⟨m, rfl, hw⟩
theorem zhw {e : TypeId} : ∀ {ds : List (DataW H)}, (DataW.weightsAll P e ds).all (· ≤ reachBytes) = true → ∀ d ∈ ds, (DataW.weights P e d).all (· ≤ reachBytes) = true
 | [], _, d, hd => by cases hd
 | x :: r, h, d, hd => by
  rw [DataW.weightsAll, List.all_append, Bool.and_eq_true] at h
  rcases List.mem_cons.1 hd with rfl | hd
  ·exact h.1
  ·exact zhw h.2 d hd
theorem zhl {α : Type} {Q : Nat → α → Prop} : ∀ n : Nat, (∀ i, i < n → ∃ x, Q i x) → ∃ xs : List α, xs.length = n ∧ ∀ i x, xs[i]? = some x → Q i x
 | 0, _ => ⟨[], rfl, by simp⟩
 | n + 1, h => by
  obtain ⟨xs, hl, hq⟩ := zhl n (fun i hi => h i (by omega))
  obtain ⟨x, hx⟩ := h n (by omega)
  refine ⟨xs ++ [x], by simp [hl], fun i y hy => ?_⟩
  by_cases hi : i < n
  ·rw [List.getElem?_append_left (by omega)] at hy
   exact hq i y hy
  ·rw [List.getElem?_append_right (by omega)] at hy
   have : i - xs.length = 0 := by
    by_cases h0 : i - xs.length = 0
    ·exact h0
    ·rw [List.getElem?_eq_none (by simp; omega)] at hy
     cases hy
   rw [this] at hy
   obtain rfl : x = y := by simpa using hy
   obtain rfl : i = n := by omega
   exact hx
theorem op_slice {α : Type} {n : Nat} {t e e' b : TypeId} {d : Kd α} {B : α → Prop} (hu : P.underlying t = some (.slice e)) (hc : P.cellsOf e = d.sz) (hb : P.bytesOf e = b) (h : Op enc P W n e d B) :
  Op enc P W (n + 1) t (Kd.slice e' d) (fun xs => xs.length * b ≤ 140737488351232 ∧ ∀ x ∈ xs, B x) := by
 intro fuel hf cs y hy hw
 rcases DataW.trod_slice hu hy with ⟨rfl, rfl⟩ | ⟨a, len, cap, elems, rest, m, rfl, rfl, rfl, _, hlc, hcap, hel, hget, _, _⟩
 ·exact ⟨[], ⟨none, 0, rfl, Nat.le_refl _, rfl, by simp, fun h0 => absurd h0 (by simp)⟩, by simp⟩
 ·rw [DataW.weights, hu] at hw
  simp only [List.all_cons, List.all_append, Bool.and_eq_true, decide_eq_true_eq, List.length_map] at hw
  obtain ⟨hw0, hw1, _⟩ := hw
  have hall := zhw hw1
  have key : ∀ i, i < len → ∃ x : α, (∃ c, c.length = d.sz ∧ d.K W x c ∧ ∀ j u, c[j]? = some u → W.cell? (a.add (i * d.sz + j)) = some u) ∧ B x := by
   intro i hi
   have hg := hget i hi
   rw [List.getElem?_eq_getElem (by omega)] at hg
   obtain ⟨c, hc1, hc2⟩ := Option.bind_eq_some_iff.1 hg
   obtain ⟨_, hl, hcell⟩ := World.cells?_some hc1
   obtain ⟨x, hx, hB⟩ := h m (by omega) c _ hc2 (hall _ (List.mem_map.2 ⟨_, List.getElem_mem _, rfl⟩))
   refine ⟨x, ⟨c, by rw [hl, hc], hx, fun j u hu' => ?_⟩, hB⟩
   have hj : j < P.cellsOf e := by
    have := (List.getElem?_eq_some_iff.1 hu').1
    omega
   have := hcell j hj
   rw [Addr.add_add, hc] at this
   rw [this, hu']
  obtain ⟨xs, hl, hxs⟩ := zhl len key
  refine ⟨xs, ⟨some a, cap, by rw [hl], by omega, rfl, ?_, fun _ => ⟨a, rfl, fun j p hj => (hxs j p hj).1⟩⟩, ?_, ?_⟩
  ·have : maxLen = 9223372036854775807 := rfl
   omega
  ·rw [hb] at hw0
   have e1 : reachBytes = 140737488351232 := rfl
   have : xs.length * b ≤ (elems.length + rest.length) * b := Nat.mul_le_mul_right _ (by omega)
   omega
  ·intro x hx
   obtain ⟨i, hi, rfl⟩ := List.mem_iff_getElem.1 hx
   exact (hxs i _ (List.getElem?_eq_getElem hi)).2
def OpFs {α : Type} (enc : TypeId × Value → H) (P : Program) (W : World) (n : Nat) (fs : List Field) (off : Nat) (d : Kd α) (B : α → Prop) : Prop :=
 ∀ fuel, fuel ≤ n → ∀ (cs : List Value) (ys : List (DataW H × List MemPlace)), ys.length = fs.length → (∀ (i : Nat) (f : Field), fs[i]? = some f → DataW.trod enc P W 0 (fun _ => true) true fuel f.type ((cs.drop f.offset).take (P.cellsOf f.type)) = ys[i]?) →
  cs.length = off + d.sz → (DataW.weightsEach P (fs.map (·.type)) (ys.map (·.1))).all (· ≤ reachBytes) = true → ∃ x, d.K W x (cs.drop off) ∧ B x
theorem opf_last {α : Type} {n off : Nat} {f : Field} {d : Kd α} {B : α → Prop} (ho : f.offset = off) (hc : P.cellsOf f.type = d.sz) (h : Op enc P W n f.type d B) : OpFs enc P W n [f] off d B := by
 intro fuel hf cs ys hl hget hlen hw
 match ys, hl with
 | [y], _ =>
  have hg := hget 0 f rfl
  simp only [List.map_cons, List.map_nil, DataW.weightsEach, List.append_nil] at hw
  rw [ho, hc, List.take_of_length_le (by rw [List.length_drop]; omega)] at hg
  exact h fuel hf _ y hg hw
theorem opf_cons {α β : Type} {n off : Nat} {f : Field} {fs : List Field} {a : Kd α} {b : Kd β} {Ba : α → Prop} {Bb : β → Prop} (ho : f.offset = off) (hc : P.cellsOf f.type = a.sz) (h : Op enc P W n f.type a Ba) (hr : OpFs enc P W n fs (off + a.sz) b Bb) :
  OpFs enc P W n (f :: fs) off (Kd.pair a b) (fun x => Ba x.1 ∧ Bb x.2) := by
 intro fuel hf cs ys hl hget hlen hw
 have hlen' : cs.length = off + (a.sz + b.sz) := hlen
 match ys, hl with
 | y :: ys, hl =>
  have hg := hget 0 f rfl
  simp only [List.map_cons, DataW.weightsEach, List.all_append, Bool.and_eq_true] at hw
  rw [ho, hc] at hg
  obtain ⟨x, hx, hB⟩ := h fuel hf _ y hg hw.1
  obtain ⟨z, hz, hB'⟩ := hr fuel hf cs ys (by simpa using hl) (fun i g hi => hget (i + 1) g hi) (by omega) hw.2
  refine ⟨(x, z), ⟨_, _, ?_, hx, hz⟩, hB, hB'⟩
  have e : cs.drop (off + a.sz) = (cs.drop off).drop a.sz := by simp [List.drop_drop, Nat.add_comm]
  rw [e, List.take_append_drop]
theorem op_struct {α β : Type} {n : Nat} {t : TypeId} {fs : Array Field} {d : Kd α} {B : α → Prop} {f : β → α} (g : α → β) (hfg : ∀ x, f (g x) = x) (hu : P.underlying t = some (.struct fs)) (hc : P.cellsOf t = d.sz) (h : OpFs enc P W n fs.toList 0 d B) :
  Op enc P W (n + 1) t (Kd.iso d f) (fun s => B (f s)) := by
 intro fuel hf cs y hy hw
 obtain ⟨xs, m, rfl, rfl, hl, hlen, hget⟩ := DataW.trod_struct hu hy
 rw [DataW.weights, hu] at hw
 obtain ⟨x, hx, hB⟩ := h m (by omega) cs xs (by simpa using hlen) (fun i f hi => hget i f (by simpa using hi)) (by omega) hw
 refine ⟨g x, ?_, by show B (f (g x)); rw [hfg]; exact hB⟩
 show d.K W (f (g x)) cs
 rw [hfg]
 exact hx
theorem ops_slice {α : Type} {t e e' b : TypeId} {d : Kd α} {B : α → Prop} (hu : P.underlying t = some (.slice e)) (hc : P.cellsOf e = d.sz) (hb : P.bytesOf e = b) (h : ∀ n, Op enc P W n e d B) :
  ∀ n, Op enc P W n t (Kd.slice e' d) (fun xs => xs.length * b ≤ 140737488351232 ∧ ∀ x ∈ xs, B x) := fun n => (op_slice hu hc hb (h n)).mono (Nat.le_succ n)
theorem zih {α β : Type} {t : TypeId} {fs : Array Field} {d : Kd α} {B : α → Prop} {f : β → α} (g : α → β) (hfg : ∀ x, f (g x) = x) (hu : P.underlying t = some (.struct fs)) (hc : P.cellsOf t = d.sz) (h : ∀ n, OpFs enc P W n fs.toList 0 d B) :
  ∀ n, Op enc P W n t (Kd.iso d f) (fun s => B (f s)) := fun n => (op_struct g hfg hu hc (h n)).mono (Nat.le_succ n)
theorem opsf_last {α : Type} {off : Nat} {f : Field} {d : Kd α} {B : α → Prop} (ho : f.offset = off) (hc : P.cellsOf f.type = d.sz) (h : ∀ n, Op enc P W n f.type d B) : ∀ n, OpFs enc P W n [f] off d B := fun n => opf_last ho hc (h n)
theorem opsf_cons {α β : Type} {off : Nat} {f : Field} {fs : List Field} {a : Kd α} {b : Kd β} {Ba : α → Prop} {Bb : β → Prop} (ho : f.offset = off) (hc : P.cellsOf f.type = a.sz) (h : ∀ n, Op enc P W n f.type a Ba) (hr : ∀ n, OpFs enc P W n fs (off + a.sz) b Bb) :
  ∀ n, OpFs enc P W n (f :: fs) off (Kd.pair a b) (fun x => Ba x.1 ∧ Bb x.2) := fun n => opf_cons ho hc (h n) (hr n)
theorem op_arg {α : Type} {t : TypeId} {d : Kd α} {B : α → Prop} (h : ∀ n, Op enc P W n t d B) {v : Value} {y : DataW H} {ps : List MemPlace} (ht : DataW.Trod enc P W 0 (fun _ => true) true t v y ps) {ts : List TypeId} {ds : List (DataW H)} {j : Nat}
  (hsz : (DataW.weightsEach P ts ds).all (· ≤ reachBytes) = true) (hj : ts[j]? = some t) (hd : ds[j]? = some y) : ∃ x, d.K W x v.cells.toList ∧ B x := by
 obtain ⟨fuel, hf⟩ := ht
 refine h fuel fuel (Nat.le_refl _) _ _ hf ?_
 rw [List.all_eq_true] at hsz ⊢
 intro n hn
 exact hsz n (DataW.weights_mem_each hj hd n hn)
end
end Go.Proofs.ZZ.Opening
end
section
namespace Go.Proofs.Ytkfjhkkbbcpjjaa.gssPushes
open Go.ChangeShapes Go.WideShapes Go.ChangeAt Go.RowKit Go.Proofs.ZW.PrintWords Go.Proofs.ZZ.Opening Go.Proofs.ZZ.PGssPushes
open Go.ChangeMaps (open_string shut_string)
theorem own : ownKnob Try.prog.godebug = none := by kernel_rfl
theorem laidOut : laidOutB Try.prog = true := by kernel_rfl
theorem lifted (os : Os) (started : os.Started) (H : Type) (enc : TypeId × Value → H) :
  ReturnsInHanded {} Try.checked os 4 .any (Rows.gssPushesSpec.pre6 enc Try.prog Try.f4 Rows.gssPushesRow.domain false) (Rows.gssPushesSpec.post enc Try.prog Try.f4 false true false false) := by
 refine returnsInHanded_of_change_sized (C := Try.checked) own started (by kernel_rfl) Try.func4
  (ChangeSpec.witness6 (enc := enc) (C := Try.checked) false ⟨#[], #[.agg #[.slice none 0 0], .agg #[.slice none 0 0], .int .i64 0, .int .i64 0, .int .i64 0], []⟩ 8 (by kernel_rfl) (by kernel_rfl) (by kernel_rfl) (by kernel_rfl)) ?_
 intro W base args ds gs before hval0 hW hcnd hsz0 _
 have hsz : (DataW.weightsEach Try.prog (Try.f4.params.toList ++ Rows.gssPushesSpec.plain.varTypes Try.prog) (ds ++ gs)).all (· ≤ reachBytes) = true := hsz0
 have hval : ∀ (j : Nat) t v, Try.f4.params[j]? = some t → args[j]? = some v → Value.okWide Try.prog W .any base t v := hval0
 have hW' := hW
 obtain ⟨p, q, hA0, hV, rfl, hfz, hnd⟩ := hW
 have hA : DataW.TrodAll enc Try.prog W 0 (fun _ => true) true Try.f4.params.toList args.toList ds p := hA0
 rw [Try.params4] at hA hval hsz
 obtain ⟨v0, vs0, d0, ds0, p0, q0, hargs, rfl, rfl, h0, r0⟩ := trodAll_cons hA
 obtain ⟨v1, vs1, d1, ds1, p1, q1, rfl, rfl, rfl, h1, r1⟩ := trodAll_cons r0
 obtain ⟨v2, vs2, d2, ds2, p2, q2, rfl, rfl, rfl, h2, r2⟩ := trodAll_cons r1
 obtain ⟨v3, vs3, d3, ds3, p3, q3, rfl, rfl, rfl, h3, r3⟩ := trodAll_cons r2
 obtain ⟨v4, vs4, d4, ds4, p4, q4, rfl, rfl, rfl, h4, r4⟩ := trodAll_cons r3
 obtain ⟨rfl, rfl, rfl⟩ := trodAll_nil r4
 obtain rfl : args = #[v0, v1, v2, v3, v4] := by cases args; simp_all
 obtain ⟨rfl, rfl⟩ := trodVars_none hV
 have k0 := h0
 have lt0 : ∀ x ∈ p0, x.block < W.heap.size := by obtain ⟨m, hm⟩ := k0; exact DataW.trod_lt m _ _ _ hm
 have oq38 := (zih (enc := enc) (W := W) (f := fun x : S38 => (x.f0, x.f1, x.f2)) (fun x => ⟨x.1, x.2.1, x.2.2⟩) (fun _ => rfl) Try.underlying38 (by kernel_rfl) (opsf_cons rfl (by kernel_rfl) (fun _ => op_int Try.underlying3) (opsf_cons rfl (by kernel_rfl) (fun _ => op_int Try.underlying3) (opsf_last rfl (by kernel_rfl) (ops_slice (b := 8) (e' := 3) Try.underlying31 (by kernel_rfl) (by kernel_rfl) (fun _ => op_int Try.underlying3))))))
 have oq24 := (zih (enc := enc) (W := W) (f := fun x : S24 => x.f0) (fun x => ⟨x⟩) (fun _ => rfl) Try.underlying24 (by kernel_rfl) (opsf_last rfl (by kernel_rfl) (ops_slice (b := 40) (e' := 38) Try.underlying22 (by kernel_rfl) (by kernel_rfl) oq38)))
 have o0 := op_arg (j := 0) oq24 h0 hsz rfl rfl
 obtain ⟨cs0, rfl, _⟩ := okWide_struct Try.underlying24 (hval 0 24 v0 rfl rfl)
 obtain ⟨s0, hK0, w0⟩ := o0
 obtain ⟨A0_0, c0_0, e0, hc0_0, hr0_0⟩ := hK0
 obtain rfl : cs0 = #[.slice A0_0 s0.f0.length c0_0] := by
  apply Array.toList_inj.1
  simpa [Value.cells] using e0
 have k1 := h1
 have lt1 : ∀ x ∈ p1, x.block < W.heap.size := by obtain ⟨m, hm⟩ := k1; exact DataW.trod_lt m _ _ _ hm
 have o1 := op_arg (j := 1) oq24 h1 hsz rfl rfl
 obtain ⟨cs1, rfl, _⟩ := okWide_struct Try.underlying24 (hval 1 24 v1 rfl rfl)
 obtain ⟨s1, hK1, w1⟩ := o1
 obtain ⟨A1_0, c1_0, e1, hc1_0, hr1_0⟩ := hK1
 obtain rfl : cs1 = #[.slice A1_0 s1.f0.length c1_0] := by
  apply Array.toList_inj.1
  simpa [Value.cells] using e1
 obtain ⟨a2, rfl, rfl, rfl, w2⟩ := open_int Try.underlying3 (hval 2 3 v2 rfl rfl) h2
 obtain ⟨a3, rfl, rfl, rfl, w3⟩ := open_int Try.underlying3 (hval 3 3 v3 rfl rfl) h3
 obtain ⟨a4, rfl, rfl, rfl, w4⟩ := open_int Try.underlying3 (hval 4 3 v4 rfl rfl) h4
 clear hA0 hval0 hsz0 hsz
 obtain ⟨k, hk⟩ := Go.Proofs.ZZ.Pure.GssPushes s0 s1 a2 a3 a4 w0 w1 w2 w3 w4
 refine (zao.calls k _ _ s0.f0 _ _ s1.f0 a2 a3 a4 true W hr0_0 hc0_0 hr1_0 hc1_0 hk).mono ?_
 rintro e W' ⟨rfl, bel0⟩
 have bel : Below W.heap.size W W' := bel0
 exact ⟨_, rfl, _, _, _, [], _, [], hW', trodAll_mk1 (shut_bool Try.underlying4 _), (trodAll_cons_mk (Below.trod laidOut (by kernel_rfl) (of_decide_eq_true (by kernel_rfl)) k0 bel lt0) (trodAll_cons_mk (Below.trod laidOut (by kernel_rfl) (of_decide_eq_true (by kernel_rfl)) k1 bel lt1) (trodAll_cons_mk (shut_int Try.underlying3 w2) (trodAll_cons_mk (shut_int Try.underlying3 w3) (trodAll_cons_mk (shut_int Try.underlying3 w4) trodAll_mk0))))), rfl, bel.frame _, fun h => by cases h⟩
theorem over : Rows.gssPushesRow.holds Try.pinned (OpenSpec.ofChange Rows.gssPushesSpec) :=
 OpenClaim.holds_of_wide 4 Try.f4 rfl rfl rfl rfl rfl rfl rfl ⟨rfl, rfl, rfl, rfl, rfl⟩ rfl rfl rfl rfl rfl (by kernel_rfl) Try.func4 (by kernel_rfl)
  (of_decide_eq_true (by kernel_rfl)) (by unfold Func.isWrapper; first | (rw [if_pos (by decide +kernel)]; kernel_rfl) | (rw [if_neg (by decide +kernel)]; exact ⟨rfl, rfl⟩))
  (fun os started H enc _ => lifted os started H enc)
theorem proved : Rows.GssPushesSaid := over
end Go.Proofs.Ytkfjhkkbbcpjjaa.gssPushes
namespace Go.Proofs.Ytkfjhkkbbcpjjaa
theorem gssPushes_holds : Rows.GssPushesSaid := gssPushes.proved
end Go.Proofs.Ytkfjhkkbbcpjjaa
end
