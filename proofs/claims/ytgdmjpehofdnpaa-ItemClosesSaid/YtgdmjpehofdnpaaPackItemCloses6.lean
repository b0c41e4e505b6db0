import Derived.ChangeArms
import Derived.DataReads
import Derived.DataElems
import Derived.SizedLaws
import Derived.Carry
import Derived.WideShapes
import Derived.Test.YtgdmjpehofdnpaaRows
import Derived.WalkKit
import Derived.ProofKit
import Derived.OpenShut
import Derived.ShutString
import Derived.ChangeOld
import Derived.Below
import Derived.Test.YtgdmjpehofdnpaaPackItemCloses5
section
namespace Go.Proofs.Ytgdmjpehofdnpaa.PItemCloses
open Go.RowKit Go.Proofs.YtgdmjpehofdnpaaW.PrintWords Go.Proofs.YtgdmjpehofdnpaaW.PrintLast Go.Proofs.YtgdmjpehofdnpaaW.PrintMore
attribute [local go_sem] zb8 zb9 zce zcd zb6 zb4 zb7 zca
set_option linter.unusedVariables false
set_option linter.unusedSimpArgs false
attribute [local go_sem high] eqA39
mutual
def zan.j0 : Nat → List (S39) → List (S39) → Bool → List ByteArray → List ByteArray → List (S46) → Option (Bool)
 | 0, _, _, _, _, _, _ => none
 | k + 1, x1, x2, x24, x128000, x128001, x128002 => if x24 = true then ((zbu.f).bind fun t129 => (some t129)) else ((zbj.f k x128000 x128001 x128002 x1).bind fun t130 => ((some (([] : List (S39)) : List (S39))).bind fun y133 => (if y133.length + x1.length < 5864062014805 then ((some (y133 ++ x1 : List (S39))).bind fun y136 => (if y136.length + x2.length < 5864062014805 then ((zbj.f k x128000 x128001 x128002 (y136 ++ x2)).bind fun t142 => (zan.l0 k t130 0 t142 (t142.length : Int) 0 x128000 x128001 x128002)) else (none))) else (none))))
def zan.l0 : Nat → List (S39) → Int → List (S39) → Int → Int → List ByteArray → List ByteArray → List (S46) → Option (Bool)
 | 0, _, _, _, _, _, _, _, _ => none
 | k + 1, x7, x9, x36, x37, x38, x128000, x128001, x128002 => if x38 < x37 then (if 0 ≤ x38 then (if x38 < (x36.length : Int) then (if x9 < (x7.length : Int) then (if 0 ≤ x9 then (if (((zas x7 x9).f0) == ((zas x36 x38).f0) && (((zas x7 x9).f1) == ((zas x36 x38).f1) && (((zas x7 x9).f2) == ((zas x36 x38).f2)))) = true then (zan.l0 k x7 (wrap64 (x9 + 1)) x36 x37 (wrap64 (x38 + 1)) x128000 x128001 x128002) else (zan.l0 k x7 x9 x36 x37 (wrap64 (x38 + 1)) x128000 x128001 x128002)) else (none)) else (zan.l0 k x7 x9 x36 x37 (wrap64 (x38 + 1)) x128000 x128001 x128002)) else (none)) else (none)) else ((zbj.f k x128000 x128001 x128002 x7).bind fun t148 => ((zau.f k t148 x7).bind fun t151 => (if t151 = true then (if x9 = (x7.length : Int) then ((zbu.f).bind fun t152 => (some t152)) else (some false)) else (some false))))
end
def zan.f (k : Nat) (l0_0 : List ByteArray) (l0_1 : List ByteArray) (l0_2 : List (S46)) (l1 : List (S39)) (l2 : List (S39)) : Option (Bool) := (zbk.f k l0_0 l0_1 l0_2).bind fun t128 => (if t128 = true then (if (l1.length : Int) > 50 then (zan.j0 k l1 l2 true l0_0 l0_1 l0_2) else (zan.j0 k l1 l2 (decide ((l2.length : Int) > 50)) l0_0 l0_1 l0_2)) else (zan.j0 k l1 l2 true l0_0 l0_1 l0_2))
theorem zan.zby : ∀ k, (∀ y0 y1 y2 y3 y4 y5, LeO (zan.j0 k y0 y1 y2 y3 y4 y5) (zan.j0 (k + 1) y0 y1 y2 y3 y4 y5)) ∧ (∀ y0 y1 y2 y3 y4 y5 y6 y7, LeO (zan.l0 k y0 y1 y2 y3 y4 y5 y6 y7) (zan.l0 (k + 1) y0 y1 y2 y3 y4 y5 y6 y7))
 | 0 => ⟨fun _ _ _ _ _ _ r h => by simp [zan.j0] at h, fun _ _ _ _ _ _ _ _ r h => by simp [zan.l0] at h⟩
 | k + 1 => by
  obtain ⟨ih0, ih1⟩ := zan.zby k
  refine ⟨?_, ?_⟩
  ·intro y0 y1 y2 y3 y4 y5
   unfold zan.j0
   repeat' first
   | (with_reducible exact ih0 _ _ _ _ _ _)
   | (with_reducible exact ih1 _ _ _ _ _ _ _ _)
   | (with_reducible exact zbk.mono _ _ _ _)
   | (with_reducible exact zau.mono _ _ _)
   | (with_reducible exact zbj.mono _ _ _ _ _)
   | (with_reducible exact LeO.refl _)
   | (with_reducible exact LeO.none _)
   | (with_reducible refine LeO.ite ?_ ?_)
   | (with_reducible refine LeO.bind ?_ (fun _ => ?_))
   | exact ih0 _ _ _ _ _ _
   | exact ih1 _ _ _ _ _ _ _ _
   | exact zbk.mono _ _ _ _
   | exact zau.mono _ _ _
   | exact zbj.mono _ _ _ _ _
   | exact LeO.none _
   | refine LeO.ite ?_ ?_
   | refine LeO.bind ?_ (fun _ => ?_)
  ·intro y0 y1 y2 y3 y4 y5 y6 y7
   unfold zan.l0
   repeat' first
   | (with_reducible exact ih0 _ _ _ _ _ _)
   | (with_reducible exact ih1 _ _ _ _ _ _ _ _)
   | (with_reducible exact zbk.mono _ _ _ _)
   | (with_reducible exact zau.mono _ _ _)
   | (with_reducible exact zbj.mono _ _ _ _ _)
   | (with_reducible exact LeO.refl _)
   | (with_reducible exact LeO.none _)
   | (with_reducible refine LeO.ite ?_ ?_)
   | (with_reducible refine LeO.bind ?_ (fun _ => ?_))
   | exact ih0 _ _ _ _ _ _
   | exact ih1 _ _ _ _ _ _ _ _
   | exact zbk.mono _ _ _ _
   | exact zau.mono _ _ _
   | exact zbj.mono _ _ _ _ _
   | exact LeO.none _
   | refine LeO.ite ?_ ?_
   | refine LeO.bind ?_ (fun _ => ?_)
theorem zan.mono : ∀ a0 a1 a2 a3 a4 k, LeO (zan.f k a0 a1 a2 a3 a4) (zan.f (k + 1) a0 a1 a2 a3 a4) := by
 intro a0 a1 a2 a3 a4 k
 obtain ⟨ih0, ih1⟩ := zan.zby k
 unfold zan.f
 repeat' first
   | (with_reducible exact ih0 _ _ _ _ _ _)
   | (with_reducible exact ih1 _ _ _ _ _ _ _ _)
   | (with_reducible exact zbk.mono _ _ _ _)
   | (with_reducible exact zau.mono _ _ _)
   | (with_reducible exact zbj.mono _ _ _ _ _)
   | (with_reducible exact LeO.refl _)
   | (with_reducible exact LeO.none _)
   | (with_reducible refine LeO.ite ?_ ?_)
   | (with_reducible refine LeO.bind ?_ (fun _ => ?_))
   | exact ih0 _ _ _ _ _ _
   | exact ih1 _ _ _ _ _ _ _ _
   | exact zbk.mono _ _ _ _
   | exact zau.mono _ _ _
   | exact zbj.mono _ _ _ _ _
   | exact LeO.none _
   | refine LeO.ite ?_ ?_
   | refine LeO.bind ?_ (fun _ => ?_)
def zan.T4 : Bool × List (List Nat × List Nat) := (true, [([], []), ([], []), ([], []), ([1, 2], [1, 2]), ([], []), ([3, 4, 3], [3, 4]), ([0, 5, 5], [0, 5]), ([6, 6, 0, 1, 2, 3, 4, 5, 6], [6])])
def zan.B4 : List Nat := [0, 0, 0, 6, 0, 30, 63, 127]
theorem zan.tab4 : rtab .any (opsOf Try.f4 4) = zan.T4 := by kernel_rfl
theorem zan.bits4 : waitsOk zan.T4.2 zan.B4 = true := by kernel_rfl
def zan.T9 : Bool × List (List Nat × List Nat) := (true, [([], []), ([], []), ([1], [1]), ([0, 2], [0, 2]), ([3], [3]), ([4], [4]), ([4], [4]), ([5, 6, 4], [4, 5, 6]), ([7, 4], [4, 7]), ([4], [4]), ([8, 9, 4], [4, 8, 9]), ([4, 10], [4, 10])])
def zan.B9 : List Nat := [0, 0, 2, 7, 15, 31, 31, 127, 255, 31, 1023, 2047]
theorem zan.tab9 : rtab .any (opsOf Try.f4 9) = zan.T9 := by kernel_rfl
theorem zan.bits9 : waitsOk zan.T9.2 zan.B9 = true := by kernel_rfl
set_option maxHeartbeats 8000000 in
set_option maxRecDepth 100000 in
theorem zan.calls (k : Nat) (A0_0 : Option Addr) (c0_0 : Nat) (l0_0 : List ByteArray) (A0_1 : Option Addr) (c0_1 : Nat) (l0_1 : List ByteArray) (A0_2 : Option Addr) (c0_2 : Nat) (l0_2 : List (S46)) (A1 : Option Addr) (c1 : Nat) (l1 : List (S39)) (A2 : Option Addr) (c2 : Nat) (l2 : List (S39)) (r : Bool) (w : World) (hr0_0 : Kd.C Kd.string w A0_0 l0_0.length l0_0) (hc0_0 : l0_0.length ≤ c0_0) (hr0_1 : Kd.C Kd.string w A0_1 l0_1.length l0_1) (hc0_1 : l0_1.length ≤ c0_1) (hr0_2 : Kd.C k46 w A0_2 l0_2.length l0_2) (hc0_2 : l0_2.length ≤ c0_2) (hr1 : Kd.C k39 w A1 l1.length l1) (hc1 : l1.length ≤ c1) (hr2 : Kd.C k39 w A2 l2.length l2) (hc2 : l2.length ≤ c2) (h : zan.f k l0_0 l0_1 l0_2 l1 l2 = some r) :
  Calls Try.prog 4 #[.agg #[.slice A0_0 l0_0.length c0_0, .slice A0_1 l0_1.length c0_1, .slice A0_2 l0_2.length c0_2], .slice A1 l1.length c1, .slice A2 l2.length c2] w fun e w' => e = .returned (.bool r) ∧ Below w.heap.size w w' := by
 have hu25 := Try.underlying25
 have hu39 := Try.underlying39
 have HR0_0 := zaa.mk hr0_0
 have HC0_0 := zaa.mk hc0_0
 clear hr0_0 hc0_0
 have HR0_1 := zaa.mk hr0_1
 have HC0_1 := zaa.mk hc0_1
 clear hr0_1 hc0_1
 have HR0_2 := zaa.mk hr0_2
 have HC0_2 := zaa.mk hc0_2
 clear hr0_2 hc0_2
 have HR1 := zaa.mk hr1
 have HC1 := zaa.mk hc1
 clear hr1 hc1
 have HR2 := zaa.mk hr2
 have HC2 := zaa.mk hc2
 clear hr2 hc2
 have HB := zaa.mk (Below.refl w.heap.size w)
 have H : ((zbk.f k l0_0 l0_1 l0_2).bind fun t128 => (if t128 = true then (if (l1.length : Int) > 50 then (zan.j0 k l1 l2 true l0_0 l0_1 l0_2) else (zan.j0 k l1 l2 (decide ((l2.length : Int) > 50)) l0_0 l0_1 l0_2)) else (zan.j0 k l1 l2 true l0_0 l0_1 l0_2))) = some r := h
 clear h
 have HC4 := zaa.mk H
 clear H
 go_enter Try.func4, Try.ntmps4
 go_upto_region 1 with (first | ((with_reducible refine zba (N := 3) rfl ?_); (try (refine zbc (by rfl) ?_; dsimp only)); refine za9 ?hg (N := 3) ?hd (cs := #[.slice A0_0 l0_0.length c0_0, .slice A0_1 l0_1.length c0_1, .slice A0_2 l0_2.length c0_2]) (t := 25) ?hr ?_; (case hd => rfl); (case hg => rfl); (case hr => first | (go_simp; done) | (go_simp; rfl)); intro gb127 hg w5 hbox hb; have n0_ := zaa.mk (zax (by repeat (first | (with_reducible first | exact HB.out | apply zaf | apply zac | apply zad) | exact HB.out)) hb); have n1_ := zaa.mk (hbox); have n2_ := zaa.mk ((by rw [hg]; exact (zat (by repeat (first | (with_reducible first | exact HB.out | apply zaf | apply zac | apply zad) | exact HB.out))) : w.heap.size ≤ gb127)); have n3_ := zaa.mk ((by rw [hg]; exact (zat (by repeat (first | (with_reducible first | exact HB.out | apply zaf | apply zac | apply zad) | exact HB.out))) : w.heap.size ≤ gb127)); clear HB; have HB := n0_; have BK127 := n1_; have GW127 := n2_; have GE127 := n3_; clear n0_ n1_ n2_ n3_; clear hb hbox hg))
 (try simp only [Act.put, Y1, Y2, Y3])
 go_cut [24] (fun v24 wc => ∃ (kq : Nat) (x24_3 : Bool), v24 = .bool x24_3 ∧ zaa (zan.j0 kq l1 l2 x24_3 l0_0 l0_1 l0_2 = some r) ∧ zaa (kq ≤ k) ∧ zaa (wc.heap[gb127]? = some (.cells #[(.slice A0_0 l0_0.length c0_0), (.slice A0_1 l0_1.length c0_1), (.slice A0_2 l0_2.length c0_2)] 25 (0, 0))) ∧ zaa (Below w.heap.size w wc))
 case first =>
  have H := HC4.out
  clear HC4
  replace H := Option.bind_eq_some_iff.mp H
  obtain ⟨t128, A60, H⟩ := H
  replace H : (if t128 = true then (if (l1.length : Int) > 50 then (zan.j0 k l1 l2 true l0_0 l0_1 l0_2) else (zan.j0 k l1 l2 (decide ((l2.length : Int) > 50)) l0_0 l0_1 l0_2)) else (zan.j0 k l1 l2 true l0_0 l0_1 l0_2)) = some r := H
  have A6 := zaa.mk A60
  clear A60
  by_cases c7 : t128 = true
  ·subst c7
   have H1 : (if (l1.length : Int) > 50 then (zan.j0 k l1 l2 true l0_0 l0_1 l0_2) else (zan.j0 k l1 l2 (decide ((l2.length : Int) > 50)) l0_0 l0_1 l0_2)) = some r := by rw [if_pos rfl] at H; exact H
   clear H
   have H := H1
   clear H1
   by_cases c8 : (l1.length : Int) > 50
   ·rw [if_pos c8] at H
    have c8b0 : decide (50 < (l1.length : Int)) = true := decide_eq_true c8
    have c8b1 : decide (50 < l1.length) = true := decide_eq_true (by omega)
    clear c8
    (first | rw [c8b0] | (simp only [i64_w, i32_w]; rw [c8b0]) | skip)
    have H' := zaa.mk H
    clear H
    have hcz9_0 : w5.cell? ⟨gb127, 0, none⟩ = some (.slice A0_0 l0_0.length c0_0) := (zab BK127.out 0).trans rfl
    have hcz9_1 : w5.cell? ⟨gb127, 1, none⟩ = some (.slice A0_1 l0_1.length c0_1) := (zab BK127.out 1).trans rfl
    have hcz9_2 : w5.cell? ⟨gb127, 2, none⟩ = some (.slice A0_2 l0_2.length c0_2) := (zab BK127.out 2).trans rfl
    have hfz9_0 := zak BK127.out 0
    have hfz9_1 := zak BK127.out 1
    have hfz9_2 := zak BK127.out 2
    go_wp2_with (first | ((with_reducible refine zbo (f := 5) rfl ?_); refine zb5 (some 13) rfl rfl Try.func5 (by kernel_rfl) rfl #[.agg #[.slice A0_0 l0_0.length c0_0, .slice A0_1 l0_1.length c0_1, .slice A0_2 l0_2.length c0_2]] rfl (by (try simp only [List.map_toArray, List.map_cons, List.map_nil]); first | done | rfl | (simp only [List.length_drop, List.length_take]; rfl)) ?_; (with_reducible refine (zbk.calls k _ _ l0_0 _ _ l0_1 _ _ l0_2 true _ ?side1 ?side2 ?side3 ?side4 ?side5 ?side6 A6.out).mono ?_); (case side1 => repeat (first | exact (Kd.zay HR0_0.out HB.out) | (with_reducible refine Kd.za2 ?_ _) | (with_reducible refine Kd.za1 ?_ _) | (with_reducible refine Kd.za7 ?_))); (case side2 => exact HC0_0.out); (case side3 => repeat (first | exact (Kd.zay HR0_1.out HB.out) | (with_reducible refine Kd.za2 ?_ _) | (with_reducible refine Kd.za1 ?_ _) | (with_reducible refine Kd.za7 ?_))); (case side4 => exact HC0_1.out); (case side5 => repeat (first | exact (Kd.zay HR0_2.out HB.out) | (with_reducible refine Kd.za2 ?_ _) | (with_reducible refine Kd.za1 ?_ _) | (with_reducible refine Kd.za7 ?_))); (case side6 => exact HC0_2.out); rintro e w10 ⟨rfl, hb⟩; refine ⟨_, rfl, ?_⟩; have n0_ := zaa.mk (zaq (g := gb127) (o := .cells #[.slice A0_0 l0_0.length c0_0, .slice A0_1 l0_1.length c0_1, .slice A0_2 l0_2.length c0_2] 25 (0, 0)) (by (with_reducible repeat (first | refine zai ?_ _ | refine zae ?_ | refine zah ?_ _)); exact BK127.out) hb); have n1_ := zaa.mk (zax (by repeat (first | (with_reducible first | exact HB.out | apply zaf | apply zac | apply zad | refine zaj ?_ GE127.out) | exact HB.out)) hb); clear BK127; clear HB; have BK127 := n0_; have HB := n1_; clear n0_ n1_; (try clear hb); (try clear hb2); (try clear hk); (try clear hi)))
    go_meet
    case rel => exact ⟨_, (true), (by first | rfl | (simp; done) | (simp [*]; done)), H', ⟨by first | omega | exact Nat.le_refl _⟩, ⟨by (with_reducible repeat (first | refine zai ?_ _ | refine zae ?_ | refine zah ?_ _)); exact BK127.out⟩, ⟨by repeat (first | (with_reducible first | exact HB.out | apply zaf | apply zac | apply zad | refine zaj ?_ GE127.out) | exact HB.out)⟩⟩
   ·rw [if_neg c8] at H
    have c8b0 : decide (50 < (l1.length : Int)) = false := decide_eq_false c8
    have c8b1 : decide (50 < l1.length) = false := decide_eq_false (by omega)
    clear c8
    (first | rw [c8b0] | (simp only [i64_w, i32_w]; rw [c8b0]) | skip)
    have H' := zaa.mk H
    clear H
    have hcz11_0 : w5.cell? ⟨gb127, 0, none⟩ = some (.slice A0_0 l0_0.length c0_0) := (zab BK127.out 0).trans rfl
    have hcz11_1 : w5.cell? ⟨gb127, 1, none⟩ = some (.slice A0_1 l0_1.length c0_1) := (zab BK127.out 1).trans rfl
    have hcz11_2 : w5.cell? ⟨gb127, 2, none⟩ = some (.slice A0_2 l0_2.length c0_2) := (zab BK127.out 2).trans rfl
    have hfz11_0 := zak BK127.out 0
    have hfz11_1 := zak BK127.out 1
    have hfz11_2 := zak BK127.out 2
    go_wp2_with (first | ((with_reducible refine zbo (f := 5) rfl ?_); refine zb5 (some 13) rfl rfl Try.func5 (by kernel_rfl) rfl #[.agg #[.slice A0_0 l0_0.length c0_0, .slice A0_1 l0_1.length c0_1, .slice A0_2 l0_2.length c0_2]] rfl (by (try simp only [List.map_toArray, List.map_cons, List.map_nil]); first | done | rfl | (simp only [List.length_drop, List.length_take]; rfl)) ?_; (with_reducible refine (zbk.calls k _ _ l0_0 _ _ l0_1 _ _ l0_2 true _ ?side1 ?side2 ?side3 ?side4 ?side5 ?side6 A6.out).mono ?_); (case side1 => repeat (first | exact (Kd.zay HR0_0.out HB.out) | (with_reducible refine Kd.za2 ?_ _) | (with_reducible refine Kd.za1 ?_ _) | (with_reducible refine Kd.za7 ?_))); (case side2 => exact HC0_0.out); (case side3 => repeat (first | exact (Kd.zay HR0_1.out HB.out) | (with_reducible refine Kd.za2 ?_ _) | (with_reducible refine Kd.za1 ?_ _) | (with_reducible refine Kd.za7 ?_))); (case side4 => exact HC0_1.out); (case side5 => repeat (first | exact (Kd.zay HR0_2.out HB.out) | (with_reducible refine Kd.za2 ?_ _) | (with_reducible refine Kd.za1 ?_ _) | (with_reducible refine Kd.za7 ?_))); (case side6 => exact HC0_2.out); rintro e w12 ⟨rfl, hb⟩; refine ⟨_, rfl, ?_⟩; have n0_ := zaa.mk (zaq (g := gb127) (o := .cells #[.slice A0_0 l0_0.length c0_0, .slice A0_1 l0_1.length c0_1, .slice A0_2 l0_2.length c0_2] 25 (0, 0)) (by (with_reducible repeat (first | refine zai ?_ _ | refine zae ?_ | refine zah ?_ _)); exact BK127.out) hb); have n1_ := zaa.mk (zax (by repeat (first | (with_reducible first | exact HB.out | apply zaf | apply zac | apply zad | refine zaj ?_ GE127.out) | exact HB.out)) hb); clear BK127; clear HB; have BK127 := n0_; have HB := n1_; clear n0_ n1_; (try clear hb); (try clear hb2); (try clear hk); (try clear hi)))
    go_meet
    case rel => exact ⟨_, (decide ((l2.length : Int) > 50)), (by first | rfl | (simp; done) | (simp [*]; done)), H', ⟨by first | omega | exact Nat.le_refl _⟩, ⟨by (with_reducible repeat (first | refine zai ?_ _ | refine zae ?_ | refine zah ?_ _)); exact BK127.out⟩, ⟨by repeat (first | (with_reducible first | exact HB.out | apply zaf | apply zac | apply zad | refine zaj ?_ GE127.out) | exact HB.out)⟩⟩
  ·replace c7 := Bool.eq_false_iff.mpr c7
   subst c7
   have H1 : (zan.j0 k l1 l2 true l0_0 l0_1 l0_2) = some r := by rw [if_neg (show ¬ (false = true) by decide)] at H; exact H
   clear H
   have H := H1
   clear H1
   have H' := zaa.mk H
   clear H
   have hcz13_0 : w5.cell? ⟨gb127, 0, none⟩ = some (.slice A0_0 l0_0.length c0_0) := (zab BK127.out 0).trans rfl
   have hcz13_1 : w5.cell? ⟨gb127, 1, none⟩ = some (.slice A0_1 l0_1.length c0_1) := (zab BK127.out 1).trans rfl
   have hcz13_2 : w5.cell? ⟨gb127, 2, none⟩ = some (.slice A0_2 l0_2.length c0_2) := (zab BK127.out 2).trans rfl
   have hfz13_0 := zak BK127.out 0
   have hfz13_1 := zak BK127.out 1
   have hfz13_2 := zak BK127.out 2
   go_wp2_with (first | ((with_reducible refine zbo (f := 5) rfl ?_); refine zb5 (some 13) rfl rfl Try.func5 (by kernel_rfl) rfl #[.agg #[.slice A0_0 l0_0.length c0_0, .slice A0_1 l0_1.length c0_1, .slice A0_2 l0_2.length c0_2]] rfl (by (try simp only [List.map_toArray, List.map_cons, List.map_nil]); first | done | rfl | (simp only [List.length_drop, List.length_take]; rfl)) ?_; (with_reducible refine (zbk.calls k _ _ l0_0 _ _ l0_1 _ _ l0_2 false _ ?side1 ?side2 ?side3 ?side4 ?side5 ?side6 A6.out).mono ?_); (case side1 => repeat (first | exact (Kd.zay HR0_0.out HB.out) | (with_reducible refine Kd.za2 ?_ _) | (with_reducible refine Kd.za1 ?_ _) | (with_reducible refine Kd.za7 ?_))); (case side2 => exact HC0_0.out); (case side3 => repeat (first | exact (Kd.zay HR0_1.out HB.out) | (with_reducible refine Kd.za2 ?_ _) | (with_reducible refine Kd.za1 ?_ _) | (with_reducible refine Kd.za7 ?_))); (case side4 => exact HC0_1.out); (case side5 => repeat (first | exact (Kd.zay HR0_2.out HB.out) | (with_reducible refine Kd.za2 ?_ _) | (with_reducible refine Kd.za1 ?_ _) | (with_reducible refine Kd.za7 ?_))); (case side6 => exact HC0_2.out); rintro e w14 ⟨rfl, hb⟩; refine ⟨_, rfl, ?_⟩; have n0_ := zaa.mk (zaq (g := gb127) (o := .cells #[.slice A0_0 l0_0.length c0_0, .slice A0_1 l0_1.length c0_1, .slice A0_2 l0_2.length c0_2] 25 (0, 0)) (by (with_reducible repeat (first | refine zai ?_ _ | refine zae ?_ | refine zah ?_ _)); exact BK127.out) hb); have n1_ := zaa.mk (zax (by repeat (first | (with_reducible first | exact HB.out | apply zaf | apply zac | apply zad | refine zaj ?_ GE127.out) | exact HB.out)) hb); clear BK127; clear HB; have BK127 := n0_; have HB := n1_; clear n0_ n1_; (try clear hb); (try clear hb2); (try clear hk); (try clear hi)))
   go_meet
   case rel => exact ⟨_, (true), (by first | rfl | (simp; done) | (simp [*]; done)), H', ⟨by first | omega | exact Nat.le_refl _⟩, ⟨by (with_reducible repeat (first | refine zai ?_ _ | refine zae ?_ | refine zah ?_ _)); exact BK127.out⟩, ⟨by repeat (first | (with_reducible first | exact HB.out | apply zaf | apply zac | apply zad | refine zaj ?_ GE127.out) | exact HB.out)⟩⟩
 case rest =>
  clear HC4
  try clear c1
  try clear c2
  try clear p2
  try clear c4
  try clear c5
  try clear c7
  try clear c8
  try clear c8b0
  try clear c8b1
  try clear hcz11_0
  try clear hcz11_1
  try clear hcz11_2
  try clear hcz13_0
  try clear hcz13_1
  try clear hcz13_2
  try clear hcz9_0
  try clear hcz9_1
  try clear hcz9_2
  try clear hfz11_0
  try clear hfz11_1
  try clear hfz11_2
  try clear hfz13_0
  try clear hfz13_1
  try clear hfz13_2
  try clear hfz9_0
  try clear hfz9_1
  try clear hfz9_2
  obtain ⟨kq, x24_3, rfl, HA, HJ3, BK127, HB⟩ := hcut
  cases kq with
  | zero => exact absurd HA.out (by simp [zan.j0])
  | succ kj3 =>
   have H := HA.out
   clear HA
   simp only [zan.j0] at H
   by_cases c15 : x24_3 = true
   ·subst c15
    have H1 : ((zbu.f).bind fun t129 => (some t129)) = some r := by rw [if_pos rfl] at H; exact H
    clear H
    have H := H1
    clear H1
    replace H := Option.bind_eq_some_iff.mp H
    obtain ⟨t129, A160, H⟩ := H
    replace H : (some t129) = some r := H
    have A16 := zaa.mk A160
    clear A160
    obtain rfl := Option.some.inj H
    go_wp2_with (first | ((with_reducible refine zbo (f := 6) rfl ?_); refine zb5 (some 25) rfl rfl Try.func6 (by kernel_rfl) rfl #[] rfl (by (try simp only [List.map_toArray, List.map_cons, List.map_nil]); first | done | rfl | (simp only [List.length_drop, List.length_take]; rfl)) ?_; (with_reducible refine (zbu.calls  t129 _ A16.out).mono ?_); rintro e w17 ⟨rfl, hb⟩; refine ⟨_, rfl, ?_⟩; have n0_ := zaa.mk (zaq (g := gb127) (o := .cells #[.slice A0_0 l0_0.length c0_0, .slice A0_1 l0_1.length c0_1, .slice A0_2 l0_2.length c0_2] 25 (0, 0)) (by (with_reducible repeat (first | refine zai ?_ _ | refine zae ?_ | refine zah ?_ _)); exact BK127.out) hb); have n1_ := zaa.mk (zax (by repeat (first | (with_reducible first | exact HB.out | apply zaf | apply zac | apply zad | refine zaj ?_ GE127.out) | exact HB.out)) hb); clear BK127; clear HB; have BK127 := n0_; have HB := n1_; clear n0_ n1_; (try clear hb); (try clear hb2); (try clear hk); (try clear hi)))
    go_ret
    exact ⟨by first | rfl | (simp [za6, za4] <;> rfl) | (simp [*, za6, za4] <;> rfl), by repeat (first | (with_reducible first | exact HB.out | apply zaf | apply zac | apply zad | refine zaj ?_ GE127.out) | exact HB.out)⟩
   ·replace c15 := Bool.eq_false_iff.mpr c15
    subst c15
    have H1 : ((zbj.f kj3 l0_0 l0_1 l0_2 l1).bind fun t130 => ((some (([] : List (S39)) : List (S39))).bind fun y133 => (if y133.length + l1.length < 5864062014805 then ((some (y133 ++ l1 : List (S39))).bind fun y136 => (if y136.length + l2.length < 5864062014805 then ((zbj.f kj3 l0_0 l0_1 l0_2 (y136 ++ l2)).bind fun t142 => (zan.l0 kj3 t130 0 t142 (t142.length : Int) 0 l0_0 l0_1 l0_2)) else (none))) else (none)))) = some r := by rw [if_neg (show ¬ (false = true) by decide)] at H; exact H
    clear H
    have H := H1
    clear H1
    replace H := Option.bind_eq_some_iff.mp H
    obtain ⟨t130, A180, H⟩ := H
    replace H : ((some (([] : List (S39)) : List (S39))).bind fun y133 => (if y133.length + l1.length < 5864062014805 then ((some (y133 ++ l1 : List (S39))).bind fun y136 => (if y136.length + l2.length < 5864062014805 then ((zbj.f kj3 l0_0 l0_1 l0_2 (y136 ++ l2)).bind fun t142 => (zan.l0 kj3 t130 0 t142 (t142.length : Int) 0 l0_0 l0_1 l0_2)) else (none))) else (none))) = some r := H
    have A18 := zaa.mk A180
    clear A180
    obtain ⟨y133, hy133⟩ : ∃ y_ : List (S39), y_ = (([] : List (S39))) := ⟨_, rfl⟩
    replace H : (if y133.length + l1.length < 5864062014805 then ((some (y133 ++ l1 : List (S39))).bind fun y136 => (if y136.length + l2.length < 5864062014805 then ((zbj.f kj3 l0_0 l0_1 l0_2 (y136 ++ l2)).bind fun t142 => (zan.l0 kj3 t130 0 t142 (t142.length : Int) 0 l0_0 l0_1 l0_2)) else (none))) else (none)) = some r := by first | (rw [hy133]; with_reducible exact H) | (have H2_ := (Option.bind_some _ _).symm.trans H; rw [hy133]; with_reducible exact H2_) | (have H2_ := (Option.bind_some _ _).symm.trans H; with_reducible exact H2_) | with_reducible exact H | (rw [hy133]; exact H) | exact H
    have Ny133 := zaa.mk hy133
    clear hy133
    by_cases c19 : y133.length + l1.length < 5864062014805
    ·rw [if_pos c19] at H
     have LMc19 := zaa.mk c19
     clear c19
     obtain ⟨y136, hy136⟩ : ∃ y_ : List (S39), y_ = (y133 ++ l1) := ⟨_, rfl⟩
     replace H : (if y136.length + l2.length < 5864062014805 then ((zbj.f kj3 l0_0 l0_1 l0_2 (y136 ++ l2)).bind fun t142 => (zan.l0 kj3 t130 0 t142 (t142.length : Int) 0 l0_0 l0_1 l0_2)) else (none)) = some r := by first | (rw [hy136]; with_reducible exact H) | (have H2_ := (Option.bind_some _ _).symm.trans H; rw [hy136]; with_reducible exact H2_) | (have H2_ := (Option.bind_some _ _).symm.trans H; with_reducible exact H2_) | with_reducible exact H | (rw [hy136]; exact H) | exact H
     have Ny136 := zaa.mk hy136
     clear hy136
     by_cases c20 : y136.length + l2.length < 5864062014805
     ·rw [if_pos c20] at H
      have LMc20 := zaa.mk c20
      clear c20
      obtain ⟨y139, hy139⟩ : ∃ y_ : List (S39), y_ = (y136 ++ l2) := ⟨_, rfl⟩
      replace H : ((zbj.f kj3 l0_0 l0_1 l0_2 y139).bind fun t142 => (zan.l0 kj3 t130 0 t142 (t142.length : Int) 0 l0_0 l0_1 l0_2)) = some r := by first | (rw [hy139]; with_reducible exact H) | (have H2_ := (Option.bind_some _ _).symm.trans H; rw [hy139]; with_reducible exact H2_) | (have H2_ := (Option.bind_some _ _).symm.trans H; with_reducible exact H2_) | with_reducible exact H | (rw [hy139]; exact H) | exact H
      have Ny139 := zaa.mk hy139
      clear hy139
      replace H := Option.bind_eq_some_iff.mp H
      obtain ⟨t142, A210, H⟩ := H
      replace H : (zan.l0 kj3 t130 0 t142 (t142.length : Int) 0 l0_0 l0_1 l0_2) = some r := H
      have A21 := zaa.mk A210
      clear A210
      have H' := zaa.mk H
      clear H
      have hcz22_0 : wc.cell? ⟨gb127, 0, none⟩ = some (.slice A0_0 l0_0.length c0_0) := (zab BK127.out 0).trans rfl
      have hcz22_1 : wc.cell? ⟨gb127, 1, none⟩ = some (.slice A0_1 l0_1.length c0_1) := (zab BK127.out 1).trans rfl
      have hcz22_2 : wc.cell? ⟨gb127, 2, none⟩ = some (.slice A0_2 l0_2.length c0_2) := (zab BK127.out 2).trans rfl
      have hfz22_0 := zak BK127.out 0
      have hfz22_1 := zak BK127.out 1
      have hfz22_2 := zak BK127.out 2
      try go_wp2_with (first | ((with_reducible refine zbo (f := 12) rfl ?_); refine zb5 (some 28) rfl rfl Try.func12 (by kernel_rfl) rfl #[.agg #[.slice A0_0 l0_0.length c0_0, .slice A0_1 l0_1.length c0_1, .slice A0_2 l0_2.length c0_2], .slice A1 l1.length c1] rfl (by (try simp only [List.map_toArray, List.map_cons, List.map_nil]); first | done | rfl | (simp only [List.length_drop, List.length_take]; rfl)) ?_; (with_reducible refine (zbj.calls kj3 _ _ l0_0 _ _ l0_1 _ _ l0_2 _ _ l1 t130 _ ?side1 ?side2 ?side3 ?side4 ?side5 ?side6 ?side7 ?side8 A18.out).mono ?_); (case side1 => repeat (first | exact (Kd.zay HR0_0.out HB.out) | (with_reducible refine Kd.za2 ?_ _) | (with_reducible refine Kd.za1 ?_ _) | (with_reducible refine Kd.za7 ?_))); (case side2 => exact HC0_0.out); (case side3 => repeat (first | exact (Kd.zay HR0_1.out HB.out) | (with_reducible refine Kd.za2 ?_ _) | (with_reducible refine Kd.za1 ?_ _) | (with_reducible refine Kd.za7 ?_))); (case side4 => exact HC0_1.out); (case side5 => repeat (first | exact (Kd.zay HR0_2.out HB.out) | (with_reducible refine Kd.za2 ?_ _) | (with_reducible refine Kd.za1 ?_ _) | (with_reducible refine Kd.za7 ?_))); (case side6 => exact HC0_2.out); (case side7 => repeat (first | exact (Kd.zay HR1.out HB.out) | (with_reducible refine Kd.za2 ?_ _) | (with_reducible refine Kd.za1 ?_ _) | (with_reducible refine Kd.za7 ?_))); (case side8 => exact HC1.out); rintro e w23 ⟨v131, rfl, ho0, hb⟩; refine ⟨_, rfl, ?_⟩; have n0_ := zaa.mk (Kd.zb1 ho0 (zat (by repeat (first | (with_reducible first | exact HB.out | apply zaf | apply zac | apply zad | refine zaj ?_ GE127.out) | exact HB.out)))); have n1_ := zaa.mk (zaq (g := gb127) (o := .cells #[.slice A0_0 l0_0.length c0_0, .slice A0_1 l0_1.length c0_1, .slice A0_2 l0_2.length c0_2] 25 (0, 0)) (by (with_reducible repeat (first | refine zai ?_ _ | refine zae ?_ | refine zah ?_ _)); exact BK127.out) hb); have n2_ := zaa.mk (zax (by repeat (first | (with_reducible first | exact HB.out | apply zaf | apply zac | apply zad | refine zaj ?_ GE127.out) | exact HB.out)) hb); clear BK127; clear HB; have HO132 := n0_; have BK127 := n1_; have HB := n2_; clear n0_ n1_ n2_; (try clear hb); (try clear hb2); (try clear hk); (try clear hi); (try clear ho0)))
      have n0_ := zaa.mk (Kd.zbg HO132.out)
      have n1_ := zaa.mk (zae BK127.out)
      have n2_ := zaa.mk (zad HB.out)
      clear HO132
      clear BK127
      clear HB
      have HO132 := n0_
      have BK127 := n1_
      have HB := n2_
      clear n0_ n1_ n2_
      refine zbs (n := 8) (S := fun w' => w'.cell? ⟨gb127, 0, none⟩ = some (.slice A0_0 l0_0.length c0_0) ∧ w'.cell? ⟨gb127, 1, none⟩ = some (.slice A0_1 l0_1.length c0_1) ∧ w'.cell? ⟨gb127, 2, none⟩ = some (.slice A0_2 l0_2.length c0_2)) (ds := []) #[Nf,Nf,Nf,Nf,Nf,Nf,Nf,Nf] (by kernel_rfl) rfl rfl ⟨(zab BK127.out 0).trans rfl, (zab BK127.out 1).trans rfl, (zab BK127.out 2).trans rfl⟩ (fun hHeld => ?_); refine zcc zan.tab4 zan.bits4 (fun HT_ HW_ => ?_)
      generalize w23.drew = w24 at HO132 BK127 HB hHeld ⊢
      refine pure_ (i := 2) (N := some 31) (v := ?_) (a' := ?_) #[Nf,Nf,Yt,Nf,Nf,Nf,Nf,Nf] rfl rfl (zao HT_.out (by kernel_rfl)) (fun _ _ _ h => h) (Or.inl ⟨by rfl, ?_⟩) ?_ ?_
      rotate_left
      ·intro w'
       go_simp
       with_reducible rfl
      rotate_left
      ·simp only [Act.put, Y1, Y2, Y3, i64_w, i32_w]
       rfl
      refine pure_ (i := 4) (N := some 33) (v := ?_) (a' := ?_) #[Nf,Nf,Yt,Nf,Yt,Nf,Nf,Nf] rfl rfl (zao HT_.out (by kernel_rfl)) (fun _ _ _ h => h) (Or.inl ⟨by rfl, ?_⟩) ?_ ?_
      rotate_left
      ·intro w'
       go_simp
       with_reducible rfl
      rotate_left
      ·simp only [Act.put, Y1, Y2, Y3, i64_w, i32_w]
       rfl
      refine take_ (i := 0) (N := some 29) (v := ?_) (a' := ?_) #[Yt,Nf,Yt,Nf,Yt,Nf,Nf,Nf] rfl rfl (zbi HT_.out HW_.out (by kernel_rfl)) (fun _ _ _ h => h) (Or.inl ⟨by rfl, ?_⟩) hHeld ?_ ?_
      rotate_left
      ·rintro w' ⟨s0, s1, s2⟩
       go_simp
       with_reducible rfl
      rotate_left
      ·simp only [Act.put, Y1, Y2, Y3, i64_w, i32_w]
       rfl
      refine one_ (i := 1) (N := some 30) #[Yt,Yt,Yt,Nf,Yt,Nf,Nf,Nf] rfl rfl (one_of HT_.out (by kernel_rfl)) (by decide) (fun K hK => ?_)
      refine Kd.R_lit_step k39 _ 39 ?hg (N := 30) ?hd (xs := ([] : List (S39))) (inner := []) (ok := fun _ => True) (okp := fun _ => True) ?hr ?hp (fun _ hk => hk) trivial (Below.refl _ _) (Nat.le_refl _) (by simp) ?_; (case hd => rfl); (case hg => rfl); (case hr => first | (go_simp; done) | (go_simp; rfl)); (case hp => exact (Reps.none _ _))
      intro v134 w25 ho26 hb hg_ hnew_
      clear hg_ hnew_
      (first | rw [← Ny133.out] at ho26 | (simp only [Int.reduceToNat] at ho26; rw [← Ny133.out] at ho26))
      have n0_ := zaa.mk (Kd.R_elder' (by (with_reducible repeat (first | apply Kd.zbf | apply Kd.zbd | apply Kd.zbg)); exact HO132.out) (Kd.R_base ho26) hb)
      have n1_ := zaa.mk (Kd.zb1 (Kd.R_new' ho26 (Kd.R_lt (by (with_reducible repeat (first | apply Kd.zbf | apply Kd.zbd | apply Kd.zbg)); exact HO132.out))) (zat (by repeat (first | (with_reducible first | exact HB.out | apply zaf | apply zac | apply zad | refine zaj ?_ GE127.out) | exact HB.out))))
      have n2_ := zaa.mk (zaq (g := gb127) (o := .cells #[.slice A0_0 l0_0.length c0_0, .slice A0_1 l0_1.length c0_1, .slice A0_2 l0_2.length c0_2] 25 (0, 0)) (by (with_reducible repeat (first | refine zai ?_ _ | refine zae ?_ | refine zah ?_ _)); exact BK127.out) hb)
      have n3_ := zaa.mk (zax (by repeat (first | (with_reducible first | exact HB.out | apply zaf | apply zac | apply zad | refine zaj ?_ GE127.out) | exact HB.out)) hb)
      clear HO132
      clear BK127
      clear HB
      have HO132 := n0_
      have HO135 := n1_
      have BK127 := n2_
      have HB := n3_
      clear n0_ n1_ n2_ n3_
      clear hb ho26
      refine hK.out _ _ ⟨(zab BK127.out 0).trans rfl, (zab BK127.out 1).trans rfl, (zab BK127.out 2).trans rfl⟩ (fun hHeld => ?_)
      clear hK K
      refine norm_ (a' := ?_) ?_ ?_
      rotate_left
      ·show Act.put _ (some 30) _ = _
       simp only [Act.put, Y1, Y2, Y3, i64_w, i32_w]
       rfl
      refine one_ (i := 3) (N := some 32) #[Yt,Yt,Yt,Yt,Yt,Nf,Nf,Nf] rfl rfl (one_of HT_.out (by kernel_rfl)) (by decide) (fun K hK => ?_)
      refine Kd.zcn k39 (w0 := w) w.heap.size (by rfl) (.tmp 30) (.tmp 31) 33 39 (.agg #[(.int .i64 0), (.int .i64 0), (.int .i64 0)]) 24 rfl Try.underlying33 info39 rfl (by decide) (by omega) v134 y133 l1 _ _ _ (fun k_ => some k_ ≠ (v131 : Value).ownBlock) (fun _ => False) rfl rfl ?aO ?aR (fun _ _ h => h) (fun _ h => h.elim) ?aF ?aB ?aS ?aL ?_
      (case aR => repeat (first | exact (Kd.zay HR1.out HB.out) | (with_reducible refine Kd.za2 ?_ _) | (with_reducible refine Kd.za1 ?_ _) | (with_reducible refine Kd.za7 ?_)))
      (case aB => exact (by repeat (first | (with_reducible first | exact HB.out | apply zaf | apply zac | apply zad | refine zaj ?_ GE127.out) | exact HB.out)))
      (case aF => exact (fun k_ hk => Kd.fresh' (Kd.R_lt (by (with_reducible repeat (first | apply Kd.zbf | apply Kd.zbd | apply Kd.zbg)); exact HO132.out)) k_ hk))
      (case aO => exact (by (with_reducible repeat (first | apply Kd.zbf | apply Kd.zbd | apply Kd.zbg)); exact Kd.zbn HO135.out (fun _ hk => hk.2)))
      (case aS => exact (zat (by repeat (first | (with_reducible first | exact HB.out | apply zaf | apply zac | apply zad | refine zaj ?_ GE127.out) | exact HB.out))))
      (case aL => have := LMc19.out; omega)
      intro v137 w27 ho hb hg hat
      rw [← Ny136.out] at ho
      have n0_ := zaa.mk (zck (g := gb127) (o := .cells #[.slice A0_0 l0_0.length c0_0, .slice A0_1 l0_1.length c0_1, .slice A0_2 l0_2.length c0_2] 25 (0, 0)) (by (with_reducible repeat (first | refine zai ?_ _ | refine zae ?_ | refine zah ?_ _)); exact BK127.out) hg (Kd.R_ne HO135.out BK127.out (by decide)))
      have n1_ := zaa.mk (Kd.R_after (ok := (fun _ => True)) (by (with_reducible repeat (first | apply Kd.zbf | apply Kd.zbd | apply Kd.zbg)); exact HO132.out) hg hat)
      have n2_ := zaa.mk (hb)
      have n3_ := zaa.mk (ho)
      clear BK127
      clear HO132
      clear HB
      clear HO135
      have BK127 := n0_
      have HO132 := n1_
      have HB := n2_
      have HO138 := n3_
      clear n0_ n1_ n2_ n3_
      clear ho hb hg hat
      refine hK.out _ _ ⟨(zab BK127.out 0).trans rfl, (zab BK127.out 1).trans rfl, (zab BK127.out 2).trans rfl⟩ (fun hHeld => ?_)
      clear hK K
      refine norm_ (a' := ?_) ?_ ?_
      rotate_left
      ·show Act.put _ (some 32) _ = _
       simp only [Act.put, Y1, Y2, Y3, i64_w, i32_w]
       rfl
      refine one_ (i := 5) (N := some 34) #[Yt,Yt,Yt,Yt,Yt,Yt,Nf,Nf] rfl rfl (one_of HT_.out (by kernel_rfl)) (by decide) (fun K hK => ?_)
      refine Kd.zcn k39 (w0 := w) w.heap.size (by rfl) (.tmp 32) (.tmp 33) 33 39 (.agg #[(.int .i64 0), (.int .i64 0), (.int .i64 0)]) 24 rfl Try.underlying33 info39 rfl (by decide) (by omega) v137 y136 l2 _ _ _ (fun k_ => some k_ ≠ (v131 : Value).ownBlock) (fun _ => False) rfl rfl ?aO ?aR (fun _ _ h => h) (fun _ h => h.elim) ?aF ?aB ?aS ?aL ?_
      (case aR => repeat (first | exact (Kd.zay HR2.out HB.out) | (with_reducible refine Kd.za2 ?_ _) | (with_reducible refine Kd.za1 ?_ _) | (with_reducible refine Kd.za7 ?_)))
      (case aB => exact (by repeat (first | (with_reducible first | exact HB.out | apply zaf | apply zac | apply zad | refine zaj ?_ GE127.out) | exact HB.out)))
      (case aF => exact (fun k_ hk => Kd.fresh' (Kd.R_lt (by (with_reducible repeat (first | apply Kd.zbf | apply Kd.zbd | apply Kd.zbg)); exact HO132.out)) k_ hk))
      (case aO => exact (by (with_reducible repeat (first | apply Kd.zbf | apply Kd.zbd | apply Kd.zbg)); exact HO138.out))
      (case aS => exact (zat (by repeat (first | (with_reducible first | exact HB.out | apply zaf | apply zac | apply zad | refine zaj ?_ GE127.out) | exact HB.out))))
      (case aL => have := LMc20.out; omega)
      intro v140 w28 ho hb hg hat
      rw [← Ny139.out] at ho
      have n0_ := zaa.mk (zck (g := gb127) (o := .cells #[.slice A0_0 l0_0.length c0_0, .slice A0_1 l0_1.length c0_1, .slice A0_2 l0_2.length c0_2] 25 (0, 0)) (by (with_reducible repeat (first | refine zai ?_ _ | refine zae ?_ | refine zah ?_ _)); exact BK127.out) hg (Kd.R_ne HO138.out BK127.out (by decide)))
      have n1_ := zaa.mk (Kd.R_after (ok := (fun _ => True)) (by (with_reducible repeat (first | apply Kd.zbf | apply Kd.zbd | apply Kd.zbg)); exact HO132.out) hg hat)
      have n2_ := zaa.mk (hb)
      have n3_ := zaa.mk (ho)
      clear BK127
      clear HO132
      clear HB
      clear HO138
      have BK127 := n0_
      have HO132 := n1_
      have HB := n2_
      have HO141 := n3_
      clear n0_ n1_ n2_ n3_
      clear ho hb hg hat
      obtain ⟨Ao29, co29, eo29⟩ := Kd.zbv HO141.out
      (first | subst eo29 | (injection eo29 with f1_ f2_ f3_; have f4_ := f1_.symm; have f5_ := f3_.symm; clear f1_ f2_ f3_; subst f4_; subst f5_))
      refine hK.out _ _ ⟨(zab BK127.out 0).trans rfl, (zab BK127.out 1).trans rfl, (zab BK127.out 2).trans rfl⟩ (fun hHeld => ?_)
      clear hK K
      refine norm_ (a' := ?_) ?_ ?_
      rotate_left
      ·show Act.put _ (some 34) _ = _
       simp only [Act.put, Y1, Y2, Y3, i64_w, i32_w]
       rfl
      refine one_ (i := 6) (N := some 35) #[Yt,Yt,Yt,Yt,Yt,Yt,Yt,Nf] rfl rfl (one_of HT_.out (by kernel_rfl)) (by decide) (fun K hK => ?_)
      refine goes_ Try.func12 (by kernel_rfl) rfl #[.agg #[.slice A0_0 l0_0.length c0_0, .slice A0_1 l0_1.length c0_1, .slice A0_2 l0_2.length c0_2], .slice Ao29 y139.length co29] (by rfl) rfl rfl (by (try simp only [List.map_toArray, List.map_cons, List.map_nil]); first | done | rfl | (simp only [List.length_drop, List.length_take]; rfl)) ?_
      with_reducible refine (zbj.calls kj3 _ _ l0_0 _ _ l0_1 _ _ l0_2 _ _ y139 t142 _ ?side1 ?side2 ?side3 ?side4 ?side5 ?side6 ?side7 ?side8 A21.out).mono ?_
      (case side1 => repeat (first | exact (Kd.zay HR0_0.out HB.out) | (with_reducible refine Kd.za2 ?_ _) | (with_reducible refine Kd.za1 ?_ _) | (with_reducible refine Kd.za7 ?_)))
      (case side2 => exact HC0_0.out)
      (case side3 => repeat (first | exact (Kd.zay HR0_1.out HB.out) | (with_reducible refine Kd.za2 ?_ _) | (with_reducible refine Kd.za1 ?_ _) | (with_reducible refine Kd.za7 ?_)))
      (case side4 => exact HC0_1.out)
      (case side5 => repeat (first | exact (Kd.zay HR0_2.out HB.out) | (with_reducible refine Kd.za2 ?_ _) | (with_reducible refine Kd.za1 ?_ _) | (with_reducible refine Kd.za7 ?_)))
      (case side6 => exact HC0_2.out)
      (case side7 => repeat (first | exact (Kd.R_reads' HO141.out).2.2 | (with_reducible refine Kd.za2 ?_ _) | (with_reducible refine Kd.za1 ?_ _) | (with_reducible refine Kd.za7 ?_)))
      (case side8 => exact (Kd.R_reads' HO141.out).2.1)
      rintro e w30 ⟨v143, rfl, ho0, hb⟩
      refine ⟨_, rfl, ?_⟩
      have n0_ := zaa.mk (Kd.R_elder' (by (with_reducible repeat (first | apply Kd.zbf | apply Kd.zbd | apply Kd.zbg)); exact HO132.out) (Kd.R_base ho0) hb)
      have n1_ := zaa.mk (Kd.R_elder' (by (with_reducible repeat (first | apply Kd.zbf | apply Kd.zbd | apply Kd.zbg)); exact HO141.out) (Kd.R_base ho0) hb)
      have n2_ := zaa.mk (Kd.zb1 (Kd.R_new' (Kd.R_new' ho0 (Kd.R_lt (by (with_reducible repeat (first | apply Kd.zbf | apply Kd.zbd | apply Kd.zbg)); exact HO132.out))) (Kd.R_lt (by (with_reducible repeat (first | apply Kd.zbf | apply Kd.zbd | apply Kd.zbg)); exact HO141.out))) (zat (by repeat (first | (with_reducible first | exact HB.out | apply zaf | apply zac | apply zad | refine zaj ?_ GE127.out) | exact HB.out))))
      have n3_ := zaa.mk (zaq (g := gb127) (o := .cells #[.slice A0_0 l0_0.length c0_0, .slice A0_1 l0_1.length c0_1, .slice A0_2 l0_2.length c0_2] 25 (0, 0)) (by (with_reducible repeat (first | refine zai ?_ _ | refine zae ?_ | refine zah ?_ _)); exact BK127.out) hb)
      have n4_ := zaa.mk (zax (by repeat (first | (with_reducible first | exact HB.out | apply zaf | apply zac | apply zad | refine zaj ?_ GE127.out) | exact HB.out)) hb)
      clear HO132
      clear HO141
      clear BK127
      clear HB
      have HO132 := n0_
      have HO141 := n1_
      have HO144 := n2_
      have BK127 := n3_
      have HB := n4_
      clear n0_ n1_ n2_ n3_ n4_
      (try clear hb)
      (try clear hb2)
      (try clear hk)
      (try clear hi)
      (try clear ho0)
      refine hK.out _ _ ⟨(zab BK127.out 0).trans rfl, (zab BK127.out 1).trans rfl, (zab BK127.out 2).trans rfl⟩ (fun hHeld => ?_)
      clear hK K
      refine norm_ (a' := ?_) ?_ ?_
      rotate_left
      ·show Act.put _ (some 35) _ = _
       simp only [Act.put, Y1, Y2, Y3, i64_w, i32_w]
       rfl
      refine pure_ (i := 7) (N := some 8) (v := ?_) (a' := ?_) #[Yt,Yt,Yt,Yt,Yt,Yt,Yt,Yt] rfl rfl (zao HT_.out (by kernel_rfl)) (fun _ _ _ h => h) (Or.inl ⟨by rfl, ?_⟩) ?_ ?_
      rotate_left
      ·intro w'
       go_simp
       with_reducible rfl
      rotate_left
      ·simp only [Act.put, Y1, Y2, Y3, i64_w, i32_w]
       rfl
      refine done_ (done_of HT_.out (by kernel_rfl)) ?_
      obtain ⟨Ao31, co31, eo31⟩ := Kd.zbv HO144.out
      subst eo31
      try go_wp2
      go_loopg [9, 38] kj3 (fun kq v9 v38 w' => ∃ (x9_2 : Int) (x38_2 : Int), v9 = .int .i64 x9_2 ∧ v38 = .int .i64 x38_2 ∧ zaa (zan.l0 kq t130 x9_2 t142 (t142.length : Int) x38_2 l0_0 l0_1 l0_2 = some r) ∧ zaa (kq ≤ kj3) ∧ zaa (Kd.R k39 39 w' w.heap.size (fun k_ => some k_ ≠ ((.slice Ao31 t142.length co31) : Value).ownBlock) v131 t130) ∧ zaa (Kd.R k39 39 w' w.heap.size (fun k_ => some k_ ≠ (v131 : Value).ownBlock) (.slice Ao31 t142.length co31) t142) ∧ zaa (w'.heap[gb127]? = some (.cells #[(.slice A0_0 l0_0.length c0_0), (.slice A0_1 l0_1.length c0_1), (.slice A0_2 l0_2.length c0_2)] 25 (0, 0))) ∧ zaa (Below w.heap.size w w'))
      case atStart => exact ⟨(0), (0), (by first | rfl | (simp; done) | (simp [*]; done)), (by first | rfl | (simp; done) | (simp [*]; done)), H', ⟨Nat.le_refl _⟩, ⟨by (with_reducible repeat (first | apply Kd.zbf | apply Kd.zbd | apply Kd.zbg)); exact Kd.zbn HO132.out (fun _ hk => hk.2)⟩, ⟨by (with_reducible repeat (first | apply Kd.zbf | apply Kd.zbd | apply Kd.zbg)); exact Kd.zbn HO144.out (fun _ hk => hk.1.2)⟩, ⟨by (with_reducible repeat (first | refine zai ?_ _ | refine zae ?_ | refine zah ?_ _)); exact BK127.out⟩, ⟨by repeat (first | (with_reducible first | exact HB.out | apply zaf | apply zac | apply zad | refine zaj ?_ GE127.out) | exact HB.out)⟩⟩
      case round =>
       clear H'
       try clear c1
       try clear c2
       try clear p2
       try clear c4
       try clear c5
       try clear c6
       try clear c7
       try clear c8
       try clear c8b0
       try clear c8b1
       try clear c12
       try clear c15
       try clear c19
       try clear c20
       try clear hcz11_0
       try clear hcz11_1
       try clear hcz11_2
       try clear hcz13_0
       try clear hcz13_1
       try clear hcz13_2
       try clear hcz22_0
       try clear hcz22_1
       try clear hcz22_2
       try clear hcz9_0
       try clear hcz9_1
       try clear hcz9_2
       try clear hfz11_0
       try clear hfz11_1
       try clear hfz11_2
       try clear hfz13_0
       try clear hfz13_1
       try clear hfz13_2
       try clear hfz22_0
       try clear hfz22_1
       try clear hfz22_2
       try clear hfz9_0
       try clear hfz9_1
       try clear hfz9_2
       try clear p2
       obtain ⟨x9_2, x38_2, rfl, rfl, HA, HK2, HO_7, HO_36, BK127, HB⟩ := hrel
       cases gk with
       | zero => exact absurd HA.out (by simp [zan.l0])
       | succ k2 =>
        have H := HA.out
        clear HA
        simp only [zan.l0] at H
        by_cases c32 : x38_2 < (t142.length : Int)
        ·rw [if_pos c32] at H
         have c32b0 : decide (x38_2 < (t142.length : Int)) = true := decide_eq_true c32
         clear c32
         by_cases c33 : 0 ≤ x38_2
         ·rw [if_pos c33] at H
          have c33b0 : decide (0 ≤ x38_2) = true := decide_eq_true c33
          clear c33
          by_cases c34 : x38_2 < (t142.length : Int)
          ·rw [if_pos c34] at H
           have c34b0 : decide (x38_2 < (t142.length : Int)) = true := decide_eq_true c34
           clear c34
           by_cases c35 : x9_2 < (t130.length : Int)
           ·rw [if_pos c35] at H
            have c35b0 : decide (x9_2 < (t130.length : Int)) = true := decide_eq_true c35
            clear c35
            by_cases c36 : 0 ≤ x9_2
            ·rw [if_pos c36] at H
             have c36b0 : decide (0 ≤ x9_2) = true := decide_eq_true c36
             clear c36
             by_cases c37 : (((zas t130 x9_2).f0) == ((zas t142 x38_2).f0) && (((zas t130 x9_2).f1) == ((zas t142 x38_2).f1) && (((zas t130 x9_2).f2) == ((zas t142 x38_2).f2)))) = true
             ·rw [if_pos c37] at H
              have c37b0 : (((zas t130 x9_2).f0) == ((zas t142 x38_2).f0) && (((zas t130 x9_2).f1) == ((zas t142 x38_2).f1) && (((zas t130 x9_2).f2) == ((zas t142 x38_2).f2)))) = true := c37
              (try (have c37b1 : decide (((zas t130 x9_2).f0) = ((zas t142 x38_2).f0) && (((zas t130 x9_2).f1) == ((zas t142 x38_2).f1) && (((zas t130 x9_2).f2) == ((zas t142 x38_2).f2)))) = true := by simpa using c37))
              (try (have c37b2 : (((zas t130 x9_2).f0) == ((zas t142 x38_2).f0) && (((zas t130 x9_2).f1) == ((zas t142 x38_2).f1) && (((zas t130 x9_2).f2) == ((zas t142 x38_2).f2)))) = true := by simpa using c37))
              clear c37
              have H' := zaa.mk H
              clear H
              have p145 : 0 ≤ (x38_2 : Int) := of_decide_eq_true (by first | (with_reducible assumption) | assumption)
              have q145 : x38_2 < (t142.length : Int) := of_decide_eq_true (by first | (with_reducible assumption) | assumption)
              obtain ⟨ad145, e145, hx145_0, hx145_1, hx145_2⟩ := at_T39 (Kd.R_reads' HO_36.out).2.2 x38_2 p145 q145
              cases e145
              replace p145 := eq_true p145
              replace q145 := eq_true q145
              try go_wp2_with (first | ((with_reducible refine zba (N := 11) rfl ?_); (try (refine zbc (by rfl) ?_; dsimp only)); refine za9 ?hg (N := 11) ?hd (cs := #[.int .i64 0, .int .i64 0, .int .i64 0]) (t := 39) ?hr ?_; (case hd => rfl); (case hg => rfl); (case hr => first | (go_simp; done) | (go_simp; rfl)); intro gb146 hg w38 hbox hb; have n0_ := zaa.mk (Kd.zbq (Kd.R_elderB (by (with_reducible repeat (first | apply Kd.zbf | apply Kd.zbd | apply Kd.zbg)); exact HO_7.out) gb146 (Nat.le_of_eq hg.symm)) hb); have n1_ := zaa.mk (Kd.zbq (Kd.R_elderB (by (with_reducible repeat (first | apply Kd.zbf | apply Kd.zbd | apply Kd.zbg)); exact HO_36.out) gb146 (Nat.le_of_eq hg.symm)) hb); have n2_ := zaa.mk (zaq (g := gb127) (o := .cells #[.slice A0_0 l0_0.length c0_0, .slice A0_1 l0_1.length c0_1, .slice A0_2 l0_2.length c0_2] 25 (0, 0)) (by (with_reducible repeat (first | refine zai ?_ _ | refine zae ?_ | refine zah ?_ _)); exact BK127.out) hb); have n3_ := zaa.mk (zax (by repeat (first | (with_reducible first | exact HB.out | apply zaf | apply zac | apply zad | refine zaj ?_ GE127.out) | exact HB.out)) hb); have n4_ := zaa.mk (hbox); have n5_ := zaa.mk ((by rw [hg]; exact (zat (by repeat (first | (with_reducible first | exact HB.out | apply zaf | apply zac | apply zad | refine zaj ?_ GE127.out) | exact HB.out))) : w.heap.size ≤ gb146)); have n6_ := zaa.mk ((by rw [hg]; exact (zat (by repeat (first | (with_reducible first | exact HB.out | apply zaf | apply zac | apply zad | refine zaj ?_ GE127.out) | exact HB.out))) : w.heap.size ≤ gb146)); have n7_ := zaa.mk ((by rw [hg]; exact Nat.ne_of_lt (zaw (g := gb127) (o := .cells #[.slice A0_0 l0_0.length c0_0, .slice A0_1 l0_1.length c0_1, .slice A0_2 l0_2.length c0_2] 25 (0, 0)) (by (with_reducible repeat (first | refine zai ?_ _ | refine zae ?_ | refine zah ?_ _)); exact BK127.out)) : gb127 ≠ gb146)); have n8_ := zaa.mk ((by rw [hg]; exact Nat.ne_of_gt (zaw (g := gb127) (o := .cells #[.slice A0_0 l0_0.length c0_0, .slice A0_1 l0_1.length c0_1, .slice A0_2 l0_2.length c0_2] 25 (0, 0)) (by (with_reducible repeat (first | refine zai ?_ _ | refine zae ?_ | refine zah ?_ _)); exact BK127.out)) : gb146 ≠ gb127)); clear HO_7; clear HO_36; clear BK127; clear HB; have HO_7 := n0_; have HO_36 := n1_; have BK127 := n2_; have HB := n3_; have BK146 := n4_; have GW146 := n5_; have GE146 := n6_; have NB127_146 := n7_; have NB146_127 := n8_; clear n0_ n1_ n2_ n3_ n4_ n5_ n6_ n7_ n8_; clear hb hbox hg; have hnb39 := NB146_127.out; have hnc39 := NB127_146.out; have hcz40_0 : w38.cell? ⟨gb146, 0, none⟩ = some (.int .i64 0) := (zab BK146.out 0).trans rfl; have hcz40_1 : w38.cell? ⟨gb146, 1, none⟩ = some (.int .i64 0) := (zab BK146.out 1).trans rfl; have hcz40_2 : w38.cell? ⟨gb146, 2, none⟩ = some (.int .i64 0) := (zab BK146.out 2).trans rfl; have hfz40_0 := zak BK146.out 0; have hfz40_1 := zak BK146.out 1; have hfz40_2 := zak BK146.out 2))
              have n0_ : zaa (Kd.R k39 39 (((w38.setCell ⟨gb146, 0, none⟩ (.int .i64 ((zas t142 x38_2).f0))).setCell ⟨gb146, 1, none⟩ (.int .i64 ((zas t142 x38_2).f1))).setCell ⟨gb146, 2, none⟩ (.int .i64 ((zas t142 x38_2).f2))) w.heap.size (fun k_ => some k_ ≠ (.slice (some ad145) t142.length co31 : Value).ownBlock ∧ k_ ≠ gb146) v131 t130) := ⟨by (with_reducible repeat (first | apply Kd.zbf | apply Kd.zbd | apply Kd.zbg)); exact Kd.zbn (Kd.R_far (p := ⟨gb146, 2, none⟩) (Kd.R_far (p := ⟨gb146, 1, none⟩) (Kd.R_far (p := ⟨gb146, 0, none⟩) (Kd.zbn HO_7.out (fun k_ hk => (⟨hk, hk.2⟩ : _ ∧ k_ ≠ gb146))) (fun _ hk => hk.2) (.int .i64 ((zas t142 x38_2).f0))) (fun _ hk => hk.2) (.int .i64 ((zas t142 x38_2).f1))) (fun _ hk => hk.2) (.int .i64 ((zas t142 x38_2).f2))) (fun _ hk => ⟨hk.1.1, hk.1.2⟩)⟩
              have n1_ : zaa (Kd.R k39 39 (((w38.setCell ⟨gb146, 0, none⟩ (.int .i64 ((zas t142 x38_2).f0))).setCell ⟨gb146, 1, none⟩ (.int .i64 ((zas t142 x38_2).f1))).setCell ⟨gb146, 2, none⟩ (.int .i64 ((zas t142 x38_2).f2))) w.heap.size (fun k_ => some k_ ≠ (v131 : Value).ownBlock ∧ k_ ≠ gb146) (.slice (some ad145) t142.length co31) t142) := ⟨by (with_reducible repeat (first | apply Kd.zbf | apply Kd.zbd | apply Kd.zbg)); exact Kd.zbn (Kd.R_far (p := ⟨gb146, 2, none⟩) (Kd.R_far (p := ⟨gb146, 1, none⟩) (Kd.R_far (p := ⟨gb146, 0, none⟩) (Kd.zbn HO_36.out (fun k_ hk => (⟨hk, hk.2⟩ : _ ∧ k_ ≠ gb146))) (fun _ hk => hk.2) (.int .i64 ((zas t142 x38_2).f0))) (fun _ hk => hk.2) (.int .i64 ((zas t142 x38_2).f1))) (fun _ hk => hk.2) (.int .i64 ((zas t142 x38_2).f2))) (fun _ hk => ⟨hk.1.1, hk.1.2⟩)⟩
              have n2_ : zaa ((((w38.setCell ⟨gb146, 0, none⟩ (.int .i64 ((zas t142 x38_2).f0))).setCell ⟨gb146, 1, none⟩ (.int .i64 ((zas t142 x38_2).f1))).setCell ⟨gb146, 2, none⟩ (.int .i64 ((zas t142 x38_2).f2))).heap[gb127]? = some (.cells #[.slice A0_0 l0_0.length c0_0, .slice A0_1 l0_1.length c0_1, .slice A0_2 l0_2.length c0_2] 25 (0, 0))) := ⟨by (with_reducible repeat (first | refine zai ?_ _ | refine zae ?_ | refine zah ?_ _)); refine zbh ?_ NB127_146.out _; (with_reducible repeat (first | refine zai ?_ _ | refine zae ?_ | refine zah ?_ _)); refine zbh ?_ NB127_146.out _; (with_reducible repeat (first | refine zai ?_ _ | refine zae ?_ | refine zah ?_ _)); refine zbh ?_ NB127_146.out _; (with_reducible repeat (first | refine zai ?_ _ | refine zae ?_ | refine zah ?_ _)); exact BK127.out⟩
              have n3_ : zaa ((((w38.setCell ⟨gb146, 0, none⟩ (.int .i64 ((zas t142 x38_2).f0))).setCell ⟨gb146, 1, none⟩ (.int .i64 ((zas t142 x38_2).f1))).setCell ⟨gb146, 2, none⟩ (.int .i64 ((zas t142 x38_2).f2))).heap[gb146]? = some (.cells #[.int .i64 ((zas t142 x38_2).f0), .int .i64 ((zas t142 x38_2).f1), .int .i64 ((zas t142 x38_2).f2)] 39 (0, 0))) := ⟨by (with_reducible repeat (first | refine zai ?_ _ | refine zae ?_ | refine zah ?_ _)); refine zbm (cs := #[.int .i64 ((zas t142 x38_2).f0), .int .i64 ((zas t142 x38_2).f1), .int .i64 0]) ?_ 2 _ rfl; (with_reducible repeat (first | refine zai ?_ _ | refine zae ?_ | refine zah ?_ _)); refine zbm (cs := #[.int .i64 ((zas t142 x38_2).f0), .int .i64 0, .int .i64 0]) ?_ 1 _ rfl; (with_reducible repeat (first | refine zai ?_ _ | refine zae ?_ | refine zah ?_ _)); refine zbm (cs := #[.int .i64 0, .int .i64 0, .int .i64 0]) ?_ 0 _ rfl; (with_reducible repeat (first | refine zai ?_ _ | refine zae ?_ | refine zah ?_ _)); exact BK146.out⟩
              have n4_ : zaa (Below w.heap.size w (((w38.setCell ⟨gb146, 0, none⟩ (.int .i64 ((zas t142 x38_2).f0))).setCell ⟨gb146, 1, none⟩ (.int .i64 ((zas t142 x38_2).f1))).setCell ⟨gb146, 2, none⟩ (.int .i64 ((zas t142 x38_2).f2)))) := ⟨by repeat (first | (with_reducible first | exact HB.out | apply zaf | apply zac | apply zad | refine zaj ?_ GE127.out | refine zaj ?_ GE146.out) | exact HB.out)⟩
              (try clear HO_7)
              (try clear HO_36)
              (try clear BK127)
              (try clear BK146)
              (try clear HB)
              generalize (((w38.setCell ⟨gb146, 0, none⟩ (.int .i64 ((zas t142 x38_2).f0))).setCell ⟨gb146, 1, none⟩ (.int .i64 ((zas t142 x38_2).f1))).setCell ⟨gb146, 2, none⟩ (.int .i64 ((zas t142 x38_2).f2))) = w41 at n0_ n1_ n2_ n3_ n4_ ⊢
              have HO_7 := n0_
              have HO_36 := n1_
              have BK127 := n2_
              have BK146 := n3_
              have HB := n4_
              clear n0_ n1_ n2_ n3_ n4_
              have n0_ := zaa.mk (Kd.zbg HO_7.out)
              have n1_ := zaa.mk (Kd.zbg HO_36.out)
              have n2_ := zaa.mk (zae BK127.out)
              have n3_ := zaa.mk (zae BK146.out)
              have n4_ := zaa.mk (zad HB.out)
              clear HO_7
              clear HO_36
              clear BK127
              clear BK146
              clear HB
              have HO_7 := n0_
              have HO_36 := n1_
              have BK127 := n2_
              have BK146 := n3_
              have HB := n4_
              clear n0_ n1_ n2_ n3_ n4_
              obtain ⟨Ao43, co43, eo43⟩ := Kd.zbv HO_7.out
              (first | subst eo43 | (injection eo43 with f1_ f2_ f3_; have f4_ := f1_.symm; have f5_ := f3_.symm; clear f1_ f2_ f3_; subst f4_; subst f5_))
              have p147 : 0 ≤ (x9_2 : Int) := of_decide_eq_true (by first | (with_reducible assumption) | assumption)
              have q147 : x9_2 < (t130.length : Int) := of_decide_eq_true (by first | (with_reducible assumption) | assumption)
              obtain ⟨ad147, e147, hx147_0, hx147_1, hx147_2⟩ := at_T39 (Kd.R_reads' HO_7.out).2.2 x9_2 p147 q147
              cases e147
              replace p147 := eq_true p147
              replace q147 := eq_true q147
              refine zbs (n := 12) (S := fun w' => w'.cell? ⟨gb146, 0, none⟩ = some (.int .i64 ((zas t142 x38_2).f0)) ∧ w'.cell? ⟨gb146, 1, none⟩ = some (.int .i64 ((zas t142 x38_2).f1)) ∧ w'.cell? ⟨gb146, 2, none⟩ = some (.int .i64 ((zas t142 x38_2).f2)) ∧ w'.cell? (ad147.add ((x9_2).toNat * 3)) = some (.int .i64 ((zas t130 x9_2).f0)) ∧ w'.cell? ⟨(ad147.add ((x9_2).toNat * 3)).block, (ad147.add ((x9_2).toNat * 3)).off + 1, none⟩ = some (.int .i64 ((zas t130 x9_2).f1)) ∧ w'.cell? ⟨(ad147.add ((x9_2).toNat * 3)).block, (ad147.add ((x9_2).toNat * 3)).off + 2, none⟩ = some (.int .i64 ((zas t130 x9_2).f2))) (ds := []) #[Nf,Nf,Nf,Nf,Nf,Nf,Nf,Nf,Nf,Nf,Nf,Nf] (by kernel_rfl) rfl rfl ⟨(zab BK146.out 0).trans rfl, (zab BK146.out 1).trans rfl, (zab BK146.out 2).trans rfl, hx147_0, hx147_1, hx147_2⟩ (fun hHeld => ?_); refine zcc zan.tab9 zan.bits9 (fun HT_ HW_ => ?_)
              generalize w41.drew = w42 at HO_7 HO_36 BK127 BK146 HB hx147_0 hx147_1 hx147_2 hHeld ⊢
              refine pure_ (i := 0) (N := some 42) (v := ?_) (a' := ?_) #[Yt,Nf,Nf,Nf,Nf,Nf,Nf,Nf,Nf,Nf,Nf,Nf] rfl rfl (zao HT_.out (by kernel_rfl)) (fun _ _ _ h => h) (Or.inl ⟨by rfl, ?_⟩) ?_ ?_
              rotate_left
              ·intro w'
               go_simp
               with_reducible rfl
              rotate_left
              ·simp only [Act.put, Y1, Y2, Y3, i64_w, i32_w]
               rfl
              refine pure_ (i := 1) (N := some 43) (v := ?_) (a' := ?_) #[Yt,Yt,Nf,Nf,Nf,Nf,Nf,Nf,Nf,Nf,Nf,Nf] rfl rfl (zao HT_.out (by kernel_rfl)) (fun _ _ _ h => h) (Or.inl ⟨by rfl, ?_⟩) ?_ ?_
              rotate_left
              ·intro w'
               go_simp
               with_reducible rfl
              rotate_left
              ·simp only [Act.put, Y1, Y2, Y3, i64_w, i32_w]
               rfl
              refine pure_ (i := 2) (N := some 44) (v := ?_) (a' := ?_) #[Yt,Yt,Yt,Nf,Nf,Nf,Nf,Nf,Nf,Nf,Nf,Nf] rfl rfl (zao HT_.out (by kernel_rfl)) (fun _ _ _ h => h) (Or.inl ⟨by rfl, ?_⟩) ?_ ?_
              rotate_left
              ·intro w'
               go_simp
               with_reducible rfl
              rotate_left
              ·simp only [Act.put, Y1, Y2, Y3, i64_w, i32_w]
               rfl
              refine pure_ (i := 3) (N := some 45) (v := ?_) (a' := ?_) #[Yt,Yt,Yt,Yt,Nf,Nf,Nf,Nf,Nf,Nf,Nf,Nf] rfl rfl (zao HT_.out (by kernel_rfl)) (fun _ _ _ h => h) (Or.inl ⟨by rfl, ?_⟩) ?_ ?_
              rotate_left
              ·intro w'
               go_simp
               with_reducible rfl
              rotate_left
              ·simp only [Act.put, Y1, Y2, Y3, i64_w, i32_w]
               rfl
              refine pure_ (i := 4) (N := some 46) (v := ?_) (a' := ?_) #[Yt,Yt,Yt,Yt,Yt,Nf,Nf,Nf,Nf,Nf,Nf,Nf] rfl rfl (zao HT_.out (by kernel_rfl)) (fun _ _ _ h => h) (Or.inl ⟨by rfl, ?_⟩) ?_ ?_
              rotate_left
              ·intro w'
               go_simp
               with_reducible rfl
              rotate_left
              ·simp only [Act.put, Y1, Y2, Y3, i64_w, i32_w]
               rfl
              refine pure_ (i := 5) (N := some 47) (v := ?_) (a' := ?_) #[Yt,Yt,Yt,Yt,Yt,Yt,Nf,Nf,Nf,Nf,Nf,Nf] rfl rfl (zao HT_.out (by kernel_rfl)) (fun _ _ _ h => h) (Or.inl ⟨by rfl, ?_⟩) ?_ ?_
              rotate_left
              ·intro w'
               go_simp
               with_reducible rfl
              rotate_left
              ·simp only [Act.put, Y1, Y2, Y3, i64_w, i32_w]
               rfl
              refine pure_ (i := 6) (N := some 48) (v := ?_) (a' := ?_) #[Yt,Yt,Yt,Yt,Yt,Yt,Yt,Nf,Nf,Nf,Nf,Nf] rfl rfl (zao HT_.out (by kernel_rfl)) (fun _ _ _ h => h) (Or.inl ⟨by rfl, ?_⟩) ?_ ?_
              rotate_left
              ·intro w'
               go_simp
               with_reducible rfl
              rotate_left
              ·simp only [Act.put, Y1, Y2, Y3, i64_w, i32_w]
               rfl
              refine pure_ (i := 7) (N := some 49) (v := ?_) (a' := ?_) #[Yt,Yt,Yt,Yt,Yt,Yt,Yt,Yt,Nf,Nf,Nf,Nf] rfl rfl (zao HT_.out (by kernel_rfl)) (fun _ _ _ h => h) (Or.inl ⟨by rfl, ?_⟩) ?_ ?_
              rotate_left
              ·intro w'
               go_simp
               with_reducible rfl
              rotate_left
              ·simp only [Act.put, Y1, Y2, Y3, i64_w, i32_w]
               rfl
              refine take_ (i := 8) (N := some 50) (v := ?_) (a' := ?_) #[Yt,Yt,Yt,Yt,Yt,Yt,Yt,Yt,Yt,Nf,Nf,Nf] rfl rfl (zbi HT_.out HW_.out (by kernel_rfl)) (fun _ _ _ h => h) (Or.inl ⟨by rfl, ?_⟩) hHeld ?_ ?_
              rotate_left
              ·rintro w' ⟨s0, s1, s2, s3, s4, s5⟩
               go_simp
               with_reducible rfl
              rotate_left
              ·simp only [Act.put, Y1, Y2, Y3, i64_w, i32_w]
               rfl
              refine take_ (i := 9) (N := some 51) (v := ?_) (a' := ?_) #[Yt,Yt,Yt,Yt,Yt,Yt,Yt,Yt,Yt,Yt,Nf,Nf] rfl rfl (zbi HT_.out HW_.out (by kernel_rfl)) (fun _ _ _ h => h) (Or.inl ⟨by rfl, ?_⟩) hHeld ?_ ?_
              rotate_left
              ·rintro w' ⟨s0, s1, s2, s3, s4, s5⟩
               go_simp
               with_reducible rfl
              rotate_left
              ·simp only [Act.put, Y1, Y2, Y3, i64_w, i32_w]
               rfl
              refine pure_ (i := 10) (N := some 52) (v := ?_) (a' := ?_) #[Yt,Yt,Yt,Yt,Yt,Yt,Yt,Yt,Yt,Yt,Yt,Nf] rfl rfl (zao HT_.out (by kernel_rfl)) (fun _ _ _ h => h) (Or.inl ⟨by rfl, ?_⟩) ?_ ?_
              rotate_left
              ·intro w'
               go_simp
               with_reducible rfl
              rotate_left
              ·simp only [Act.put, Y1, Y2, Y3, i64_w, i32_w]
               rfl
              refine pure_ (i := 11) (N := some 53) (v := ?_) (a' := ?_) #[Yt,Yt,Yt,Yt,Yt,Yt,Yt,Yt,Yt,Yt,Yt,Yt] rfl rfl (zao HT_.out (by kernel_rfl)) (fun _ _ _ h => h) (Or.inl ⟨by rfl, ?_⟩) ?_ ?_
              rotate_left
              ·intro w'
               go_simp
               with_reducible rfl
              rotate_left
              ·simp only [Act.put, Y1, Y2, Y3, i64_w, i32_w]
               rfl
              refine done_ (done_of HT_.out (by kernel_rfl)) ?_
              try go_wp2
              go_roundg k2
              case measure => have := HJ3.out; have := HK2.out; omega
              case rel => exact ⟨(wrap64 (x9_2 + 1)), (wrap64 (x38_2 + 1)), (by first | rfl | (simp; done) | (simp [*]; done)), (by first | rfl | (simp; done) | (simp [*]; done)), H', ⟨by have := HJ3.out; have := HK2.out; omega⟩, ⟨by (with_reducible repeat (first | apply Kd.zbf | apply Kd.zbd | apply Kd.zbg)); exact Kd.zbn HO_7.out (fun _ hk => hk.1)⟩, ⟨by (with_reducible repeat (first | apply Kd.zbf | apply Kd.zbd | apply Kd.zbg)); exact Kd.zbn HO_36.out (fun _ hk => hk.1)⟩, ⟨by (with_reducible repeat (first | refine zai ?_ _ | refine zae ?_ | refine zah ?_ _)); exact BK127.out⟩, ⟨by repeat (first | (with_reducible first | exact HB.out | apply zaf | apply zac | apply zad | refine zaj ?_ GE127.out | refine zaj ?_ GE146.out) | exact HB.out)⟩⟩
             ·rw [if_neg c37] at H
              have c37b0 : (((zas t130 x9_2).f0) == ((zas t142 x38_2).f0) && (((zas t130 x9_2).f1) == ((zas t142 x38_2).f1) && (((zas t130 x9_2).f2) == ((zas t142 x38_2).f2)))) = false := by simpa using c37
              (try (have c37b1 : decide (((zas t130 x9_2).f0) = ((zas t142 x38_2).f0) && (((zas t130 x9_2).f1) == ((zas t142 x38_2).f1) && (((zas t130 x9_2).f2) == ((zas t142 x38_2).f2)))) = false := by simpa using c37))
              (try (have c37b2 : (((zas t130 x9_2).f0) == ((zas t142 x38_2).f0) && (((zas t130 x9_2).f1) == ((zas t142 x38_2).f1) && (((zas t130 x9_2).f2) == ((zas t142 x38_2).f2)))) = false := by simpa using c37))
              (try (have c37b3 : ¬ (((zas t130 x9_2).f0) = ((zas t142 x38_2).f0) && (((zas t130 x9_2).f1) == ((zas t142 x38_2).f1) && (((zas t130 x9_2).f2) == ((zas t142 x38_2).f2)))) := by simpa using c37))
              clear c37
              have H' := zaa.mk H
              clear H
              have p145 : 0 ≤ (x38_2 : Int) := of_decide_eq_true (by first | (with_reducible assumption) | assumption)
              have q145 : x38_2 < (t142.length : Int) := of_decide_eq_true (by first | (with_reducible assumption) | assumption)
              obtain ⟨ad145, e145, hx145_0, hx145_1, hx145_2⟩ := at_T39 (Kd.R_reads' HO_36.out).2.2 x38_2 p145 q145
              cases e145
              replace p145 := eq_true p145
              replace q145 := eq_true q145
              try go_wp2_with (first | ((with_reducible refine zba (N := 11) rfl ?_); (try (refine zbc (by rfl) ?_; dsimp only)); refine za9 ?hg (N := 11) ?hd (cs := #[.int .i64 0, .int .i64 0, .int .i64 0]) (t := 39) ?hr ?_; (case hd => rfl); (case hg => rfl); (case hr => first | (go_simp; done) | (go_simp; rfl)); intro gb146 hg w44 hbox hb; have n0_ := zaa.mk (Kd.zbq (Kd.R_elderB (by (with_reducible repeat (first | apply Kd.zbf | apply Kd.zbd | apply Kd.zbg)); exact HO_7.out) gb146 (Nat.le_of_eq hg.symm)) hb); have n1_ := zaa.mk (Kd.zbq (Kd.R_elderB (by (with_reducible repeat (first | apply Kd.zbf | apply Kd.zbd | apply Kd.zbg)); exact HO_36.out) gb146 (Nat.le_of_eq hg.symm)) hb); have n2_ := zaa.mk (zaq (g := gb127) (o := .cells #[.slice A0_0 l0_0.length c0_0, .slice A0_1 l0_1.length c0_1, .slice A0_2 l0_2.length c0_2] 25 (0, 0)) (by (with_reducible repeat (first | refine zai ?_ _ | refine zae ?_ | refine zah ?_ _)); exact BK127.out) hb); have n3_ := zaa.mk (zax (by repeat (first | (with_reducible first | exact HB.out | apply zaf | apply zac | apply zad | refine zaj ?_ GE127.out) | exact HB.out)) hb); have n4_ := zaa.mk (hbox); have n5_ := zaa.mk ((by rw [hg]; exact (zat (by repeat (first | (with_reducible first | exact HB.out | apply zaf | apply zac | apply zad | refine zaj ?_ GE127.out) | exact HB.out))) : w.heap.size ≤ gb146)); have n6_ := zaa.mk ((by rw [hg]; exact (zat (by repeat (first | (with_reducible first | exact HB.out | apply zaf | apply zac | apply zad | refine zaj ?_ GE127.out) | exact HB.out))) : w.heap.size ≤ gb146)); have n7_ := zaa.mk ((by rw [hg]; exact Nat.ne_of_lt (zaw (g := gb127) (o := .cells #[.slice A0_0 l0_0.length c0_0, .slice A0_1 l0_1.length c0_1, .slice A0_2 l0_2.length c0_2] 25 (0, 0)) (by (with_reducible repeat (first | refine zai ?_ _ | refine zae ?_ | refine zah ?_ _)); exact BK127.out)) : gb127 ≠ gb146)); have n8_ := zaa.mk ((by rw [hg]; exact Nat.ne_of_gt (zaw (g := gb127) (o := .cells #[.slice A0_0 l0_0.length c0_0, .slice A0_1 l0_1.length c0_1, .slice A0_2 l0_2.length c0_2] 25 (0, 0)) (by (with_reducible repeat (first | refine zai ?_ _ | refine zae ?_ | refine zah ?_ _)); exact BK127.out)) : gb146 ≠ gb127)); clear HO_7; clear HO_36; clear BK127; clear HB; have HO_7 := n0_; have HO_36 := n1_; have BK127 := n2_; have HB := n3_; have BK146 := n4_; have GW146 := n5_; have GE146 := n6_; have NB127_146 := n7_; have NB146_127 := n8_; clear n0_ n1_ n2_ n3_ n4_ n5_ n6_ n7_ n8_; clear hb hbox hg; have hnb45 := NB146_127.out; have hnc45 := NB127_146.out; have hcz46_0 : w44.cell? ⟨gb146, 0, none⟩ = some (.int .i64 0) := (zab BK146.out 0).trans rfl; have hcz46_1 : w44.cell? ⟨gb146, 1, none⟩ = some (.int .i64 0) := (zab BK146.out 1).trans rfl; have hcz46_2 : w44.cell? ⟨gb146, 2, none⟩ = some (.int .i64 0) := (zab BK146.out 2).trans rfl; have hfz46_0 := zak BK146.out 0; have hfz46_1 := zak BK146.out 1; have hfz46_2 := zak BK146.out 2))
              have n0_ : zaa (Kd.R k39 39 (((w44.setCell ⟨gb146, 0, none⟩ (.int .i64 ((zas t142 x38_2).f0))).setCell ⟨gb146, 1, none⟩ (.int .i64 ((zas t142 x38_2).f1))).setCell ⟨gb146, 2, none⟩ (.int .i64 ((zas t142 x38_2).f2))) w.heap.size (fun k_ => some k_ ≠ (.slice (some ad145) t142.length co31 : Value).ownBlock ∧ k_ ≠ gb146) v131 t130) := ⟨by (with_reducible repeat (first | apply Kd.zbf | apply Kd.zbd | apply Kd.zbg)); exact Kd.zbn (Kd.R_far (p := ⟨gb146, 2, none⟩) (Kd.R_far (p := ⟨gb146, 1, none⟩) (Kd.R_far (p := ⟨gb146, 0, none⟩) (Kd.zbn HO_7.out (fun k_ hk => (⟨hk, hk.2⟩ : _ ∧ k_ ≠ gb146))) (fun _ hk => hk.2) (.int .i64 ((zas t142 x38_2).f0))) (fun _ hk => hk.2) (.int .i64 ((zas t142 x38_2).f1))) (fun _ hk => hk.2) (.int .i64 ((zas t142 x38_2).f2))) (fun _ hk => ⟨hk.1.1, hk.1.2⟩)⟩
              have n1_ : zaa (Kd.R k39 39 (((w44.setCell ⟨gb146, 0, none⟩ (.int .i64 ((zas t142 x38_2).f0))).setCell ⟨gb146, 1, none⟩ (.int .i64 ((zas t142 x38_2).f1))).setCell ⟨gb146, 2, none⟩ (.int .i64 ((zas t142 x38_2).f2))) w.heap.size (fun k_ => some k_ ≠ (v131 : Value).ownBlock ∧ k_ ≠ gb146) (.slice (some ad145) t142.length co31) t142) := ⟨by (with_reducible repeat (first | apply Kd.zbf | apply Kd.zbd | apply Kd.zbg)); exact Kd.zbn (Kd.R_far (p := ⟨gb146, 2, none⟩) (Kd.R_far (p := ⟨gb146, 1, none⟩) (Kd.R_far (p := ⟨gb146, 0, none⟩) (Kd.zbn HO_36.out (fun k_ hk => (⟨hk, hk.2⟩ : _ ∧ k_ ≠ gb146))) (fun _ hk => hk.2) (.int .i64 ((zas t142 x38_2).f0))) (fun _ hk => hk.2) (.int .i64 ((zas t142 x38_2).f1))) (fun _ hk => hk.2) (.int .i64 ((zas t142 x38_2).f2))) (fun _ hk => ⟨hk.1.1, hk.1.2⟩)⟩
              have n2_ : zaa ((((w44.setCell ⟨gb146, 0, none⟩ (.int .i64 ((zas t142 x38_2).f0))).setCell ⟨gb146, 1, none⟩ (.int .i64 ((zas t142 x38_2).f1))).setCell ⟨gb146, 2, none⟩ (.int .i64 ((zas t142 x38_2).f2))).heap[gb127]? = some (.cells #[.slice A0_0 l0_0.length c0_0, .slice A0_1 l0_1.length c0_1, .slice A0_2 l0_2.length c0_2] 25 (0, 0))) := ⟨by (with_reducible repeat (first | refine zai ?_ _ | refine zae ?_ | refine zah ?_ _)); refine zbh ?_ NB127_146.out _; (with_reducible repeat (first | refine zai ?_ _ | refine zae ?_ | refine zah ?_ _)); refine zbh ?_ NB127_146.out _; (with_reducible repeat (first | refine zai ?_ _ | refine zae ?_ | refine zah ?_ _)); refine zbh ?_ NB127_146.out _; (with_reducible repeat (first | refine zai ?_ _ | refine zae ?_ | refine zah ?_ _)); exact BK127.out⟩
              have n3_ : zaa ((((w44.setCell ⟨gb146, 0, none⟩ (.int .i64 ((zas t142 x38_2).f0))).setCell ⟨gb146, 1, none⟩ (.int .i64 ((zas t142 x38_2).f1))).setCell ⟨gb146, 2, none⟩ (.int .i64 ((zas t142 x38_2).f2))).heap[gb146]? = some (.cells #[.int .i64 ((zas t142 x38_2).f0), .int .i64 ((zas t142 x38_2).f1), .int .i64 ((zas t142 x38_2).f2)] 39 (0, 0))) := ⟨by (with_reducible repeat (first | refine zai ?_ _ | refine zae ?_ | refine zah ?_ _)); refine zbm (cs := #[.int .i64 ((zas t142 x38_2).f0), .int .i64 ((zas t142 x38_2).f1), .int .i64 0]) ?_ 2 _ rfl; (with_reducible repeat (first | refine zai ?_ _ | refine zae ?_ | refine zah ?_ _)); refine zbm (cs := #[.int .i64 ((zas t142 x38_2).f0), .int .i64 0, .int .i64 0]) ?_ 1 _ rfl; (with_reducible repeat (first | refine zai ?_ _ | refine zae ?_ | refine zah ?_ _)); refine zbm (cs := #[.int .i64 0, .int .i64 0, .int .i64 0]) ?_ 0 _ rfl; (with_reducible repeat (first | refine zai ?_ _ | refine zae ?_ | refine zah ?_ _)); exact BK146.out⟩
              have n4_ : zaa (Below w.heap.size w (((w44.setCell ⟨gb146, 0, none⟩ (.int .i64 ((zas t142 x38_2).f0))).setCell ⟨gb146, 1, none⟩ (.int .i64 ((zas t142 x38_2).f1))).setCell ⟨gb146, 2, none⟩ (.int .i64 ((zas t142 x38_2).f2)))) := ⟨by repeat (first | (with_reducible first | exact HB.out | apply zaf | apply zac | apply zad | refine zaj ?_ GE127.out | refine zaj ?_ GE146.out) | exact HB.out)⟩
              (try clear HO_7)
              (try clear HO_36)
              (try clear BK127)
              (try clear BK146)
              (try clear HB)
              generalize (((w44.setCell ⟨gb146, 0, none⟩ (.int .i64 ((zas t142 x38_2).f0))).setCell ⟨gb146, 1, none⟩ (.int .i64 ((zas t142 x38_2).f1))).setCell ⟨gb146, 2, none⟩ (.int .i64 ((zas t142 x38_2).f2))) = w47 at n0_ n1_ n2_ n3_ n4_ ⊢
              have HO_7 := n0_
              have HO_36 := n1_
              have BK127 := n2_
              have BK146 := n3_
              have HB := n4_
              clear n0_ n1_ n2_ n3_ n4_
              have n0_ := zaa.mk (Kd.zbg HO_7.out)
              have n1_ := zaa.mk (Kd.zbg HO_36.out)
              have n2_ := zaa.mk (zae BK127.out)
              have n3_ := zaa.mk (zae BK146.out)
              have n4_ := zaa.mk (zad HB.out)
              clear HO_7
              clear HO_36
              clear BK127
              clear BK146
              clear HB
              have HO_7 := n0_
              have HO_36 := n1_
              have BK127 := n2_
              have BK146 := n3_
              have HB := n4_
              clear n0_ n1_ n2_ n3_ n4_
              obtain ⟨Ao49, co49, eo49⟩ := Kd.zbv HO_7.out
              (first | subst eo49 | (injection eo49 with f1_ f2_ f3_; have f4_ := f1_.symm; have f5_ := f3_.symm; clear f1_ f2_ f3_; subst f4_; subst f5_))
              have p147 : 0 ≤ (x9_2 : Int) := of_decide_eq_true (by first | (with_reducible assumption) | assumption)
              have q147 : x9_2 < (t130.length : Int) := of_decide_eq_true (by first | (with_reducible assumption) | assumption)
              obtain ⟨ad147, e147, hx147_0, hx147_1, hx147_2⟩ := at_T39 (Kd.R_reads' HO_7.out).2.2 x9_2 p147 q147
              cases e147
              replace p147 := eq_true p147
              replace q147 := eq_true q147
              refine zbs (n := 12) (S := fun w' => w'.cell? ⟨gb146, 0, none⟩ = some (.int .i64 ((zas t142 x38_2).f0)) ∧ w'.cell? ⟨gb146, 1, none⟩ = some (.int .i64 ((zas t142 x38_2).f1)) ∧ w'.cell? ⟨gb146, 2, none⟩ = some (.int .i64 ((zas t142 x38_2).f2)) ∧ w'.cell? (ad147.add ((x9_2).toNat * 3)) = some (.int .i64 ((zas t130 x9_2).f0)) ∧ w'.cell? ⟨(ad147.add ((x9_2).toNat * 3)).block, (ad147.add ((x9_2).toNat * 3)).off + 1, none⟩ = some (.int .i64 ((zas t130 x9_2).f1)) ∧ w'.cell? ⟨(ad147.add ((x9_2).toNat * 3)).block, (ad147.add ((x9_2).toNat * 3)).off + 2, none⟩ = some (.int .i64 ((zas t130 x9_2).f2))) (ds := []) #[Nf,Nf,Nf,Nf,Nf,Nf,Nf,Nf,Nf,Nf,Nf,Nf] (by kernel_rfl) rfl rfl ⟨(zab BK146.out 0).trans rfl, (zab BK146.out 1).trans rfl, (zab BK146.out 2).trans rfl, hx147_0, hx147_1, hx147_2⟩ (fun hHeld => ?_); refine zcc zan.tab9 zan.bits9 (fun HT_ HW_ => ?_)
              generalize w47.drew = w48 at HO_7 HO_36 BK127 BK146 HB hx147_0 hx147_1 hx147_2 hHeld ⊢
              refine pure_ (i := 0) (N := some 42) (v := ?_) (a' := ?_) #[Yt,Nf,Nf,Nf,Nf,Nf,Nf,Nf,Nf,Nf,Nf,Nf] rfl rfl (zao HT_.out (by kernel_rfl)) (fun _ _ _ h => h) (Or.inl ⟨by rfl, ?_⟩) ?_ ?_
              rotate_left
              ·intro w'
               go_simp
               with_reducible rfl
              rotate_left
              ·simp only [Act.put, Y1, Y2, Y3, i64_w, i32_w]
               rfl
              refine pure_ (i := 1) (N := some 43) (v := ?_) (a' := ?_) #[Yt,Yt,Nf,Nf,Nf,Nf,Nf,Nf,Nf,Nf,Nf,Nf] rfl rfl (zao HT_.out (by kernel_rfl)) (fun _ _ _ h => h) (Or.inl ⟨by rfl, ?_⟩) ?_ ?_
              rotate_left
              ·intro w'
               go_simp
               with_reducible rfl
              rotate_left
              ·simp only [Act.put, Y1, Y2, Y3, i64_w, i32_w]
               rfl
              refine pure_ (i := 2) (N := some 44) (v := ?_) (a' := ?_) #[Yt,Yt,Yt,Nf,Nf,Nf,Nf,Nf,Nf,Nf,Nf,Nf] rfl rfl (zao HT_.out (by kernel_rfl)) (fun _ _ _ h => h) (Or.inl ⟨by rfl, ?_⟩) ?_ ?_
              rotate_left
              ·intro w'
               go_simp
               with_reducible rfl
              rotate_left
              ·simp only [Act.put, Y1, Y2, Y3, i64_w, i32_w]
               rfl
              refine pure_ (i := 3) (N := some 45) (v := ?_) (a' := ?_) #[Yt,Yt,Yt,Yt,Nf,Nf,Nf,Nf,Nf,Nf,Nf,Nf] rfl rfl (zao HT_.out (by kernel_rfl)) (fun _ _ _ h => h) (Or.inl ⟨by rfl, ?_⟩) ?_ ?_
              rotate_left
              ·intro w'
               go_simp
               with_reducible rfl
              rotate_left
              ·simp only [Act.put, Y1, Y2, Y3, i64_w, i32_w]
               rfl
              refine pure_ (i := 4) (N := some 46) (v := ?_) (a' := ?_) #[Yt,Yt,Yt,Yt,Yt,Nf,Nf,Nf,Nf,Nf,Nf,Nf] rfl rfl (zao HT_.out (by kernel_rfl)) (fun _ _ _ h => h) (Or.inl ⟨by rfl, ?_⟩) ?_ ?_
              rotate_left
              ·intro w'
               go_simp
               with_reducible rfl
              rotate_left
              ·simp only [Act.put, Y1, Y2, Y3, i64_w, i32_w]
               rfl
              refine pure_ (i := 5) (N := some 47) (v := ?_) (a' := ?_) #[Yt,Yt,Yt,Yt,Yt,Yt,Nf,Nf,Nf,Nf,Nf,Nf] rfl rfl (zao HT_.out (by kernel_rfl)) (fun _ _ _ h => h) (Or.inl ⟨by rfl, ?_⟩) ?_ ?_
              rotate_left
              ·intro w'
               go_simp
               with_reducible rfl
              rotate_left
              ·simp only [Act.put, Y1, Y2, Y3, i64_w, i32_w]
               rfl
              refine pure_ (i := 6) (N := some 48) (v := ?_) (a' := ?_) #[Yt,Yt,Yt,Yt,Yt,Yt,Yt,Nf,Nf,Nf,Nf,Nf] rfl rfl (zao HT_.out (by kernel_rfl)) (fun _ _ _ h => h) (Or.inl ⟨by rfl, ?_⟩) ?_ ?_
              rotate_left
              ·intro w'
               go_simp
               with_reducible rfl
              rotate_left
              ·simp only [Act.put, Y1, Y2, Y3, i64_w, i32_w]
               rfl
              refine pure_ (i := 7) (N := some 49) (v := ?_) (a' := ?_) #[Yt,Yt,Yt,Yt,Yt,Yt,Yt,Yt,Nf,Nf,Nf,Nf] rfl rfl (zao HT_.out (by kernel_rfl)) (fun _ _ _ h => h) (Or.inl ⟨by rfl, ?_⟩) ?_ ?_
              rotate_left
              ·intro w'
               go_simp
               with_reducible rfl
              rotate_left
              ·simp only [Act.put, Y1, Y2, Y3, i64_w, i32_w]
               rfl
              refine take_ (i := 8) (N := some 50) (v := ?_) (a' := ?_) #[Yt,Yt,Yt,Yt,Yt,Yt,Yt,Yt,Yt,Nf,Nf,Nf] rfl rfl (zbi HT_.out HW_.out (by kernel_rfl)) (fun _ _ _ h => h) (Or.inl ⟨by rfl, ?_⟩) hHeld ?_ ?_
              rotate_left
              ·rintro w' ⟨s0, s1, s2, s3, s4, s5⟩
               go_simp
               with_reducible rfl
              rotate_left
              ·simp only [Act.put, Y1, Y2, Y3, i64_w, i32_w]
               rfl
              refine take_ (i := 9) (N := some 51) (v := ?_) (a' := ?_) #[Yt,Yt,Yt,Yt,Yt,Yt,Yt,Yt,Yt,Yt,Nf,Nf] rfl rfl (zbi HT_.out HW_.out (by kernel_rfl)) (fun _ _ _ h => h) (Or.inl ⟨by rfl, ?_⟩) hHeld ?_ ?_
              rotate_left
              ·rintro w' ⟨s0, s1, s2, s3, s4, s5⟩
               go_simp
               with_reducible rfl
              rotate_left
              ·simp only [Act.put, Y1, Y2, Y3, i64_w, i32_w]
               rfl
              refine pure_ (i := 10) (N := some 52) (v := ?_) (a' := ?_) #[Yt,Yt,Yt,Yt,Yt,Yt,Yt,Yt,Yt,Yt,Yt,Nf] rfl rfl (zao HT_.out (by kernel_rfl)) (fun _ _ _ h => h) (Or.inl ⟨by rfl, ?_⟩) ?_ ?_
              rotate_left
              ·intro w'
               go_simp
               with_reducible rfl
              rotate_left
              ·simp only [Act.put, Y1, Y2, Y3, i64_w, i32_w]
               rfl
              refine pure_ (i := 11) (N := some 53) (v := ?_) (a' := ?_) #[Yt,Yt,Yt,Yt,Yt,Yt,Yt,Yt,Yt,Yt,Yt,Yt] rfl rfl (zao HT_.out (by kernel_rfl)) (fun _ _ _ h => h) (Or.inl ⟨by rfl, ?_⟩) ?_ ?_
              rotate_left
              ·intro w'
               go_simp
               with_reducible rfl
              rotate_left
              ·simp only [Act.put, Y1, Y2, Y3, i64_w, i32_w]
               rfl
              refine done_ (done_of HT_.out (by kernel_rfl)) ?_
              try go_wp2
              go_roundg k2
              case measure => have := HJ3.out; have := HK2.out; omega
              case rel => exact ⟨(x9_2), (wrap64 (x38_2 + 1)), (by first | rfl | (simp; done) | (simp [*]; done)), (by first | rfl | (simp; done) | (simp [*]; done)), H', ⟨by have := HJ3.out; have := HK2.out; omega⟩, ⟨by (with_reducible repeat (first | apply Kd.zbf | apply Kd.zbd | apply Kd.zbg)); exact Kd.zbn HO_7.out (fun _ hk => hk.1)⟩, ⟨by (with_reducible repeat (first | apply Kd.zbf | apply Kd.zbd | apply Kd.zbg)); exact Kd.zbn HO_36.out (fun _ hk => hk.1)⟩, ⟨by (with_reducible repeat (first | refine zai ?_ _ | refine zae ?_ | refine zah ?_ _)); exact BK127.out⟩, ⟨by repeat (first | (with_reducible first | exact HB.out | apply zaf | apply zac | apply zad | refine zaj ?_ GE127.out | refine zaj ?_ GE146.out) | exact HB.out)⟩⟩
            ·rw [if_neg c36] at H
             exact absurd H (by simp)
           ·rw [if_neg c35] at H
            have c35b0 : decide (x9_2 < (t130.length : Int)) = false := decide_eq_false c35
            clear c35
            have H' := zaa.mk H
            clear H
            have p145 : 0 ≤ (x38_2 : Int) := of_decide_eq_true (by first | (with_reducible assumption) | assumption)
            have q145 : x38_2 < (t142.length : Int) := of_decide_eq_true (by first | (with_reducible assumption) | assumption)
            obtain ⟨ad145, e145, hx145_0, hx145_1, hx145_2⟩ := at_T39 (Kd.R_reads' HO_36.out).2.2 x38_2 p145 q145
            cases e145
            replace p145 := eq_true p145
            replace q145 := eq_true q145
            try go_wp2_with (first | ((with_reducible refine zba (N := 11) rfl ?_); (try (refine zbc (by rfl) ?_; dsimp only)); refine za9 ?hg (N := 11) ?hd (cs := #[.int .i64 0, .int .i64 0, .int .i64 0]) (t := 39) ?hr ?_; (case hd => rfl); (case hg => rfl); (case hr => first | (go_simp; done) | (go_simp; rfl)); intro gb146 hg w50 hbox hb; have n0_ := zaa.mk (Kd.zbq (Kd.R_elderB (by (with_reducible repeat (first | apply Kd.zbf | apply Kd.zbd | apply Kd.zbg)); exact HO_7.out) gb146 (Nat.le_of_eq hg.symm)) hb); have n1_ := zaa.mk (Kd.zbq (Kd.R_elderB (by (with_reducible repeat (first | apply Kd.zbf | apply Kd.zbd | apply Kd.zbg)); exact HO_36.out) gb146 (Nat.le_of_eq hg.symm)) hb); have n2_ := zaa.mk (zaq (g := gb127) (o := .cells #[.slice A0_0 l0_0.length c0_0, .slice A0_1 l0_1.length c0_1, .slice A0_2 l0_2.length c0_2] 25 (0, 0)) (by (with_reducible repeat (first | refine zai ?_ _ | refine zae ?_ | refine zah ?_ _)); exact BK127.out) hb); have n3_ := zaa.mk (zax (by repeat (first | (with_reducible first | exact HB.out | apply zaf | apply zac | apply zad | refine zaj ?_ GE127.out) | exact HB.out)) hb); have n4_ := zaa.mk (hbox); have n5_ := zaa.mk ((by rw [hg]; exact (zat (by repeat (first | (with_reducible first | exact HB.out | apply zaf | apply zac | apply zad | refine zaj ?_ GE127.out) | exact HB.out))) : w.heap.size ≤ gb146)); have n6_ := zaa.mk ((by rw [hg]; exact (zat (by repeat (first | (with_reducible first | exact HB.out | apply zaf | apply zac | apply zad | refine zaj ?_ GE127.out) | exact HB.out))) : w.heap.size ≤ gb146)); have n7_ := zaa.mk ((by rw [hg]; exact Nat.ne_of_lt (zaw (g := gb127) (o := .cells #[.slice A0_0 l0_0.length c0_0, .slice A0_1 l0_1.length c0_1, .slice A0_2 l0_2.length c0_2] 25 (0, 0)) (by (with_reducible repeat (first | refine zai ?_ _ | refine zae ?_ | refine zah ?_ _)); exact BK127.out)) : gb127 ≠ gb146)); have n8_ := zaa.mk ((by rw [hg]; exact Nat.ne_of_gt (zaw (g := gb127) (o := .cells #[.slice A0_0 l0_0.length c0_0, .slice A0_1 l0_1.length c0_1, .slice A0_2 l0_2.length c0_2] 25 (0, 0)) (by (with_reducible repeat (first | refine zai ?_ _ | refine zae ?_ | refine zah ?_ _)); exact BK127.out)) : gb146 ≠ gb127)); clear HO_7; clear HO_36; clear BK127; clear HB; have HO_7 := n0_; have HO_36 := n1_; have BK127 := n2_; have HB := n3_; have BK146 := n4_; have GW146 := n5_; have GE146 := n6_; have NB127_146 := n7_; have NB146_127 := n8_; clear n0_ n1_ n2_ n3_ n4_ n5_ n6_ n7_ n8_; clear hb hbox hg; have hnb51 := NB146_127.out; have hnc51 := NB127_146.out; have hcz52_0 : w50.cell? ⟨gb146, 0, none⟩ = some (.int .i64 0) := (zab BK146.out 0).trans rfl; have hcz52_1 : w50.cell? ⟨gb146, 1, none⟩ = some (.int .i64 0) := (zab BK146.out 1).trans rfl; have hcz52_2 : w50.cell? ⟨gb146, 2, none⟩ = some (.int .i64 0) := (zab BK146.out 2).trans rfl; have hfz52_0 := zak BK146.out 0; have hfz52_1 := zak BK146.out 1; have hfz52_2 := zak BK146.out 2))
            have n0_ : zaa (Kd.R k39 39 (((w50.setCell ⟨gb146, 0, none⟩ (.int .i64 ((zas t142 x38_2).f0))).setCell ⟨gb146, 1, none⟩ (.int .i64 ((zas t142 x38_2).f1))).setCell ⟨gb146, 2, none⟩ (.int .i64 ((zas t142 x38_2).f2))) w.heap.size (fun k_ => some k_ ≠ (.slice (some ad145) t142.length co31 : Value).ownBlock ∧ k_ ≠ gb146) v131 t130) := ⟨by (with_reducible repeat (first | apply Kd.zbf | apply Kd.zbd | apply Kd.zbg)); exact Kd.zbn (Kd.R_far (p := ⟨gb146, 2, none⟩) (Kd.R_far (p := ⟨gb146, 1, none⟩) (Kd.R_far (p := ⟨gb146, 0, none⟩) (Kd.zbn HO_7.out (fun k_ hk => (⟨hk, hk.2⟩ : _ ∧ k_ ≠ gb146))) (fun _ hk => hk.2) (.int .i64 ((zas t142 x38_2).f0))) (fun _ hk => hk.2) (.int .i64 ((zas t142 x38_2).f1))) (fun _ hk => hk.2) (.int .i64 ((zas t142 x38_2).f2))) (fun _ hk => ⟨hk.1.1, hk.1.2⟩)⟩
            have n1_ : zaa (Kd.R k39 39 (((w50.setCell ⟨gb146, 0, none⟩ (.int .i64 ((zas t142 x38_2).f0))).setCell ⟨gb146, 1, none⟩ (.int .i64 ((zas t142 x38_2).f1))).setCell ⟨gb146, 2, none⟩ (.int .i64 ((zas t142 x38_2).f2))) w.heap.size (fun k_ => some k_ ≠ (v131 : Value).ownBlock ∧ k_ ≠ gb146) (.slice (some ad145) t142.length co31) t142) := ⟨by (with_reducible repeat (first | apply Kd.zbf | apply Kd.zbd | apply Kd.zbg)); exact Kd.zbn (Kd.R_far (p := ⟨gb146, 2, none⟩) (Kd.R_far (p := ⟨gb146, 1, none⟩) (Kd.R_far (p := ⟨gb146, 0, none⟩) (Kd.zbn HO_36.out (fun k_ hk => (⟨hk, hk.2⟩ : _ ∧ k_ ≠ gb146))) (fun _ hk => hk.2) (.int .i64 ((zas t142 x38_2).f0))) (fun _ hk => hk.2) (.int .i64 ((zas t142 x38_2).f1))) (fun _ hk => hk.2) (.int .i64 ((zas t142 x38_2).f2))) (fun _ hk => ⟨hk.1.1, hk.1.2⟩)⟩
            have n2_ : zaa ((((w50.setCell ⟨gb146, 0, none⟩ (.int .i64 ((zas t142 x38_2).f0))).setCell ⟨gb146, 1, none⟩ (.int .i64 ((zas t142 x38_2).f1))).setCell ⟨gb146, 2, none⟩ (.int .i64 ((zas t142 x38_2).f2))).heap[gb127]? = some (.cells #[.slice A0_0 l0_0.length c0_0, .slice A0_1 l0_1.length c0_1, .slice A0_2 l0_2.length c0_2] 25 (0, 0))) := ⟨by (with_reducible repeat (first | refine zai ?_ _ | refine zae ?_ | refine zah ?_ _)); refine zbh ?_ NB127_146.out _; (with_reducible repeat (first | refine zai ?_ _ | refine zae ?_ | refine zah ?_ _)); refine zbh ?_ NB127_146.out _; (with_reducible repeat (first | refine zai ?_ _ | refine zae ?_ | refine zah ?_ _)); refine zbh ?_ NB127_146.out _; (with_reducible repeat (first | refine zai ?_ _ | refine zae ?_ | refine zah ?_ _)); exact BK127.out⟩
            have n3_ : zaa ((((w50.setCell ⟨gb146, 0, none⟩ (.int .i64 ((zas t142 x38_2).f0))).setCell ⟨gb146, 1, none⟩ (.int .i64 ((zas t142 x38_2).f1))).setCell ⟨gb146, 2, none⟩ (.int .i64 ((zas t142 x38_2).f2))).heap[gb146]? = some (.cells #[.int .i64 ((zas t142 x38_2).f0), .int .i64 ((zas t142 x38_2).f1), .int .i64 ((zas t142 x38_2).f2)] 39 (0, 0))) := ⟨by (with_reducible repeat (first | refine zai ?_ _ | refine zae ?_ | refine zah ?_ _)); refine zbm (cs := #[.int .i64 ((zas t142 x38_2).f0), .int .i64 ((zas t142 x38_2).f1), .int .i64 0]) ?_ 2 _ rfl; (with_reducible repeat (first | refine zai ?_ _ | refine zae ?_ | refine zah ?_ _)); refine zbm (cs := #[.int .i64 ((zas t142 x38_2).f0), .int .i64 0, .int .i64 0]) ?_ 1 _ rfl; (with_reducible repeat (first | refine zai ?_ _ | refine zae ?_ | refine zah ?_ _)); refine zbm (cs := #[.int .i64 0, .int .i64 0, .int .i64 0]) ?_ 0 _ rfl; (with_reducible repeat (first | refine zai ?_ _ | refine zae ?_ | refine zah ?_ _)); exact BK146.out⟩
            have n4_ : zaa (Below w.heap.size w (((w50.setCell ⟨gb146, 0, none⟩ (.int .i64 ((zas t142 x38_2).f0))).setCell ⟨gb146, 1, none⟩ (.int .i64 ((zas t142 x38_2).f1))).setCell ⟨gb146, 2, none⟩ (.int .i64 ((zas t142 x38_2).f2)))) := ⟨by repeat (first | (with_reducible first | exact HB.out | apply zaf | apply zac | apply zad | refine zaj ?_ GE127.out | refine zaj ?_ GE146.out) | exact HB.out)⟩
            (try clear HO_7)
            (try clear HO_36)
            (try clear BK127)
            (try clear BK146)
            (try clear HB)
            generalize (((w50.setCell ⟨gb146, 0, none⟩ (.int .i64 ((zas t142 x38_2).f0))).setCell ⟨gb146, 1, none⟩ (.int .i64 ((zas t142 x38_2).f1))).setCell ⟨gb146, 2, none⟩ (.int .i64 ((zas t142 x38_2).f2))) = w53 at n0_ n1_ n2_ n3_ n4_ ⊢
            have HO_7 := n0_
            have HO_36 := n1_
            have BK127 := n2_
            have BK146 := n3_
            have HB := n4_
            clear n0_ n1_ n2_ n3_ n4_
            have n0_ := zaa.mk (Kd.zbg HO_7.out)
            have n1_ := zaa.mk (Kd.zbg HO_36.out)
            have n2_ := zaa.mk (zae BK127.out)
            have n3_ := zaa.mk (zae BK146.out)
            have n4_ := zaa.mk (zad HB.out)
            clear HO_7
            clear HO_36
            clear BK127
            clear BK146
            clear HB
            have HO_7 := n0_
            have HO_36 := n1_
            have BK127 := n2_
            have BK146 := n3_
            have HB := n4_
            clear n0_ n1_ n2_ n3_ n4_
            obtain ⟨Ao55, co55, eo55⟩ := Kd.zbv HO_7.out
            (first | subst eo55 | (injection eo55 with f1_ f2_ f3_; have f4_ := f1_.symm; have f5_ := f3_.symm; clear f1_ f2_ f3_; subst f4_; subst f5_))
            refine zbs (n := 12) (S := fun w' => True) (ds := []) #[Nf,Nf,Nf,Nf,Nf,Nf,Nf,Nf,Nf,Nf,Nf,Nf] (by kernel_rfl) rfl rfl trivial (fun hHeld => ?_); refine zcc zan.tab9 zan.bits9 (fun HT_ HW_ => ?_)
            generalize w53.drew = w54 at HO_7 HO_36 BK127 BK146 HB hHeld ⊢
            refine pure_ (i := 0) (N := some 42) (v := ?_) (a' := ?_) #[Yt,Nf,Nf,Nf,Nf,Nf,Nf,Nf,Nf,Nf,Nf,Nf] rfl rfl (zao HT_.out (by kernel_rfl)) (fun _ _ _ h => h) (Or.inl ⟨by rfl, ?_⟩) ?_ ?_
            rotate_left
            ·intro w'
             go_simp
             with_reducible rfl
            rotate_left
            ·simp only [Act.put, Y1, Y2, Y3, i64_w, i32_w]
             rfl
            refine pure_ (i := 1) (N := some 43) (v := ?_) (a' := ?_) #[Yt,Yt,Nf,Nf,Nf,Nf,Nf,Nf,Nf,Nf,Nf,Nf] rfl rfl (zao HT_.out (by kernel_rfl)) (fun _ _ _ h => h) (Or.inl ⟨by rfl, ?_⟩) ?_ ?_
            rotate_left
            ·intro w'
             go_simp
             with_reducible rfl
            rotate_left
            ·simp only [Act.put, Y1, Y2, Y3, i64_w, i32_w]
             rfl
            refine pure_ (i := 2) (N := some 44) (v := ?_) (a' := ?_) #[Yt,Yt,Yt,Nf,Nf,Nf,Nf,Nf,Nf,Nf,Nf,Nf] rfl rfl (zao HT_.out (by kernel_rfl)) (fun _ _ _ h => h) (Or.inl ⟨by rfl, ?_⟩) ?_ ?_
            rotate_left
            ·intro w'
             go_simp
             with_reducible rfl
            rotate_left
            ·simp only [Act.put, Y1, Y2, Y3, i64_w, i32_w]
             rfl
            refine pure_ (i := 3) (N := some 45) (v := ?_) (a' := ?_) #[Yt,Yt,Yt,Yt,Nf,Nf,Nf,Nf,Nf,Nf,Nf,Nf] rfl rfl (zao HT_.out (by kernel_rfl)) (fun _ _ _ h => h) (Or.inl ⟨by rfl, ?_⟩) ?_ ?_
            rotate_left
            ·intro w'
             go_simp
             with_reducible rfl
            rotate_left
            ·simp only [Act.put, Y1, Y2, Y3, i64_w, i32_w]
             rfl
            refine pure_ (i := 4) (N := some 46) (v := ?_) (a' := ?_) #[Yt,Yt,Yt,Yt,Yt,Nf,Nf,Nf,Nf,Nf,Nf,Nf] rfl rfl (zao HT_.out (by kernel_rfl)) (fun _ _ _ h => h) (Or.inl ⟨by rfl, ?_⟩) ?_ ?_
            rotate_left
            ·intro w'
             go_simp
             with_reducible rfl
            rotate_left
            ·simp only [Act.put, Y1, Y2, Y3, i64_w, i32_w]
             rfl
            refine pure_ (i := 5) (N := some 47) (v := undef) (a' := ?_) #[Yt,Yt,Yt,Yt,Yt,Yt,Nf,Nf,Nf,Nf,Nf,Nf] rfl rfl (zao HT_.out (by kernel_rfl)) (fun _ _ _ h => h) (Or.inr ⟨by rfl, rfl⟩) ?_ ?_
            rotate_left
            ·simp only [Act.put, Y1, Y2, Y3, i64_w, i32_w]
             rfl
            refine pure_ (i := 6) (N := some 48) (v := undef) (a' := ?_) #[Yt,Yt,Yt,Yt,Yt,Yt,Yt,Nf,Nf,Nf,Nf,Nf] rfl rfl (zao HT_.out (by kernel_rfl)) (fun _ _ _ h => h) (Or.inr ⟨by rfl, rfl⟩) ?_ ?_
            rotate_left
            ·simp only [Act.put, Y1, Y2, Y3, i64_w, i32_w]
             rfl
            refine pure_ (i := 7) (N := some 49) (v := undef) (a' := ?_) #[Yt,Yt,Yt,Yt,Yt,Yt,Yt,Yt,Nf,Nf,Nf,Nf] rfl rfl (zao HT_.out (by kernel_rfl)) (fun _ _ _ h => h) (Or.inr ⟨by rfl, rfl⟩) ?_ ?_
            rotate_left
            ·simp only [Act.put, Y1, Y2, Y3, i64_w, i32_w]
             rfl
            refine pure_ (i := 8) (N := some 50) (v := undef) (a' := ?_) #[Yt,Yt,Yt,Yt,Yt,Yt,Yt,Yt,Yt,Nf,Nf,Nf] rfl rfl (zao HT_.out (by kernel_rfl)) (fun _ _ _ h => h) (Or.inr ⟨by rfl, rfl⟩) ?_ ?_
            rotate_left
            ·simp only [Act.put, Y1, Y2, Y3, i64_w, i32_w]
             rfl
            refine pure_ (i := 9) (N := some 51) (v := undef) (a' := ?_) #[Yt,Yt,Yt,Yt,Yt,Yt,Yt,Yt,Yt,Yt,Nf,Nf] rfl rfl (zao HT_.out (by kernel_rfl)) (fun _ _ _ h => h) (Or.inr ⟨by rfl, rfl⟩) ?_ ?_
            rotate_left
            ·simp only [Act.put, Y1, Y2, Y3, i64_w, i32_w]
             rfl
            refine pure_ (i := 10) (N := some 52) (v := undef) (a' := ?_) #[Yt,Yt,Yt,Yt,Yt,Yt,Yt,Yt,Yt,Yt,Yt,Nf] rfl rfl (zao HT_.out (by kernel_rfl)) (fun _ _ _ h => h) (Or.inr ⟨by rfl, rfl⟩) ?_ ?_
            rotate_left
            ·simp only [Act.put, Y1, Y2, Y3, i64_w, i32_w]
             rfl
            refine pure_ (i := 11) (N := some 53) (v := ?_) (a' := ?_) #[Yt,Yt,Yt,Yt,Yt,Yt,Yt,Yt,Yt,Yt,Yt,Yt] rfl rfl (zao HT_.out (by kernel_rfl)) (fun _ _ _ h => h) (Or.inl ⟨by rfl, ?_⟩) ?_ ?_
            rotate_left
            ·intro w'
             go_simp
             with_reducible rfl
            rotate_left
            ·simp only [Act.put, Y1, Y2, Y3, i64_w, i32_w]
             rfl
            refine done_ (done_of HT_.out (by kernel_rfl)) ?_
            try go_wp2
            go_roundg k2
            case measure => have := HJ3.out; have := HK2.out; omega
            case rel => exact ⟨(x9_2), (wrap64 (x38_2 + 1)), (by first | rfl | (simp; done) | (simp [*]; done)), (by first | rfl | (simp; done) | (simp [*]; done)), H', ⟨by have := HJ3.out; have := HK2.out; omega⟩, ⟨by (with_reducible repeat (first | apply Kd.zbf | apply Kd.zbd | apply Kd.zbg)); exact Kd.zbn HO_7.out (fun _ hk => hk.1)⟩, ⟨by (with_reducible repeat (first | apply Kd.zbf | apply Kd.zbd | apply Kd.zbg)); exact Kd.zbn HO_36.out (fun _ hk => hk.1)⟩, ⟨by (with_reducible repeat (first | refine zai ?_ _ | refine zae ?_ | refine zah ?_ _)); exact BK127.out⟩, ⟨by repeat (first | (with_reducible first | exact HB.out | apply zaf | apply zac | apply zad | refine zaj ?_ GE127.out | refine zaj ?_ GE146.out) | exact HB.out)⟩⟩
          ·rw [if_neg c34] at H
           exact absurd H (by simp)
         ·rw [if_neg c33] at H
          exact absurd H (by simp)
        ·rw [if_neg c32] at H
         have c32b0 : decide (x38_2 < (t142.length : Int)) = false := decide_eq_false c32
         clear c32
         replace H := Option.bind_eq_some_iff.mp H
         obtain ⟨t148, A560, H⟩ := H
         replace H : ((zau.f k2 t148 t130).bind fun t151 => (if t151 = true then (if x9_2 = (t130.length : Int) then ((zbu.f).bind fun t152 => (some t152)) else (some false)) else (some false))) = some r := H
         have A56 := zaa.mk A560
         clear A560
         replace H := Option.bind_eq_some_iff.mp H
         obtain ⟨t151, A570, H⟩ := H
         replace H : (if t151 = true then (if x9_2 = (t130.length : Int) then ((zbu.f).bind fun t152 => (some t152)) else (some false)) else (some false)) = some r := H
         have A57 := zaa.mk A570
         clear A570
         by_cases c58 : t151 = true
         ·subst c58
          have H1 : (if x9_2 = (t130.length : Int) then ((zbu.f).bind fun t152 => (some t152)) else (some false)) = some r := by rw [if_pos rfl] at H; exact H
          clear H
          have H := H1
          clear H1
          by_cases c59 : x9_2 = (t130.length : Int)
          ·rw [if_pos c59] at H
           have c59b0 : (x9_2 == (t130.length : Int)) = true := beq_iff_eq.mpr c59
           have c59b1 : (x9_2 != (t130.length : Int)) = false := bne_eq_false_iff_eq.mpr c59
           clear c59
           replace H := Option.bind_eq_some_iff.mp H
           obtain ⟨t152, A600, H⟩ := H
           replace H : (some t152) = some r := H
           have A60 := zaa.mk A600
           clear A600
           obtain rfl := Option.some.inj H
           have hcz61_0 : wr.cell? ⟨gb127, 0, none⟩ = some (.slice A0_0 l0_0.length c0_0) := (zab BK127.out 0).trans rfl
           have hcz61_1 : wr.cell? ⟨gb127, 1, none⟩ = some (.slice A0_1 l0_1.length c0_1) := (zab BK127.out 1).trans rfl
           have hcz61_2 : wr.cell? ⟨gb127, 2, none⟩ = some (.slice A0_2 l0_2.length c0_2) := (zab BK127.out 2).trans rfl
           have hfz61_0 := zak BK127.out 0
           have hfz61_1 := zak BK127.out 1
           have hfz61_2 := zak BK127.out 2
           obtain ⟨Ao62, co62, eo62⟩ := Kd.zbv HO_7.out
           subst eo62
           go_wp2_with (first | ((with_reducible refine zbo (f := 12) rfl ?_); refine zb5 (some 59) rfl rfl Try.func12 (by kernel_rfl) rfl #[.agg #[.slice A0_0 l0_0.length c0_0, .slice A0_1 l0_1.length c0_1, .slice A0_2 l0_2.length c0_2], .slice Ao62 t130.length co62] rfl (by (try simp only [List.map_toArray, List.map_cons, List.map_nil]); first | done | rfl | (simp only [List.length_drop, List.length_take]; rfl)) ?_; (with_reducible refine (zbj.calls k2 _ _ l0_0 _ _ l0_1 _ _ l0_2 _ _ t130 t148 _ ?side1 ?side2 ?side3 ?side4 ?side5 ?side6 ?side7 ?side8 A56.out).mono ?_); (case side1 => repeat (first | exact (Kd.zay HR0_0.out HB.out) | (with_reducible refine Kd.za2 ?_ _) | (with_reducible refine Kd.za1 ?_ _) | (with_reducible refine Kd.za7 ?_))); (case side2 => exact HC0_0.out); (case side3 => repeat (first | exact (Kd.zay HR0_1.out HB.out) | (with_reducible refine Kd.za2 ?_ _) | (with_reducible refine Kd.za1 ?_ _) | (with_reducible refine Kd.za7 ?_))); (case side4 => exact HC0_1.out); (case side5 => repeat (first | exact (Kd.zay HR0_2.out HB.out) | (with_reducible refine Kd.za2 ?_ _) | (with_reducible refine Kd.za1 ?_ _) | (with_reducible refine Kd.za7 ?_))); (case side6 => exact HC0_2.out); (case side7 => repeat (first | exact (Kd.R_reads' HO_7.out).2.2 | (with_reducible refine Kd.za2 ?_ _) | (with_reducible refine Kd.za1 ?_ _) | (with_reducible refine Kd.za7 ?_))); (case side8 => exact (Kd.R_reads' HO_7.out).2.1); rintro e w63 ⟨v149, rfl, ho0, hb⟩; refine ⟨_, rfl, ?_⟩; have n0_ := zaa.mk (Kd.R_elder' (by (with_reducible repeat (first | apply Kd.zbf | apply Kd.zbd | apply Kd.zbg)); exact HO_7.out) (Kd.R_base ho0) hb); have n1_ := zaa.mk (Kd.R_elder' (by (with_reducible repeat (first | apply Kd.zbf | apply Kd.zbd | apply Kd.zbg)); exact HO_36.out) (Kd.R_base ho0) hb); have n2_ := zaa.mk (Kd.zb1 (Kd.R_new' (Kd.R_new' ho0 (Kd.R_lt (by (with_reducible repeat (first | apply Kd.zbf | apply Kd.zbd | apply Kd.zbg)); exact HO_7.out))) (Kd.R_lt (by (with_reducible repeat (first | apply Kd.zbf | apply Kd.zbd | apply Kd.zbg)); exact HO_36.out))) (zat (by repeat (first | (with_reducible first | exact HB.out | apply zaf | apply zac | apply zad | refine zaj ?_ GE127.out) | exact HB.out)))); have n3_ := zaa.mk (zaq (g := gb127) (o := .cells #[.slice A0_0 l0_0.length c0_0, .slice A0_1 l0_1.length c0_1, .slice A0_2 l0_2.length c0_2] 25 (0, 0)) (by (with_reducible repeat (first | refine zai ?_ _ | refine zae ?_ | refine zah ?_ _)); exact BK127.out) hb); have n4_ := zaa.mk (zax (by repeat (first | (with_reducible first | exact HB.out | apply zaf | apply zac | apply zad | refine zaj ?_ GE127.out) | exact HB.out)) hb); clear HO_7; clear HO_36; clear BK127; clear HB; have HO_7 := n0_; have HO_36 := n1_; have HO150 := n2_; have BK127 := n3_; have HB := n4_; clear n0_ n1_ n2_ n3_ n4_; (try clear hb); (try clear hb2); (try clear hk); (try clear hi); (try clear ho0); obtain ⟨Ao64, co64, eo64⟩ := Kd.zbv HO150.out; subst eo64) | ((with_reducible refine zbo (f := 8) rfl ?_); refine zb5 (some 61) rfl rfl Try.func8 (by kernel_rfl) rfl #[.slice Ao64 t148.length co64, .slice Ao62 t130.length co62] rfl (by (try simp only [List.map_toArray, List.map_cons, List.map_nil]); first | done | rfl | (simp only [List.length_drop, List.length_take]; rfl)) ?_; (with_reducible refine (zau.calls k2 _ _ t148 _ _ t130 true _ ?side1 ?side2 ?side3 ?side4 A57.out).mono ?_); (case side1 => repeat (first | exact (Kd.R_reads' HO150.out).2.2 | (with_reducible refine Kd.za2 ?_ _) | (with_reducible refine Kd.za1 ?_ _) | (with_reducible refine Kd.za7 ?_))); (case side2 => exact (Kd.R_reads' HO150.out).2.1); (case side3 => repeat (first | exact (Kd.R_reads' HO_7.out).2.2 | (with_reducible refine Kd.za2 ?_ _) | (with_reducible refine Kd.za1 ?_ _) | (with_reducible refine Kd.za7 ?_))); (case side4 => exact (Kd.R_reads' HO_7.out).2.1); rintro e w' ⟨rfl, ⟨nd, rfl⟩⟩; refine ⟨_, rfl, ?_⟩) | (go_at_call 6; (with_reducible refine (zbu.calls  t152 _ A60.out).mono ?_); rintro e w65 ⟨rfl, hb⟩; have n0_ := zaa.mk (Kd.zbq (by (with_reducible repeat (first | apply Kd.zbf | apply Kd.zbd | apply Kd.zbg)); exact HO_7.out) hb); have n1_ := zaa.mk (Kd.zbq (by (with_reducible repeat (first | apply Kd.zbf | apply Kd.zbd | apply Kd.zbg)); exact HO_36.out) hb); have n2_ := zaa.mk (Kd.zbq (by (with_reducible repeat (first | apply Kd.zbf | apply Kd.zbd | apply Kd.zbg)); exact HO150.out) hb); have n3_ := zaa.mk (zaq (g := gb127) (o := .cells #[.slice A0_0 l0_0.length c0_0, .slice A0_1 l0_1.length c0_1, .slice A0_2 l0_2.length c0_2] 25 (0, 0)) (by (with_reducible repeat (first | refine zai ?_ _ | refine zae ?_ | refine zah ?_ _)); exact BK127.out) hb); have n4_ := zaa.mk (zax (by repeat (first | (with_reducible first | exact HB.out | apply zaf | apply zac | apply zad | refine zaj ?_ GE127.out) | exact HB.out)) hb); clear HO_7; clear HO_36; clear HO150; clear BK127; clear HB; have HO_7 := n0_; have HO_36 := n1_; have HO150 := n2_; have BK127 := n3_; have HB := n4_; clear n0_ n1_ n2_ n3_ n4_; (try clear hb); (try clear hb2); (try clear hk); (try clear hi)))
           go_ret
           exact ⟨by first | rfl | (simp [za6, za4] <;> rfl) | (simp [*, za6, za4] <;> rfl), by repeat (first | (with_reducible first | exact HB.out | apply zaf | apply zac | apply zad | refine zaj ?_ GE127.out) | exact HB.out)⟩
          ·rw [if_neg c59] at H
           have c59b0 : (x9_2 == (t130.length : Int)) = false := beq_eq_false_iff_ne.mpr c59
           have c59b1 : (x9_2 != (t130.length : Int)) = true := bne_iff_ne.mpr c59
           obtain rfl := Option.some.inj H
           have hcz66_0 : wr.cell? ⟨gb127, 0, none⟩ = some (.slice A0_0 l0_0.length c0_0) := (zab BK127.out 0).trans rfl
           have hcz66_1 : wr.cell? ⟨gb127, 1, none⟩ = some (.slice A0_1 l0_1.length c0_1) := (zab BK127.out 1).trans rfl
           have hcz66_2 : wr.cell? ⟨gb127, 2, none⟩ = some (.slice A0_2 l0_2.length c0_2) := (zab BK127.out 2).trans rfl
           have hfz66_0 := zak BK127.out 0
           have hfz66_1 := zak BK127.out 1
           have hfz66_2 := zak BK127.out 2
           obtain ⟨Ao67, co67, eo67⟩ := Kd.zbv HO_7.out
           subst eo67
           go_wp2_with (first | ((with_reducible refine zbo (f := 12) rfl ?_); refine zb5 (some 59) rfl rfl Try.func12 (by kernel_rfl) rfl #[.agg #[.slice A0_0 l0_0.length c0_0, .slice A0_1 l0_1.length c0_1, .slice A0_2 l0_2.length c0_2], .slice Ao67 t130.length co67] rfl (by (try simp only [List.map_toArray, List.map_cons, List.map_nil]); first | done | rfl | (simp only [List.length_drop, List.length_take]; rfl)) ?_; (with_reducible refine (zbj.calls k2 _ _ l0_0 _ _ l0_1 _ _ l0_2 _ _ t130 t148 _ ?side1 ?side2 ?side3 ?side4 ?side5 ?side6 ?side7 ?side8 A56.out).mono ?_); (case side1 => repeat (first | exact (Kd.zay HR0_0.out HB.out) | (with_reducible refine Kd.za2 ?_ _) | (with_reducible refine Kd.za1 ?_ _) | (with_reducible refine Kd.za7 ?_))); (case side2 => exact HC0_0.out); (case side3 => repeat (first | exact (Kd.zay HR0_1.out HB.out) | (with_reducible refine Kd.za2 ?_ _) | (with_reducible refine Kd.za1 ?_ _) | (with_reducible refine Kd.za7 ?_))); (case side4 => exact HC0_1.out); (case side5 => repeat (first | exact (Kd.zay HR0_2.out HB.out) | (with_reducible refine Kd.za2 ?_ _) | (with_reducible refine Kd.za1 ?_ _) | (with_reducible refine Kd.za7 ?_))); (case side6 => exact HC0_2.out); (case side7 => repeat (first | exact (Kd.R_reads' HO_7.out).2.2 | (with_reducible refine Kd.za2 ?_ _) | (with_reducible refine Kd.za1 ?_ _) | (with_reducible refine Kd.za7 ?_))); (case side8 => exact (Kd.R_reads' HO_7.out).2.1); rintro e w68 ⟨v149, rfl, ho0, hb⟩; refine ⟨_, rfl, ?_⟩; have n0_ := zaa.mk (Kd.R_elder' (by (with_reducible repeat (first | apply Kd.zbf | apply Kd.zbd | apply Kd.zbg)); exact HO_7.out) (Kd.R_base ho0) hb); have n1_ := zaa.mk (Kd.R_elder' (by (with_reducible repeat (first | apply Kd.zbf | apply Kd.zbd | apply Kd.zbg)); exact HO_36.out) (Kd.R_base ho0) hb); have n2_ := zaa.mk (Kd.zb1 (Kd.R_new' (Kd.R_new' ho0 (Kd.R_lt (by (with_reducible repeat (first | apply Kd.zbf | apply Kd.zbd | apply Kd.zbg)); exact HO_7.out))) (Kd.R_lt (by (with_reducible repeat (first | apply Kd.zbf | apply Kd.zbd | apply Kd.zbg)); exact HO_36.out))) (zat (by repeat (first | (with_reducible first | exact HB.out | apply zaf | apply zac | apply zad | refine zaj ?_ GE127.out) | exact HB.out)))); have n3_ := zaa.mk (zaq (g := gb127) (o := .cells #[.slice A0_0 l0_0.length c0_0, .slice A0_1 l0_1.length c0_1, .slice A0_2 l0_2.length c0_2] 25 (0, 0)) (by (with_reducible repeat (first | refine zai ?_ _ | refine zae ?_ | refine zah ?_ _)); exact BK127.out) hb); have n4_ := zaa.mk (zax (by repeat (first | (with_reducible first | exact HB.out | apply zaf | apply zac | apply zad | refine zaj ?_ GE127.out) | exact HB.out)) hb); clear HO_7; clear HO_36; clear BK127; clear HB; have HO_7 := n0_; have HO_36 := n1_; have HO150 := n2_; have BK127 := n3_; have HB := n4_; clear n0_ n1_ n2_ n3_ n4_; (try clear hb); (try clear hb2); (try clear hk); (try clear hi); (try clear ho0); obtain ⟨Ao69, co69, eo69⟩ := Kd.zbv HO150.out; subst eo69) | ((with_reducible refine zbo (f := 8) rfl ?_); refine zb5 (some 61) rfl rfl Try.func8 (by kernel_rfl) rfl #[.slice Ao69 t148.length co69, .slice Ao67 t130.length co67] rfl (by (try simp only [List.map_toArray, List.map_cons, List.map_nil]); first | done | rfl | (simp only [List.length_drop, List.length_take]; rfl)) ?_; (with_reducible refine (zau.calls k2 _ _ t148 _ _ t130 true _ ?side1 ?side2 ?side3 ?side4 A57.out).mono ?_); (case side1 => repeat (first | exact (Kd.R_reads' HO150.out).2.2 | (with_reducible refine Kd.za2 ?_ _) | (with_reducible refine Kd.za1 ?_ _) | (with_reducible refine Kd.za7 ?_))); (case side2 => exact (Kd.R_reads' HO150.out).2.1); (case side3 => repeat (first | exact (Kd.R_reads' HO_7.out).2.2 | (with_reducible refine Kd.za2 ?_ _) | (with_reducible refine Kd.za1 ?_ _) | (with_reducible refine Kd.za7 ?_))); (case side4 => exact (Kd.R_reads' HO_7.out).2.1); rintro e w' ⟨rfl, ⟨nd, rfl⟩⟩; refine ⟨_, rfl, ?_⟩))
           go_ret
           exact ⟨by first | rfl | (simp [za6, za4] <;> rfl) | (simp [*, za6, za4] <;> rfl), by repeat (first | (with_reducible first | exact HB.out | apply zaf | apply zac | apply zad | refine zaj ?_ GE127.out) | exact HB.out)⟩
         ·replace c58 := Bool.eq_false_iff.mpr c58
          subst c58
          have H1 : (some false) = some r := by rw [if_neg (show ¬ (false = true) by decide)] at H; exact H
          clear H
          have H := H1
          clear H1
          obtain rfl := Option.some.inj H
          have hcz70_0 : wr.cell? ⟨gb127, 0, none⟩ = some (.slice A0_0 l0_0.length c0_0) := (zab BK127.out 0).trans rfl
          have hcz70_1 : wr.cell? ⟨gb127, 1, none⟩ = some (.slice A0_1 l0_1.length c0_1) := (zab BK127.out 1).trans rfl
          have hcz70_2 : wr.cell? ⟨gb127, 2, none⟩ = some (.slice A0_2 l0_2.length c0_2) := (zab BK127.out 2).trans rfl
          have hfz70_0 := zak BK127.out 0
          have hfz70_1 := zak BK127.out 1
          have hfz70_2 := zak BK127.out 2
          obtain ⟨Ao71, co71, eo71⟩ := Kd.zbv HO_7.out
          subst eo71
          go_wp2_with (first | ((with_reducible refine zbo (f := 12) rfl ?_); refine zb5 (some 59) rfl rfl Try.func12 (by kernel_rfl) rfl #[.agg #[.slice A0_0 l0_0.length c0_0, .slice A0_1 l0_1.length c0_1, .slice A0_2 l0_2.length c0_2], .slice Ao71 t130.length co71] rfl (by (try simp only [List.map_toArray, List.map_cons, List.map_nil]); first | done | rfl | (simp only [List.length_drop, List.length_take]; rfl)) ?_; (with_reducible refine (zbj.calls k2 _ _ l0_0 _ _ l0_1 _ _ l0_2 _ _ t130 t148 _ ?side1 ?side2 ?side3 ?side4 ?side5 ?side6 ?side7 ?side8 A56.out).mono ?_); (case side1 => repeat (first | exact (Kd.zay HR0_0.out HB.out) | (with_reducible refine Kd.za2 ?_ _) | (with_reducible refine Kd.za1 ?_ _) | (with_reducible refine Kd.za7 ?_))); (case side2 => exact HC0_0.out); (case side3 => repeat (first | exact (Kd.zay HR0_1.out HB.out) | (with_reducible refine Kd.za2 ?_ _) | (with_reducible refine Kd.za1 ?_ _) | (with_reducible refine Kd.za7 ?_))); (case side4 => exact HC0_1.out); (case side5 => repeat (first | exact (Kd.zay HR0_2.out HB.out) | (with_reducible refine Kd.za2 ?_ _) | (with_reducible refine Kd.za1 ?_ _) | (with_reducible refine Kd.za7 ?_))); (case side6 => exact HC0_2.out); (case side7 => repeat (first | exact (Kd.R_reads' HO_7.out).2.2 | (with_reducible refine Kd.za2 ?_ _) | (with_reducible refine Kd.za1 ?_ _) | (with_reducible refine Kd.za7 ?_))); (case side8 => exact (Kd.R_reads' HO_7.out).2.1); rintro e w72 ⟨v149, rfl, ho0, hb⟩; refine ⟨_, rfl, ?_⟩; have n0_ := zaa.mk (Kd.R_elder' (by (with_reducible repeat (first | apply Kd.zbf | apply Kd.zbd | apply Kd.zbg)); exact HO_7.out) (Kd.R_base ho0) hb); have n1_ := zaa.mk (Kd.R_elder' (by (with_reducible repeat (first | apply Kd.zbf | apply Kd.zbd | apply Kd.zbg)); exact HO_36.out) (Kd.R_base ho0) hb); have n2_ := zaa.mk (Kd.zb1 (Kd.R_new' (Kd.R_new' ho0 (Kd.R_lt (by (with_reducible repeat (first | apply Kd.zbf | apply Kd.zbd | apply Kd.zbg)); exact HO_7.out))) (Kd.R_lt (by (with_reducible repeat (first | apply Kd.zbf | apply Kd.zbd | apply Kd.zbg)); exact HO_36.out))) (zat (by repeat (first | (with_reducible first | exact HB.out | apply zaf | apply zac | apply zad | refine zaj ?_ GE127.out) | exact HB.out)))); have n3_ := zaa.mk (zaq (g := gb127) (o := .cells #[.slice A0_0 l0_0.length c0_0, .slice A0_1 l0_1.length c0_1, .slice A0_2 l0_2.length c0_2] 25 (0, 0)) (by (with_reducible repeat (first | refine zai ?_ _ | refine zae ?_ | refine zah ?_ _)); exact BK127.out) hb); have n4_ := zaa.mk (zax (by repeat (first | (with_reducible first | exact HB.out | apply zaf | apply zac | apply zad | refine zaj ?_ GE127.out) | exact HB.out)) hb); clear HO_7; clear HO_36; clear BK127; clear HB; have HO_7 := n0_; have HO_36 := n1_; have HO150 := n2_; have BK127 := n3_; have HB := n4_; clear n0_ n1_ n2_ n3_ n4_; (try clear hb); (try clear hb2); (try clear hk); (try clear hi); (try clear ho0); obtain ⟨Ao73, co73, eo73⟩ := Kd.zbv HO150.out; subst eo73) | ((with_reducible refine zbo (f := 8) rfl ?_); refine zb5 (some 61) rfl rfl Try.func8 (by kernel_rfl) rfl #[.slice Ao73 t148.length co73, .slice Ao71 t130.length co71] rfl (by (try simp only [List.map_toArray, List.map_cons, List.map_nil]); first | done | rfl | (simp only [List.length_drop, List.length_take]; rfl)) ?_; (with_reducible refine (zau.calls k2 _ _ t148 _ _ t130 false _ ?side1 ?side2 ?side3 ?side4 A57.out).mono ?_); (case side1 => repeat (first | exact (Kd.R_reads' HO150.out).2.2 | (with_reducible refine Kd.za2 ?_ _) | (with_reducible refine Kd.za1 ?_ _) | (with_reducible refine Kd.za7 ?_))); (case side2 => exact (Kd.R_reads' HO150.out).2.1); (case side3 => repeat (first | exact (Kd.R_reads' HO_7.out).2.2 | (with_reducible refine Kd.za2 ?_ _) | (with_reducible refine Kd.za1 ?_ _) | (with_reducible refine Kd.za7 ?_))); (case side4 => exact (Kd.R_reads' HO_7.out).2.1); rintro e w' ⟨rfl, ⟨nd, rfl⟩⟩; refine ⟨_, rfl, ?_⟩))
          go_ret
          exact ⟨by first | rfl | (simp [za6, za4] <;> rfl) | (simp [*, za6, za4] <;> rfl), by repeat (first | (with_reducible first | exact HB.out | apply zaf | apply zac | apply zad | refine zaj ?_ GE127.out) | exact HB.out)⟩
     ·rw [if_neg c20] at H
      exact absurd H (by simp)
    ·rw [if_neg c19] at H
     exact absurd H (by simp)
end Go.Proofs.Ytgdmjpehofdnpaa.PItemCloses
end
section
namespace Go.Proofs.Ytgdmjpehofdnpaa.PItemCloses
open Go.RowKit Go.Proofs.YtgdmjpehofdnpaaW.PrintWords Go.Proofs.YtgdmjpehofdnpaaW.PrintLast
def ok43 (s : S43) : Prop := ((Lit.int .i64 s.f0).wf = true) ∧ (s.f1.size ≤ 140737488351232) ∧ (s.f2.size ≤ 140737488351232)
def ok46 (s : S46) : Prop := ((Lit.int .i64 s.f0).wf = true) ∧ (s.f1.length * 40 ≤ 140737488351232 ∧ ∀ y ∈ s.f1, ok43 y) ∧ ((Lit.int .i64 s.f2).wf = true)
def ok25 (s : S25) : Prop := (s.f0.length * 16 ≤ 140737488351232 ∧ ∀ y ∈ s.f0, (y.size ≤ 140737488351232)) ∧ (s.f1.length * 16 ≤ 140737488351232 ∧ ∀ y ∈ s.f1, (y.size ≤ 140737488351232)) ∧ (s.f2.length * 40 ≤ 140737488351232 ∧ ∀ y ∈ s.f2, ok46 y)
def ok39 (s : S39) : Prop := ((Lit.int .i64 s.f0).wf = true) ∧ ((Lit.int .i64 s.f1).wf = true) ∧ ((Lit.int .i64 s.f2).wf = true)
def zan.Pure : Prop := ∀ (s0 : S25) (l1 : List (S39)) (l2 : List (S39)), ok25 s0 → (l1.length * 24 ≤ 140737488351232 ∧ ∀ y ∈ l1, ok39 y) → (l2.length * 24 ≤ 140737488351232 ∧ ∀ y ∈ l2, ok39 y) → ∃ k, zan.f k s0.f0 s0.f1 s0.f2 l1 l2 = some true
end Go.Proofs.Ytgdmjpehofdnpaa.PItemCloses
end
section
namespace Go.Proofs.Ytgdmjpehofdnpaa.LReach
open Go Go.RowKit Go.Proofs.YtgdmjpehofdnpaaW.PrintWords Go.Proofs.Ytgdmjpehofdnpaa.Fl Go.Proofs.Ytgdmjpehofdnpaa.Deri Go.Proofs.Ytgdmjpehofdnpaa.LrK Go.Proofs.Ytgdmjpehofdnpaa.LLex Go.Proofs.Ytgdmjpehofdnpaa.LFlat Go.Proofs.Ytgdmjpehofdnpaa.LLooks Go.Proofs.Ytgdmjpehofdnpaa.LClos Go.Proofs.Ytgdmjpehofdnpaa.LStep Go.Proofs.Ytgdmjpehofdnpaa.LAll
set_option linter.unusedVariables false
variable {n0 : Nat} {ps : List P} {em : List Bool} {Ss : List (List Int)}
def nxtV (n0 : Nat) (ps : List P) (em : List Bool) (Ss : List (List Int)) (x : Lr) : List Lr :=
 match nextV n0 ps x with
 | none => []
 | some s => if s < n0 then [] else rowsV ps s (looksV em Ss x.2.2 ((rightV n0 ps x.1).drop (x.2.1.toNat + 1)))
theorem push_eq (S : List Lr) (x : Lr) : pushV n0 ps em Ss S x = if newV n0 ps S x = true then nxtV n0 ps em Ss x else [] := rfl
theorem nodup_le {α : Type} [DecidableEq α] : ∀ (S F : List α), S.Nodup → (∀ x ∈ S, x ∈ F) → S.length ≤ F.length
 | [], _, _, _ => Nat.zero_le _
 | a :: t, F, h, hs => by
  obtain ⟨h1, h2⟩ := List.nodup_cons.1 h
  have ha := hs a (by simp)
  have := nodup_le t (F.erase a) h2 (fun x hx => (List.mem_erase_of_ne (fun e => h1 (by subst e; exact hx))).2 (hs x (by simp [hx])))
  rw [List.length_erase_of_mem ha] at this
  have := List.length_pos_of_mem ha
  rw [List.length_cons]
  omega
def boxV (a b c : Nat) : List Lr := (List.range a).flatMap fun (i : Nat) => (List.range b).flatMap fun (j : Nat) => (List.range c).map fun (k : Nat) => ((i : Int) - 1, (j : Int), (k : Int))
theorem flatMap_len {α β : Type} (f : α → List β) (n : Nat) : ∀ l : List α, (∀ x ∈ l, (f x).length = n) → (l.flatMap f).length = l.length * n
 | [], _ => by simp
 | x :: t, h => by rw [List.flatMap_cons, List.length_append, h x (by simp), flatMap_len f n t (fun y hy => h y (by simp [hy])), List.length_cons, Nat.add_mul, Nat.one_mul]; omega
theorem box_len (a b c : Nat) : (boxV a b c).length = a * (b * c) := by
 unfold boxV
 rw [flatMap_len _ (b * c), List.length_range]
 intro i _
 rw [flatMap_len _ c, List.length_range]
 intro j _
 simp
theorem rightV_len {B : Nat} (hB : 1 ≤ B) (hps : ∀ p ∈ ps, p.2.1.length ≤ B) (i : Int) : (rightV n0 ps i).length ≤ B := by
 unfold rightV
 split
 ·simpa using hB
 ·rw [List.getD_eq_getElem?_getD]
  cases e : ps[i.toNat]? with
  | none => exact Nat.zero_le _
  | some p => exact hps p (List.mem_of_getElem? e)
theorem fit_box {B : Nat} (hB : 1 ≤ B) (hps : ∀ p ∈ ps, p.2.1.length ≤ B) {x : Lr} (h : fitV n0 ps x = true) : x ∈ boxV (ps.length + 1) (B + 1) (n0 + 1) := by
 obtain ⟨h1, h2, h3, h4, h5, h6⟩ := fitV_iff.1 h
 have := rightV_len (n0 := n0) hB hps x.1
 simp only [boxV, List.mem_flatMap, List.mem_map, List.mem_range]
 refine ⟨(x.1 + 1).toNat, by omega, x.2.1.toNat, by omega, x.2.2.toNat, by omega, ?_⟩
 obtain ⟨a, b, c⟩ := x
 simp only at h1 h3 h5 ⊢
 rw [show ((a + 1).toNat : Int) - 1 = a by omega, show ((b.toNat : Nat) : Int) = b by omega, show ((c.toNat : Nat) : Int) = c by omega]
theorem looks_len {L : Nat} (hL : ∀ i, (Ss.getD i []).length ≤ L) (lk : Int) : ∀ l : List I, (looksV em Ss lk l).length ≤ l.length * L + 1
 | [] => by simp [looksV]
 | i :: t => by
  have h1 := hL i.1.toNat
  have h2 := looks_len hL lk t
  simp only [looksV, List.length_append, List.length_cons, Nat.add_mul, Nat.one_mul]
  split
  ·omega
  ·rw [List.length_nil]; omega
theorem ofF_len (s : Int) : ∀ (i : Nat) (l : List P), (ofF s i l).length ≤ l.length
 | _, [] => by simp [ofF]
 | i, p :: t => by
  have := ofF_len s (i + 1) t
  unfold ofF
  split <;> simp <;> omega
theorem nxt_len {B L : Nat} (hB : 1 ≤ B) (hps : ∀ p ∈ ps, p.2.1.length ≤ B) (hL : ∀ i, (Ss.getD i []).length ≤ L) (x : Lr) : (nxtV n0 ps em Ss x).length ≤ (B * L + 1) * ps.length := by
 unfold nxtV
 split
 ·exact Nat.zero_le _
 ·split
  ·exact Nat.zero_le _
  ·rename_i s _ _
   unfold rowsV
   rw [flatMap_len _ (ofV ps s).length _ (fun t _ => List.length_map _)]
   refine Nat.mul_le_mul ?_ (ofF_len s 0 ps)
   refine Nat.le_trans (looks_len hL _ _) (Nat.add_le_add_right (Nat.mul_le_mul_right _ ?_) 1)
   have := rightV_len (n0 := n0) hB hps x.1
   rw [List.length_drop]
   omega
theorem putS_nodup {S : List Lr} (h : S.Nodup) (x : Lr) : (putS n0 ps S x).Nodup := by
 unfold putS
 split
 ·rename_i c
  simp only [newV, Bool.and_eq_true, Bool.not_eq_true', decide_eq_false_iff_not] at c
  exact List.nodup_append.2 ⟨h, by simp, fun a ha b hb => by rw [List.mem_singleton] at hb; subst hb; exact fun e => c.1 (e ▸ ha)⟩
 ·exact h
theorem putS_fit {S : List Lr} (h : ∀ y ∈ S, fitV n0 ps y = true) (x : Lr) : ∀ y ∈ putS n0 ps S x, fitV n0 ps y = true := by
 unfold putS
 split
 ·rename_i c
  simp only [newV, Bool.and_eq_true] at c
  intro y hy
  rcases List.mem_append.1 hy with hy | hy
  ·exact h y hy
  ·rw [List.mem_singleton] at hy; subst hy; exact c.2
 ·exact h
theorem clos_ends {B C : Nat} (hB : 1 ≤ B) (hps : ∀ p ∈ ps, p.2.1.length ≤ B) (hC : ∀ x, (nxtV n0 ps em Ss x).length ≤ C) : ∀ (d : Nat) (S T : List Lr), S.Nodup → (∀ x ∈ S, fitV n0 ps x = true) →
  ((boxV (ps.length + 1) (B + 1) (n0 + 1)).length - S.length) * (C + 1) + T.length < d → ((boxV (ps.length + 1) (B + 1) (n0 + 1)).length - S.length) * (C + 1) + (T.length + S.length) ≤ 1000000000 → ∃ r, closV n0 ps em Ss d S T = some r
 | 0, _, _, _, _, h, _ => absurd h (Nat.not_lt_zero _)
 | d + 1, S, T, hn, hf, hd, hm => by
  have hb := nodup_le S _ hn (fun x hx => fit_box hB hps (hf x hx))
  rcases snoc T with rfl | ⟨T0, x, rfl⟩
  ·exact ⟨S, by simp only [closV]; rw [if_pos (by simp at hm ⊢; omega)]; rfl⟩
  ·have e : closV n0 ps em Ss (d + 1) S (T0 ++ [x]) = closV n0 ps em Ss d (putS n0 ps S x) (T0 ++ pushV n0 ps em Ss S x) := by
    rw [closV, if_pos (by omega)]
    simp only [List.getLast?_concat, List.dropLast_concat]
   rw [e]
   have hn' := putS_nodup (n0 := n0) (ps := ps) hn x
   have hf' := putS_fit hf x
   have hb' := nodup_le _ _ hn' (fun x hx => fit_box hB hps (hf' x hx))
   have hx := hC x
   refine clos_ends hB hps hC d _ _ hn' hf' ?_ ?_ <;> generalize (boxV (ps.length + 1) (B + 1) (n0 + 1)).length = b at * <;> rw [push_eq] <;> unfold putS at hb' ⊢ <;> rw [List.length_append, List.length_singleton] at hd hm <;> split
   ·rename_i c
    rw [if_pos c, List.length_append, List.length_singleton] at hb'
    obtain ⟨m, hm'⟩ : ∃ m, b - S.length = m + 1 := ⟨b - S.length - 1, by omega⟩
    rw [hm', Nat.add_mul, Nat.one_mul] at hd
    rw [List.length_append, List.length_singleton, List.length_append, show b - (S.length + 1) = m by omega]
    generalize m * (C + 1) = q at *
    omega
   ·simp only [List.append_nil]
    omega
   ·rename_i c
    rw [if_pos c, List.length_append, List.length_singleton] at hb'
    obtain ⟨m, hm'⟩ : ∃ m, b - S.length = m + 1 := ⟨b - S.length - 1, by omega⟩
    rw [hm', Nat.add_mul, Nat.one_mul] at hm
    rw [List.length_append, List.length_append, List.length_singleton, show b - (S.length + 1) = m by omega]
    generalize m * (C + 1) = q at *
    omega
   ·simp only [List.append_nil]
    omega
inductive Rch (n0 : Nat) (ps : List P) (em : List Bool) (Ss : List (List Int)) (T : List Lr) : Lr → Prop
 | base (x : Lr) : x ∈ T → fitV n0 ps x = true → Rch n0 ps em Ss T x
 | step (x y : Lr) : Rch n0 ps em Ss T x → y ∈ nxtV n0 ps em Ss x → fitV n0 ps y = true → Rch n0 ps em Ss T y
theorem Rch.fit {T : List Lr} {x : Lr} (h : Rch n0 ps em Ss T x) : fitV n0 ps x = true := by
 cases h with
 | base _ _ h => exact h
 | step _ _ _ _ h => exact h
theorem Rch.mono {T U : List Lr} (hs : ∀ x ∈ T, x ∈ U) {x : Lr} (h : Rch n0 ps em Ss T x) : Rch n0 ps em Ss U x := by
 induction h with
 | base x h1 h2 => exact .base x (hs x h1) h2
 | step x y _ h2 h3 ih => exact .step x y ih h2 h3
theorem Rch.idem {T U : List Lr} (hs : ∀ x ∈ U, Rch n0 ps em Ss T x) {x : Lr} (h : Rch n0 ps em Ss U x) : Rch n0 ps em Ss T x := by
 induction h with
 | base x h1 h2 => exact hs x h1
 | step x y _ h2 h3 ih => exact .step x y ih h2 h3
theorem mem_putS {S : List Lr} {x y : Lr} : y ∈ putS n0 ps S x ↔ y ∈ S ∨ (y = x ∧ fitV n0 ps x = true) := by
 unfold putS
 split
 ·rename_i c
  simp only [newV, Bool.and_eq_true, Bool.not_eq_true', decide_eq_false_iff_not] at c
  rw [List.mem_append, List.mem_singleton]
  exact ⟨fun h => h.imp id fun h => ⟨h, c.2⟩, fun h => h.imp id (·.1)⟩
 ·rename_i c
  refine ⟨.inl, fun h => h.elim id fun ⟨h1, h2⟩ => ?_⟩
  subst h1
  simp only [newV, Bool.and_eq_true, Bool.not_eq_true', decide_eq_false_iff_not] at c
  exact Decidable.not_not.1 fun g => c ⟨g, h2⟩
theorem clos_spec : ∀ (k : Nat) (S T r : List Lr), closV n0 ps em Ss k S T = some r → S.Nodup → (∀ x ∈ S, ∀ y ∈ nxtV n0 ps em Ss x, fitV n0 ps y = true → y ∈ S ∨ y ∈ T) →
  r.Nodup ∧ (∀ x ∈ S, x ∈ r) ∧ (∀ x ∈ T, fitV n0 ps x = true → x ∈ r) ∧ (∀ x ∈ r, ∀ y ∈ nxtV n0 ps em Ss x, fitV n0 ps y = true → y ∈ r) ∧
  (∀ Q : Lr → Prop, (∀ x ∈ S, Q x) → (∀ x ∈ T, fitV n0 ps x = true → Q x) → (∀ x y, Q x → y ∈ nxtV n0 ps em Ss x → fitV n0 ps y = true → Q y) → ∀ x ∈ r, Q x)
 | k, S, T, r, h, hn, hc => by
  rcases snoc T with rfl | ⟨T0, x, rfl⟩
  ·obtain ⟨rfl, _⟩ := closV_nil h
   exact ⟨hn, fun x hx => hx, fun x hx => (nomatch hx), fun x hx y hy hf => (hc x hx y hy hf).elim id (fun h => nomatch h), fun Q h1 _ _ => h1⟩
  ·obtain ⟨m, rfl, _, h'⟩ := closV_step h
   have hc' : ∀ z ∈ putS n0 ps S x, ∀ y ∈ nxtV n0 ps em Ss z, fitV n0 ps y = true → y ∈ putS n0 ps S x ∨ y ∈ T0 ++ pushV n0 ps em Ss S x := by
    intro z hz y hy hf
    by_cases hzS : z ∈ S
    ·rcases hc z hzS y hy hf with g | g
     ·exact .inl (mem_putS.2 (.inl g))
     ·rcases List.mem_append.1 g with g | g
      ·exact .inr (List.mem_append.2 (.inl g))
      ·rw [List.mem_singleton] at g
       subst g
       exact .inl (mem_putS.2 (.inr ⟨rfl, hf⟩))
    ·rcases mem_putS.1 hz with g | ⟨g, g2⟩
     ·exact absurd g hzS
     ·subst g
      refine .inr (List.mem_append.2 (.inr ?_))
      rw [push_eq, if_pos (by simp only [newV, Bool.and_eq_true, Bool.not_eq_true', decide_eq_false_iff_not]; exact ⟨hzS, g2⟩)]
      exact hy
   obtain ⟨q1, q2, q3, q4, q5⟩ := clos_spec m _ _ r h' (putS_nodup hn x) hc'
   refine ⟨q1, fun y hy => q2 y (mem_putS.2 (.inl hy)), fun y hy hf => ?_, q4, fun Q h1 h2 h3 => q5 Q ?_ ?_ h3⟩
   ·rcases List.mem_append.1 hy with hy | hy
    ·exact q3 y (List.mem_append.2 (.inl hy)) hf
    ·rw [List.mem_singleton] at hy
     subst hy
     exact q2 y (mem_putS.2 (.inr ⟨rfl, hf⟩))
   ·intro y hy
    rcases mem_putS.1 hy with g | ⟨rfl, g⟩
    ·exact h1 y g
    ·exact h2 y (by simp) g
   ·intro y hy hf
    rcases List.mem_append.1 hy with hy | hy
    ·exact h2 y (by simp [hy]) hf
    ·rw [push_eq] at hy
     split at hy
     ·rename_i c
      simp only [newV, Bool.and_eq_true] at c
      exact h3 x y (h2 x (by simp) c.2) hy hf
     ·exact nomatch hy
def IsClos (n0 : Nat) (ps : List P) (em : List Bool) (Ss : List (List Int)) (T c : List Lr) : Prop := RisesL c ∧ ∀ x, x ∈ c ↔ Rch n0 ps em Ss T x
theorem clos_is {k : Nat} {T r : List Lr} (h : closV n0 ps em Ss k [] T = some r) : IsClos n0 ps em Ss T (srtL r) := by
 obtain ⟨q1, _, q3, q4, q5⟩ := clos_spec k [] T r h List.nodup_nil (fun _ hx => nomatch hx)
 refine ⟨srtL_rises q1, fun x => ?_⟩
 rw [srtL_mem]
 constructor
 ·exact q5 (Rch n0 ps em Ss T) (fun _ hx => nomatch hx) (fun x hx hf => .base x hx hf) (fun x y hx hy hf => .step x y hx hy hf) x
 ·intro hx
  induction hx with
  | base x h1 h2 => exact q3 x h1 h2
  | step x y _ h2 h3 ih => exact q4 x ih y h2 h3
theorem IsClos.one {T U c d : List Lr} (h1 : IsClos n0 ps em Ss T c) (h2 : IsClos n0 ps em Ss U d) (h : ∀ x, Rch n0 ps em Ss T x ↔ Rch n0 ps em Ss U x) : c = d :=
 risesL_one h1.1 h2.1 fun x => by rw [h1.2, h2.2, h]
theorem IsClos.idem {T c d : List Lr} (h1 : IsClos n0 ps em Ss T c) (h2 : IsClos n0 ps em Ss c d) : d = c :=
 h2.one h1 fun x => ⟨fun h => h.idem fun y hy => (h1.2 y).1 hy, fun h => .base x ((h1.2 x).2 h) h.fit⟩
theorem IsClos.sub {T U c d : List Lr} (h1 : IsClos n0 ps em Ss T c) (h2 : IsClos n0 ps em Ss U d) (h : ∀ x ∈ T, x ∈ U) : ∀ x ∈ c, x ∈ d := fun x hx => (h2.2 x).2 (((h1.2 x).1 hx).mono h)
theorem rises_nodup {c : List Lr} (h : RisesL c) : c.Nodup := List.Pairwise.imp (fun {a b} h e => by subst e; exact bef_irrefl _ h) h
theorem IsClos.len {B : Nat} (hB : 1 ≤ B) (hps : ∀ p ∈ ps, p.2.1.length ≤ B) {T c : List Lr} (h : IsClos n0 ps em Ss T c) : c.length ≤ (ps.length + 1) * ((B + 1) * (n0 + 1)) := by
 have := nodup_le c _ (rises_nodup h.1) (fun x hx => fit_box hB hps ((h.2 x).1 hx).fit)
 rwa [box_len] at this
end Go.Proofs.Ytgdmjpehofdnpaa.LReach
end
section
namespace Go.Proofs.Ytgdmjpehofdnpaa.Pure
set_option linter.unusedVariables false
set_option linter.unusedSimpArgs false
open Go.RowKit Go.Proofs.Ytgdmjpehofdnpaa.PItemCloses Go.Proofs.YtgdmjpehofdnpaaW.PrintWords Go.Proofs.YtgdmjpehofdnpaaW.PrintLast Go.Proofs.YtgdmjpehofdnpaaW.PrintMore
theorem w64 {x : Int} (h1 : -9223372036854775808 ≤ x) (h2 : x ≤ 9223372036854775807) : wrap64 x = x := by
 unfold wrap64
 omega
theorem evAt {α : Type} {g : Nat → Option α} {r : α} (h : ∀ k, g (k + 1) = some r) : Ev g r := ⟨1, fun k hk => by obtain ⟨m, rfl⟩ : ∃ m, k = m + 1 := ⟨k - 1, by omega⟩; exact h m⟩
section
open Go.Proofs.Ytgdmjpehofdnpaa.Grow Go.Proofs.Ytgdmjpehofdnpaa.Deri Go.Proofs.Ytgdmjpehofdnpaa.Begin Go.Proofs.Ytgdmjpehofdnpaa.Begun Go.Proofs.Ytgdmjpehofdnpaa.MSet Go.Proofs.Ytgdmjpehofdnpaa.LInv
variable {σ : Type} {step : σ → Fl.P → σ × Bool}
structure Steps (step : σ → Fl.P → σ × Bool) (ps : List Fl.P) (I : σ → Prop) (m : σ → Nat) (M : Nat) : Prop where
 keep : ∀ s p, p ∈ ps → I s → I (step s p).1
 up : ∀ s p, p ∈ ps → I s → (step s p).2 = true → m s < m (step s p).1
 no : ∀ s p, p ∈ ps → I s → (step s p).2 = false → (step s p).1 = s
 bound : ∀ s, I s → m s ≤ M
theorem rounds_go {ps : List Fl.P} {I : σ → Prop} {m : σ → Nat} {M : Nat} (h : Steps step ps I m M) : ∀ (qs : List Fl.P), (∀ p ∈ qs, p ∈ ps) → ∀ (s : σ) (b : Bool), I s →
  I (qs.foldl (roundV step) (s, b)).1 ∧ m s ≤ m (qs.foldl (roundV step) (s, b)).1 ∧ ((qs.foldl (roundV step) (s, b)).2 = true → b = true ∨ m s < m (qs.foldl (roundV step) (s, b)).1) ∧
  ((qs.foldl (roundV step) (s, b)).2 = false → (qs.foldl (roundV step) (s, b)).1 = s ∧ b = false ∧ ∀ p ∈ qs, (step s p).2 = false) ∧
  (∀ Q : σ → Prop, (∀ t p, p ∈ ps → I t → Q t → Q (step t p).1) → Q s → Q (qs.foldl (roundV step) (s, b)).1)
 | [], _, s, b, hs => ⟨hs, Nat.le_refl _, fun h => .inl h, fun h => ⟨rfl, h, fun _ hp => nomatch hp⟩, fun _ _ hq => hq⟩
 | p :: t, hq, s, b, hs => by
  have hp := hq p (by simp)
  have e : (p :: t).foldl (roundV step) (s, b) = t.foldl (roundV step) ((step s p).1, b || (step s p).2) := rfl
  rw [e]
  obtain ⟨h1, h2, h3, h4, h5⟩ := rounds_go h t (fun q hq' => hq q (by simp [hq'])) (step s p).1 (b || (step s p).2) (h.keep s p hp hs)
  have hle : m s ≤ m (step s p).1 := by
   cases c : (step s p).2 with
   | true => exact Nat.le_of_lt (h.up s p hp hs c)
   | false => rw [h.no s p hp hs c]; exact Nat.le_refl _
  refine ⟨h1, Nat.le_trans hle h2, fun hb => ?_, fun hb => ?_, fun Q hQ hs' => h5 Q hQ (hQ s p hp hs hs')⟩
  ·rcases h3 hb with h6 | h6
   ·cases c : (step s p).2 with
    | true => exact .inr (Nat.lt_of_lt_of_le (h.up s p hp hs c) (by rw [c] at h2; exact h2))
    | false => rw [c, Bool.or_false] at h6; exact .inl h6
   ·exact .inr (Nat.lt_of_le_of_lt hle h6)
  ·obtain ⟨h6, h7, h8⟩ := h4 hb
   obtain ⟨h9, h10⟩ := Bool.or_eq_false_iff.1 h7
   have h11 := h.no s p hp hs h10
   rw [h11] at h6 h8
   rw [h11]
   refine ⟨h6, h9, fun q hq' => ?_⟩
   rcases List.mem_cons.1 hq' with rfl | hq'
   ·exact h10
   ·exact h8 q hq'
theorem grow_ends {ps : List Fl.P} {I : σ → Prop} {m : σ → Nat} {M : Nat} (h : Steps step ps I m M) : ∀ (d : Nat) (s : σ), I s → M - m s < d → ∃ r, growV step ps d s = some r ∧ I r ∧ (∀ p ∈ ps, (step r p).2 = false) ∧ (∀ Q : σ → Prop, (∀ t p, p ∈ ps → I t → Q t → Q (step t p).1) → Q s → Q r)
 | 0, _, _, hd => absurd hd (Nat.not_lt_zero _)
 | d + 1, s, hs, hd => by
  obtain ⟨h1, h2, h3, h4, h5⟩ := rounds_go h ps (fun p hp => hp) s false hs
  simp only [growV]
  show ∃ r, (if (ps.foldl (roundV step) (s, false)).2 = true then _ else some (ps.foldl (roundV step) (s, false)).1) = some r ∧ _
  split
  ·rename_i hb
   rcases h3 hb with h6 | h6
   ·cases h6
   ·have := h.bound _ h1
    obtain ⟨r, g1, g2, g3, g4⟩ := grow_ends h d _ h1 (by omega)
    exact ⟨r, g1, g2, g3, fun Q hQ hs' => g4 Q hQ (h5 Q hQ hs')⟩
  ·rename_i hb
   obtain ⟨h6, _, h8⟩ := h4 (by simpa using hb)
   exact ⟨_, rfl, h1, by rw [h6]; exact h8, h5⟩
theorem grow_up {ps : List Fl.P} : ∀ (k : Nat) (s r : σ), growV step ps k s = some r → growV step ps (k + 1) s = some r
 | 0, _, _, h => by simp [growV] at h
 | k + 1, s, r, h => by
  have e : ∀ k, growV step ps (k + 1) s = if (roundsV step ps s).2 = true then growV step ps k (roundsV step ps s).1 else some (roundsV step ps s).1 := fun _ => rfl
  rw [e] at h ⊢
  split
  ·rename_i c
   rw [if_pos c] at h
   exact grow_up k _ _ h
  ·rename_i c
   rw [if_neg c] at h
   exact h
theorem grow_Ev {ps : List Fl.P} {d : Nat} {s r : σ} (h : growV step ps d s = some r) : Ev (fun k => growV step ps k s) r := Ev.of (fun k => (fun r h => grow_up k s r h)) h
theorem cnt_set : ∀ (bs : List Bool) (i : Nat), i < bs.length → bs.getD i false = false → (bs.set i true).count true = bs.count true + 1
 | [], i, h, _ => by simp at h
 | b :: t, 0, _, hb => by
  have : b = false := hb
  subst this
  simp
 | b :: t, i + 1, h, hb => by
  have := cnt_set t i (by simpa using h) hb
  simp only [Y3, List.count_cons, this]
  omega
theorem steps_D {N : Nat} {ps : List Fl.P} (hps : ∀ p ∈ ps, PrOk N p) : Steps stepD ps (fun bs => bs.length = N) (fun bs => bs.count true) N := by
 refine ⟨fun s p _ hs => ?_, fun s p hp hs h => ?_, fun s p _ _ h => ?_, fun s hs => by rw [← hs]; exact List.count_le_length⟩
 ·unfold stepD
  split
  ·exact hs
  ·rw [List.length_set]; exact hs
 ·have h1 := (hps p hp).1
  have h2 := (hps p hp).2.1
  unfold stepD at h ⊢
  split at h
  ·cases h
  ·rename_i c
   rw [if_neg c]
   rw [Bool.not_eq_true, Bool.or_eq_false_iff] at c
   show _ < (s.set _ true).count true
   rw [cnt_set s p.1.toNat (by omega) c.1]
   omega
 ·unfold stepD at h ⊢
  split
  ·rfl
  ·rename_i c
   rw [if_neg c] at h
   cases h
def szs (FS : List (List Int)) : Nat := (FS.map List.length).sum
theorem szs_set : ∀ (FS : List (List Int)) (i : Nat) (X : List Int), i < FS.length → szs (FS.set i X) + (FS.getD i []).length = szs FS + X.length
 | [], i, _, h => by simp at h
 | S :: t, 0, X, _ => by simp [szs]; omega
 | S :: t, i + 1, X, h => by
  have := szs_set t i X (by simpa using h)
  simp only [szs, Y3, List.map_cons, List.sum_cons, List.getD_cons_succ] at *
  omega
theorem szs_le : ∀ (FS : List (List Int)), (∀ S ∈ FS, S.length ≤ 1000000) → szs FS ≤ FS.length * 1000000
 | [], _ => by simp [szs]
 | S :: t, h => by
  have h1 := h S (by simp)
  have h2 := szs_le t (fun T hT => h T (by simp [hT]))
  simp only [szs, List.map_cons, List.sum_cons, List.length_cons] at *
  omega
theorem inv_szs {N : Nat} {FS : List (List Int)} (h : Inv N FS) : szs FS ≤ N * 1000000 := by
 have := szs_le FS (fun S hS => by
  obtain ⟨i, hi, rfl⟩ := List.mem_iff_getElem.1 hS
  have := h.len i
  rwa [List.getD_eq_getElem?_getD, List.getElem?_eq_getElem hi] at this)
 rwa [h.l] at this
theorem putV_grow (x : Int) : ∀ l : List Int, putV l x = l ∨ (putV l x).length = l.length + 1
 | [] => .inr rfl
 | a :: t => by
  simp only [putV]
  split
  ·exact .inr rfl
  ·split
   ·exact .inl rfl
   ·rcases putV_grow x t with h | h
    ·exact .inl (by rw [h])
    ·exact .inr (by simp [h])
theorem unionV_ge : ∀ (xs l : List Int), l.length ≤ (unionV l xs).length
 | [], l => Nat.le_refl _
 | x :: t, l => by
  have h1 := unionV_ge t (putV l x)
  have h2 : l.length ≤ (putV l x).length := by rcases putV_grow x l with h | h <;> rw [h] <;> omega
  exact Nat.le_trans h2 h1
theorem unionV_id : ∀ (xs l : List Int), (unionV l xs).length ≤ l.length → unionV l xs = l
 | [], l, _ => rfl
 | x :: t, l, h => by
  have e : unionV l (x :: t) = unionV (putV l x) t := rfl
  rw [e] at h ⊢
  have h1 := unionV_ge t (putV l x)
  rcases putV_grow x l with h2 | h2
  ·rw [h2] at h ⊢
   exact unionV_id t l h
  ·omega
theorem set_getD (FS : List (List Int)) (i : Nat) : FS.set i (FS.getD i []) = FS := by
 by_cases h : i < FS.length
 ·rw [List.getD_eq_getElem?_getD, List.getElem?_eq_getElem h]
  exact List.set_getElem_self _
 ·exact List.set_eq_of_length_le (by omega)
theorem steps_F {N : Nat} {em : List Bool} {ps : List Fl.P} (hps : ∀ p ∈ ps, PrOk N p) : Steps (stepF N em) ps (Inv N) szs (N * 1000000) := by
 refine ⟨fun s p _ hs => Inv.stepF hs, fun s p hp hs h => ?_, fun s p _ _ h => ?_, fun s hs => inv_szs hs⟩
 ·have h1 := (hps p hp).1
  have h2 := (hps p hp).2.1
  have h3 := szs_set s p.1.toNat (unionV (s.getD p.1.toNat []) (ahV N em s p.2.1 [])) (by rw [hs.l]; omega)
  have h4 := of_decide_eq_true h
  show szs s < szs (s.set _ _)
  omega
 ·have h4 := of_decide_eq_false h
  have h5 := unionV_id (ahV N em s p.2.1 []) (s.getD p.1.toNat []) (by omega)
  show s.set _ _ = s
  rw [h5, set_getD]
end
theorem rd40_drop (l : List S46) (i : Nat) (h : i < l.length) : l.drop i = zal l (i : Int) :: l.drop (i + 1) := by
 rw [List.drop_eq_getElem_cons h]
 congr 1
 show _ = l.getD ((i : Int)).toNat z46
 rw [Int.toNat_natCast, List.getD_eq_getElem?_getD, List.getElem?_eq_getElem h]
 rfl
theorem rd48_drop (l : List S43) (i : Nat) (h : i < l.length) : l.drop i = zbl l (i : Int) :: l.drop (i + 1) := by
 rw [List.drop_eq_getElem_cons h]
 congr 1
 show _ = l.getD ((i : Int)).toNat z43
 rw [Int.toNat_natCast, List.getD_eq_getElem?_getD, List.getElem?_eq_getElem h]
 rfl
theorem rd40_mem (l : List S46) (i : Nat) (h : i < l.length) : zal l (i : Int) ∈ l := by
 have := rd40_drop l i h
 exact List.mem_of_mem_drop (i := i) (by rw [this]; simp)
theorem rd48_mem (l : List S43) (i : Nat) (h : i < l.length) : zbl l (i : Int) ∈ l := by
 have := rd48_drop l i h
 exact List.mem_of_mem_drop (i := i) (by rw [this]; simp)
theorem light_Ev (t n : List ByteArray) (l : List S46) (hl : l.length ≤ 100000000000000) : ∃ b, Ev (fun k => za3.f k t n l) b := by
 have go : ∀ (d i : Nat) (x : Int), i + d = l.length → ∃ b, Ev (fun k => za3.l0 k x (i : Int) t n l) b := by
  intro d
  induction d with
  | zero =>
   intro i x hi
   exact ⟨_, evAt fun k => by simp only [za3.l0]; rw [if_neg (by omega)]⟩
  | succ d ih =>
   intro i x hi
   by_cases hx : x ≥ 0
   ·obtain ⟨b, e⟩ := ih (i + 1) (wrap64 ((wrap64 (x - 1)) - (((zal l i).f1).length : Int))) (by omega)
    refine ⟨b, Ev.step (fun k => ?_) e⟩
    simp only [za3.l0]
    rw [if_pos (by omega), if_pos hx, if_pos (by omega), w64 (x := (i : Int) + 1) (by omega) (by omega)]
    rfl
   ·exact ⟨_, evAt fun k => by simp only [za3.l0]; rw [if_pos (by omega), if_neg hx]⟩
 exact go l.length 0 _ (by omega)
theorem titles_Ev (l : List ByteArray) (hl : l.length ≤ 100000000000000) : ∃ b, Ev (fun k => zav.f k l) b := by
 have go : ∀ (d i : Nat), i + d = l.length → ∃ b, Ev (fun k => zav.l0 k l (i : Int)) b := by
  intro d
  induction d with
  | zero =>
   intro i hi
   exact ⟨_, evAt fun k => by simp only [zav.l0]; rw [if_neg (by omega)]⟩
  | succ d ih =>
   intro i hi
   by_cases h1 : (rdOf ByteArray.empty l (i : Int)).toList = ([] : List UInt8)
   ·exact ⟨_, evAt fun k => by simp only [zav.l0]; rw [if_pos (by omega), if_pos (by omega), if_pos h1]⟩
   ·by_cases h2 : ((rdOf ByteArray.empty l (i : Int)).size : Int) > 80
    ·exact ⟨_, evAt fun k => by simp only [zav.l0]; rw [if_pos (by omega), if_pos (by omega), if_neg h1, if_pos h2]⟩
    ·obtain ⟨b, e⟩ := ih (i + 1) (by omega)
     refine ⟨b, Ev.step (fun k => ?_) e⟩
     simp only [zav.l0]
     rw [if_pos (by omega), if_pos (by omega), if_neg h1, if_neg h2, w64 (x := (i : Int) + 1) (by omega) (by omega)]
     rfl
 exact go l.length 0 (by omega)
theorem letter_some (a : Int) : ∃ b, zbw.f a = some b := by
 unfold zbw.f
 repeat' split
 all_goals exact ⟨_, rfl⟩
theorem digit_some (a : Int) : ∃ b, zbx.f a = some b := by
 unfold zbx.f
 repeat' split
 all_goals exact ⟨_, rfl⟩
theorem name7_Ev (s : ByteArray) (hs : s.size ≤ 1000000000000000) : ∃ b, Ev (fun k => zaz.f k s) b := by
 have go : ∀ (d i : Nat), i + d = s.size → ∃ b, Ev (fun k => zaz.l0 k s (i : Int)) b := by
  intro d
  induction d with
  | zero =>
   intro i hi
   by_cases h : s.toList = ([] : List UInt8)
   ·exact ⟨_, evAt fun k => by simp only [zaz.l0]; rw [if_neg (by omega), if_pos h]⟩
   ·exact ⟨_, evAt fun k => by simp only [zaz.l0]; rw [if_neg (by omega), if_neg h]⟩
  | succ d ih =>
   intro i hi
   obtain ⟨b, e⟩ := ih (i + 1) (by omega)
   have hw := w64 (x := (i : Int) + 1) (by omega) (by omega)
   obtain ⟨c, hc⟩ := letter_some (bt s (i : Int))
   obtain ⟨c2, hc2⟩ := digit_some (bt s (i : Int))
   cases c with
   | true =>
    refine ⟨b, Ev.step (fun k => ?_) e⟩
    simp only [zaz.l0]
    rw [if_pos (by omega), if_pos (by omega), hc, hw]
    rfl
   | false =>
    by_cases h0 : (i : Int) = 0
    ·refine ⟨false, evAt fun k => ?_⟩
     simp only [zaz.l0]
     rw [if_pos (by omega), if_pos (by omega), hc]
     simp only [Option.bind_some, Bool.false_eq_true, if_false]
     rw [if_pos h0]
    ·cases c2 with
     | true =>
      refine ⟨b, Ev.step (fun k => ?_) e⟩
      simp only [zaz.l0]
      rw [if_pos (by omega), if_pos (by omega), hc, hw]
      simp only [Option.bind_some, Bool.false_eq_true, if_false]
      rw [if_neg h0, hc2]
      rfl
     | false =>
      refine ⟨false, evAt fun k => ?_⟩
      simp only [zaz.l0]
      rw [if_pos (by omega), if_pos (by omega), hc]
      simp only [Option.bind_some, Bool.false_eq_true, if_false]
      rw [if_neg h0, hc2]
      rfl
 exact go s.size 0 (by omega)
theorem name9_Ev (s : ByteArray) (hs : s.size ≤ 1000000000000000) : ∃ b, Ev (fun k => za0.f k s) b := by
 unfold za0.f
 by_cases h : s.toList = ([] : List UInt8)
 ·exact ⟨true, by simp only [if_pos h]; exact Ev.now _⟩
 ·obtain ⟨b, e⟩ := name7_Ev s hs
  exact ⟨b, by simp only [if_neg h]; exact Ev.bind e (Ev.now _)⟩
def prFit (t : Nat) (n : Int) (p : S46) : Prop := (t : Int) ≤ p.f0 ∧ p.f0 < n ∧ p.f1.length ≤ 64 ∧ ∀ x ∈ p.f1, 0 ≤ x.f0 ∧ x.f0 < n
theorem fit_items (t n : List ByteArray) (l : List S46) (x3 : Int) (i : Nat) (p : S46) (hp : p.f1.length ≤ 100000000000000) (hok : ∀ x ∈ p.f1, x.f1.size ≤ 1000000000000000 ∧ x.f2.size ≤ 1000000000000000) (hi : i ≤ 100000000000000)
  (Pr : Prop) (hn : ∃ b, Ev (fun k => zam.l0 k x3 ((i + 1 : Nat) : Int) t n l) b ∧ (b = true → Pr)) :
  ∀ (d j : Nat), j + d = p.f1.length → ∃ b, Ev (fun k => zam.l1 k x3 (i : Int) (j : Int) t n l p.f0 p.f1 p.f2) b ∧ (b = true → Pr ∧ ∀ x ∈ p.f1.drop j, 0 ≤ x.f0 ∧ x.f0 < x3) := by
 intro d
 induction d with
 | zero =>
  intro j hj
  obtain ⟨b, e, g⟩ := hn
  refine ⟨b, Ev.step (fun k => ?_) e, fun hb => ⟨g hb, fun x hx => ?_⟩⟩
  ·simp only [zam.l1]
   rw [if_neg (by omega), w64 (x := (i : Int) + 1) (by omega) (by omega)]
   rfl
  ·rw [List.drop_of_length_le (by omega)] at hx
   exact nomatch hx
 | succ d ih =>
  intro j hj
  have hx := hok _ (rd48_mem p.f1 j (by omega))
  by_cases h1 : (zbl p.f1 (j : Int)).f0 < 0
  ·exact ⟨false, evAt fun k => by simp only [zam.l1]; rw [if_pos (by omega), if_pos (by omega), if_pos h1], fun h => nomatch h⟩
  by_cases h2 : (zbl p.f1 (j : Int)).f0 ≥ x3
  ·exact ⟨false, evAt fun k => by simp only [zam.l1]; rw [if_pos (by omega), if_pos (by omega), if_neg h1, if_pos h2], fun h => nomatch h⟩
  obtain ⟨b1, e1⟩ := name9_Ev _ hx.1
  obtain ⟨b2, e2⟩ := name9_Ev _ hx.2
  obtain ⟨b, e, g⟩ := ih (j + 1) (by omega)
  have hs : ∀ k, zam.l1 (k + 1) x3 (i : Int) (j : Int) t n l p.f0 p.f1 p.f2 = (za0.f k (zbl p.f1 (j : Int)).f1).bind fun t114 => (if t114 = true then ((za0.f k (zbl p.f1 (j : Int)).f2).bind fun t115 => (if t115 = true then zam.l1 k x3 (i : Int) ((j + 1 : Nat) : Int) t n l p.f0 p.f1 p.f2 else some false)) else some false) := fun k => by
   simp only [zam.l1]
   rw [if_pos (by omega), if_pos (by omega), if_neg h1, if_neg h2, w64 (x := (j : Int) + 1) (by omega) (by omega)]
   rfl
  cases b1 with
  | false => exact ⟨false, Ev.step hs (Ev.bind e1 (by simp only [Bool.false_eq_true, if_false]; exact Ev.now _)), fun h => nomatch h⟩
  | true =>
   cases b2 with
   | false => exact ⟨false, Ev.step hs (Ev.bind e1 (by simp only [if_true]; exact Ev.bind e2 (by simp only [Bool.false_eq_true, if_false]; exact Ev.now _))), fun h => nomatch h⟩
   | true =>
    refine ⟨b, Ev.step hs (Ev.bind e1 (by simp only [if_true]; exact Ev.bind e2 (by simp only [if_true]; exact e))), fun hb => ?_⟩
    obtain ⟨g1, g2⟩ := g hb
    refine ⟨g1, fun x hx' => ?_⟩
    rw [rd48_drop p.f1 j (by omega)] at hx'
    rcases List.mem_cons.1 hx' with rfl | hx'
    ·exact ⟨by omega, by omega⟩
    ·exact g2 x hx'
theorem fit_prods (t n : List ByteArray) (l : List S46) (x3 : Int) (hl : l.length ≤ 100000000000000) (hok : ∀ p ∈ l, p.f1.length ≤ 100000000000000 ∧ ∀ x ∈ p.f1, x.f1.size ≤ 1000000000000000 ∧ x.f2.size ≤ 1000000000000000) :
  ∀ (d i : Nat), i + d = l.length → ∃ b, Ev (fun k => zam.l0 k x3 (i : Int) t n l) b ∧ (b = true → ∀ p ∈ l.drop i, prFit t.length x3 p) := by
 intro d
 induction d with
 | zero =>
  intro i hi
  refine ⟨true, evAt fun k => by simp only [zam.l0]; rw [if_neg (by omega)], fun _ p hp => ?_⟩
  rw [List.drop_of_length_le (by omega)] at hp
  exact nomatch hp
 | succ d ih =>
  intro i hi
  have hp := hok _ (rd40_mem l i (by omega))
  have hd := rd40_drop l i (by omega)
  generalize hpe : zal l (i : Int) = p at hp hd
  have bad : ∀ k, zam.j2 (k + 1) x3 (i : Int) true t n l p.f0 p.f1 p.f2 = some false := fun k => by simp only [zam.j2]; rw [if_pos trivial]
  have step : ∀ b, (∀ k, zam.l0 (k + 1) x3 (i : Int) t n l = zam.j2 k x3 (i : Int) b t n l p.f0 p.f1 p.f2) → (b = false → (t.length : Int) ≤ p.f0 ∧ p.f0 < x3 ∧ p.f1.length ≤ 64) →
    ∃ b, Ev (fun k => zam.l0 k x3 (i : Int) t n l) b ∧ (b = true → ∀ p ∈ l.drop i, prFit t.length x3 p) := by
   intro b hk hb
   cases b with
   | true => exact ⟨false, Ev.step hk (evAt bad), fun h => nomatch h⟩
   | false =>
    obtain ⟨q1, q2, q3⟩ := hb rfl
    obtain ⟨b, e, g⟩ := fit_items t n l x3 i p hp.1 hp.2 (by omega) _ (ih (i + 1) (by omega)) p.f1.length 0 (by omega)
    refine ⟨b, Ev.step hk (Ev.step (fun k => ?_) e), fun hb' q hq => ?_⟩
    ·simp only [zam.j2]
     rw [if_neg (by decide)]
     rfl
    ·obtain ⟨g1, g2⟩ := g hb'
     rw [hd] at hq
     rcases List.mem_cons.1 hq with rfl | hq
     ·exact ⟨q1, q2, q3, fun x hx => g2 x (by rw [List.drop_zero]; exact hx)⟩
     ·exact g1 q hq
  by_cases c1 : p.f0 < (t.length : Int)
  ·exact step true (fun k => by simp only [zam.l0]; rw [hpe, if_pos (by omega), if_pos (by omega), if_pos c1]) (fun h => nomatch h)
  by_cases c2 : p.f0 ≥ x3
  ·exact step true (fun k => by simp only [zam.l0]; rw [hpe, if_pos (by omega), if_pos (by omega), if_neg c1, if_pos c2]) (fun h => nomatch h)
  by_cases c3 : (i : Int) > 0
  ·have hw := w64 (x := (i : Int) - 1) (by omega) (by omega)
   by_cases c4 : (zal l ((i : Int) - 1)).f0 > p.f0
   ·exact step true (fun k => by simp only [zam.l0]; rw [hpe, hw, if_pos (by omega), if_pos (by omega), if_neg c1, if_neg c2, if_pos c3, if_pos (by omega), if_pos (by omega), if_pos c4]) (fun h => nomatch h)
   by_cases c5 : (p.f1.length : Int) > 64
   ·exact step true (fun k => by simp only [zam.l0]; rw [hpe, hw, if_pos (by omega), if_pos (by omega), if_neg c1, if_neg c2, if_pos c3, if_pos (by omega), if_pos (by omega), if_neg c4, if_pos c5]) (fun h => nomatch h)
   by_cases c6 : p.f2 < -10000
   ·exact step true (fun k => by simp only [zam.l0]; rw [hpe, hw, if_pos (by omega), if_pos (by omega), if_neg c1, if_neg c2, if_pos c3, if_pos (by omega), if_pos (by omega), if_neg c4, if_neg c5, if_pos c6]) (fun h => nomatch h)
   ·exact step (decide (p.f2 > 10000)) (fun k => by simp only [zam.l0]; rw [hpe, hw, if_pos (by omega), if_pos (by omega), if_neg c1, if_neg c2, if_pos c3, if_pos (by omega), if_pos (by omega), if_neg c4, if_neg c5, if_neg c6]) (fun _ => ⟨by omega, by omega, by omega⟩)
  ·by_cases c5 : (p.f1.length : Int) > 64
   ·exact step true (fun k => by simp only [zam.l0]; rw [hpe, if_pos (by omega), if_pos (by omega), if_neg c1, if_neg c2, if_neg c3, if_pos c5]) (fun h => nomatch h)
   by_cases c6 : p.f2 < -10000
   ·exact step true (fun k => by simp only [zam.l0]; rw [hpe, if_pos (by omega), if_pos (by omega), if_neg c1, if_neg c2, if_neg c3, if_neg c5, if_pos c6]) (fun h => nomatch h)
   ·exact step (decide (p.f2 > 10000)) (fun k => by simp only [zam.l0]; rw [hpe, if_pos (by omega), if_pos (by omega), if_neg c1, if_neg c2, if_neg c3, if_neg c5, if_neg c6]) (fun _ => ⟨by omega, by omega, by omega⟩)
theorem fit_Ev (t n : List ByteArray) (l : List S46) (ht : t.length ≤ 100000000000000) (hn : n.length ≤ 100000000000000) (hl : l.length ≤ 100000000000000) (hok : ∀ p ∈ l, p.f1.length ≤ 100000000000000 ∧ ∀ x ∈ p.f1, x.f1.size ≤ 1000000000000000 ∧ x.f2.size ≤ 1000000000000000) :
  ∃ b, Ev (fun k => zam.f k t n l) b ∧ (b = true → 1 ≤ n.length ∧ t.length + n.length ≤ 600 ∧ l.length ≤ 400 ∧ ∀ p ∈ l, prFit t.length ((t.length + n.length : Nat) : Int) p) := by
 have hw := w64 (x := (t.length : Int) + (n.length : Int)) (by omega) (by omega)
 have bad : ∀ (g : Nat → Option Bool), (∀ k, g k = zam.j0 k ((t.length : Int) + (n.length : Int)) true t n l) → Ev g false := fun g hg => Ev.congr hg (evAt fun k => by simp only [zam.j0]; rw [if_pos trivial])
 by_cases c1 : (n.length : Int) = 0
 ·exact ⟨false, bad _ (fun k => by unfold zam.f; rw [hw, if_pos c1]), fun h => nomatch h⟩
 by_cases c2 : (t.length : Int) + (n.length : Int) > 600
 ·exact ⟨false, bad _ (fun k => by unfold zam.f; rw [hw, if_neg c1, if_pos c2]), fun h => nomatch h⟩
 by_cases c3 : (l.length : Int) > 400
 ·exact ⟨false, bad _ (fun k => by unfold zam.f; rw [hw, if_neg c1, if_neg c2, if_pos c3]), fun h => nomatch h⟩
 obtain ⟨b1, e1⟩ := titles_Ev t ht
 obtain ⟨b2, e2⟩ := titles_Ev n hn
 have hf : ∀ k, zam.f k t n l = (zav.f k t).bind fun t107 => (if t107 = true then ((zav.f k n).bind fun t108 => (zam.j0 k ((t.length : Int) + (n.length : Int)) (!t108) t n l)) else (zam.j0 k ((t.length : Int) + (n.length : Int)) true t n l)) := fun k => by unfold zam.f; rw [hw, if_neg c1, if_neg c2, if_neg c3]
 cases b1 with
 | false => exact ⟨false, Ev.congr hf (Ev.bind e1 (by simp only [Bool.false_eq_true, if_false]; exact bad _ (fun k => rfl))), fun h => nomatch h⟩
 | true =>
  cases b2 with
  | false => exact ⟨false, Ev.congr hf (Ev.bind e1 (by simp only [if_true]; exact Ev.bind e2 (bad _ (fun k => rfl)))), fun h => nomatch h⟩
  | true =>
   obtain ⟨b, e, g⟩ := fit_prods t n l ((t.length : Int) + (n.length : Int)) hl hok l.length 0 (by omega)
   have e3 : Ev (fun k => zam.j0 k ((t.length : Int) + (n.length : Int)) (!true) t n l) b := Ev.step (f := fun k => zam.l0 k ((t.length : Int) + (n.length : Int)) 0 t n l) (fun k => by simp only [zam.j0]; rw [if_neg (by decide)]) e
   refine ⟨b, Ev.congr hf (Ev.bind e1 (by simp only [if_true]; exact Ev.bind e2 e3)), fun hb => ⟨by omega, by omega, by omega, fun p hp => ?_⟩⟩
   ·have := g hb p (by rw [List.drop_zero]; exact hp)
    rwa [Int.natCast_add]
section
open Go.Proofs.Ytgdmjpehofdnpaa.Grow Go.Proofs.Ytgdmjpehofdnpaa.Deri Go.Proofs.Ytgdmjpehofdnpaa.Begin Go.Proofs.Ytgdmjpehofdnpaa.Begun Go.Proofs.Ytgdmjpehofdnpaa.MSet Go.Proofs.Ytgdmjpehofdnpaa.LInv Go.Proofs.Ytgdmjpehofdnpaa.LrK Go.Proofs.Ytgdmjpehofdnpaa.LFlat Go.Proofs.Ytgdmjpehofdnpaa.LClos Go.Proofs.Ytgdmjpehofdnpaa.LReach
theorem ok_bounds {t n : List ByteArray} {l : List S46} (h : ok25 ⟨t, n, l⟩) : t.length ≤ 100000000000000 ∧ n.length ≤ 100000000000000 ∧ l.length ≤ 100000000000000 ∧ ∀ p ∈ l, p.f1.length ≤ 100000000000000 ∧ ∀ x ∈ p.f1, x.f1.size ≤ 1000000000000000 ∧ x.f2.size ≤ 1000000000000000 := by
 obtain ⟨⟨h1, _⟩, ⟨h2, _⟩, h3, h4⟩ := h
 simp only at h1 h2 h3
 refine ⟨by omega, by omega, by omega, fun p hp => ?_⟩
 obtain ⟨_, ⟨h5, h6⟩, _⟩ := h4 p hp
 refine ⟨by omega, fun x hx => ?_⟩
 obtain ⟨_, h7, h8⟩ := h6 x hx
 exact ⟨by omega, by omega⟩
theorem items_l0 (l : List S46) (hl : l.length ≤ 16) (hp : ∀ p ∈ l, p.f1.length ≤ 64) (d : Nat) : ∀ (i : Nat) (acc : Int), i + d = l.length → 0 ≤ acc → acc ≤ 64 * i →
  ∃ v : Int, Ev (fun k => za5.l0 k acc l (l.length : Int) (i : Int)) v ∧ acc ≤ v ∧ ∀ p ∈ l.drop i, (p.f1.length : Int) ≤ v := by
 induction d with
 | zero =>
  intro i acc hi h0 h1
  refine ⟨acc, evAt fun k => ?_, Int.le_refl _, fun p hp => ?_⟩
  ·simp only [za5.l0]
   rw [if_neg (by omega)]
  ·rw [List.drop_of_length_le (by omega)] at hp
   exact nomatch hp
 | succ d ih =>
  intro i acc hi h0 h1
  have hq := hp _ (rd40_mem l i (by omega))
  obtain ⟨v, e, g1, g2⟩ := ih (i + 1) (acc + ((zal l (i : Int)).f1.length : Int)) (by omega) (by omega) (by omega)
  refine ⟨v, Ev.step (fun k => ?_) e, by omega, fun p hp' => ?_⟩
  ·simp only [za5.l0]
   rw [if_pos (by omega), if_pos (by omega), if_pos (by omega), w64 (x := acc + _) (by omega) (by omega), w64 (x := (i : Int) + 1) (by omega) (by omega)]
   rfl
  ·rw [rd40_drop l i (by omega)] at hp'
   rcases List.mem_cons.1 hp' with rfl | hp'
   ·omega
   ·exact g2 p hp'
theorem few_Ev {t n : List ByteArray} {l : List S46} (h : ok25 ⟨t, n, l⟩) : ∃ b, Ev (fun k => zbk.f k t n l) b ∧ (b = true → 1 ≤ n.length ∧ t.length + n.length ≤ 16 ∧ l.length ≤ 16 ∧ (∀ p ∈ l, p.f1.length ≤ 60) ∧ ∀ p ∈ l, prFit t.length ((t.length + n.length : Nat) : Int) p) := by
 obtain ⟨h1, h2, h3, h4⟩ := ok_bounds h
 obtain ⟨b1, e1⟩ := light_Ev t n l h3
 unfold zbk.f
 cases b1 with
 | false => exact ⟨false, Ev.bind e1 (by simp only [Bool.false_eq_true, if_false]; exact Ev.now _), fun h => nomatch h⟩
 | true =>
  obtain ⟨b2, e2, g2⟩ := fit_Ev t n l h1 h2 h3 h4
  cases b2 with
  | false => exact ⟨false, Ev.bind e1 (by simp only [if_true]; exact Ev.bind e2 (by simp only [Bool.false_eq_true, if_false]; exact Ev.now _)), fun h => nomatch h⟩
  | true =>
   obtain ⟨q1, q2, q3, q4⟩ := g2 rfl
   have hw := w64 (x := (t.length : Int) + (n.length : Int)) (by omega) (by omega)
   by_cases c : (t.length : Int) + (n.length : Int) ≤ 16
   ·by_cases c2 : (l.length : Int) ≤ 16
    ·obtain ⟨v, e3, g3, g4⟩ := items_l0 l (by omega) (fun p hp => (q4 p hp).2.2.1) l.length 0 0 (by omega) (by omega) (by omega)
     refine ⟨decide (v ≤ 60), Ev.bind e1 (by simp only [if_true]; exact Ev.bind e2 (by simp only [if_true, hw, if_pos c, if_pos c2]; exact Ev.bind (f := fun _ v => some (decide (v ≤ 60))) e3 (Ev.now _))), fun hb => ⟨q1, by omega, by omega, fun p hp => ?_, q4⟩⟩
     have := of_decide_eq_true hb
     have := g4 p hp
     omega
    ·exact ⟨false, Ev.bind e1 (by simp only [if_true]; exact Ev.bind e2 (by simp only [if_true, hw, if_pos c, if_neg c2]; exact Ev.now _)), fun h => nomatch h⟩
   ·exact ⟨false, Ev.bind e1 (by simp only [if_true]; exact Ev.bind e2 (by simp only [if_true, hw, if_neg c]; exact Ev.now _)), fun h => nomatch h⟩
theorem flOk_of {t n : List ByteArray} {l : List S46} (h1 : 1 ≤ n.length) (h2 : t.length + n.length ≤ 999999) (h3 : ∀ p ∈ l, prFit t.length ((t.length + n.length : Nat) : Int) p) : flOk (t.length + n.length) n.length (l.map prE) = true := by
 simp only [flOk, Bool.and_eq_true, decide_eq_true_eq, List.all_eq_true]
 refine ⟨⟨h2, h1⟩, fun q hq => ?_⟩
 obtain ⟨p, hp, rfl⟩ := List.mem_map.1 hq
 obtain ⟨g1, g2, g3, g4⟩ := h3 p hp
 refine ⟨⟨⟨show 0 ≤ p.f0 by omega, g2⟩, ?_⟩, fun i hi => ?_⟩
 ·show (p.f1.map itE).length ≤ 1000
  rw [List.length_map]
  omega
 ·obtain ⟨x, hx, rfl⟩ := List.mem_map.1 hi
  exact g4 x hx
def Under (M : Int) (FS : List (List Int)) : Prop := ∀ S ∈ FS, ∀ x ∈ S, 0 ≤ x ∧ x < M
theorem Under.at {M : Int} {FS : List (List Int)} (h : Under M FS) (i : Nat) : ∀ x ∈ FS.getD i [], 0 ≤ x ∧ x < M := by
 rcases getD_mem (FS := FS) (i := i) with e | e
 ·rw [e]; exact fun _ h => nomatch h
 ·exact h _ e
theorem Under.set {M : Int} {FS : List (List Int)} (h : Under M FS) (i : Nat) {X : List Int} (hX : ∀ x ∈ X, 0 ≤ x ∧ x < M) : Under M (FS.set i X) := fun S hS => by
 rcases List.mem_or_eq_of_mem_set hS with hS | rfl
 ·exact h S hS
 ·exact hX
theorem rises_few : ∀ {S : List Int} (lo M : Int), Rises S → (∀ x ∈ S, lo ≤ x ∧ x < M) → lo ≤ M → (S.length : Int) ≤ M - lo
 | [], lo, M, _, _, h => by simp; omega
 | a :: t, lo, M, h, hb, _ => by
  obtain ⟨h1, h2⟩ := List.pairwise_cons.1 h
  have ha := hb a (by simp)
  have := rises_few (S := t) (a + 1) M h2 (fun x hx => ⟨by have := h1 x hx; omega, (hb x (by simp [hx])).2⟩) (by omega)
  rw [List.length_cons]
  omega
theorem ahV_und {N : Nat} {M : Int} {em : List Bool} {Ss : List (List Int)} {B : List Int} (l : List Fl.I) (hS : Under M Ss) (hB : ∀ x ∈ B, 0 ≤ x ∧ x < M) : ∀ x ∈ ahV N em Ss l B, 0 ≤ x ∧ x < M := fun x hx => by
 rcases ahV_sub N em Ss B x l hx with h | ⟨S, h1, h2⟩
 ·exact hB x h
 ·exact hS S h1 x h2
theorem unionV_und {M : Int} {A B : List Int} (hA : ∀ x ∈ A, 0 ≤ x ∧ x < M) (hB : ∀ x ∈ B, 0 ≤ x ∧ x < M) : ∀ x ∈ unionV A B, 0 ≤ x ∧ x < M := fun x hx => ((unionV_mem x _ _).1 hx).elim (hB x) (hA x)
structure Rdys (t n : List ByteArray) (l : List S46) (em : List Bool) (Ss : List (List Int)) : Prop where
 n1 : 1 ≤ n.length
 nn : t.length + n.length ≤ 16
 pl : l.length ≤ 16
 p60 : ∀ p ∈ l.map prE, p.2.1.length ≤ 60
 ok : flOk (t.length + n.length) n.length (l.map prE) = true
 eE : Ev (fun k => growV stepD (l.map prE) k (List.replicate (t.length + n.length) false)) em
 eF : Ev (fun k => growV (stepF (t.length + n.length) em) (l.map prE) k (initV (t.length + n.length) t.length)) Ss
 len : ∀ i, (Ss.getD i []).length ≤ 17
 lE : em.length = t.length + n.length
 cE : ∀ p ∈ l.map prE, (stepD em p).2 = false
 cF : ∀ p ∈ l.map prE, (stepF (t.length + n.length) em Ss p).2 = false
 iF : Inv (t.length + n.length) Ss
 qE : ∀ Q : List Bool → Prop, (∀ s p, p ∈ l.map prE → s.length = t.length + n.length → Q s → Q (stepD s p).1) → Q (List.replicate (t.length + n.length) false) → Q em
 qF : ∀ Q : List (List Int) → Prop, (∀ s p, p ∈ l.map prE → Inv (t.length + n.length) s → Q s → Q (stepF (t.length + n.length) em s p).1) → Q (initV (t.length + n.length) t.length) → Q Ss
theorem rdys {t n : List ByteArray} {l : List S46} (h1 : 1 ≤ n.length) (h2 : t.length + n.length ≤ 16) (h3 : l.length ≤ 16) (h4 : ∀ p ∈ l, p.f1.length ≤ 60) (h5 : ∀ p ∈ l, prFit t.length ((t.length + n.length : Nat) : Int) p) : ∃ em Ss, Rdys t n l em Ss := by
 have hk := flOk_of h1 (by omega) h5
 have ok : ∀ p ∈ l.map prE, PrOk (t.length + n.length) p := fun p hp => (flOk_ps hk p hp).1
 obtain ⟨em, a1, a2, a3, a4⟩ := grow_ends (steps_D ok) _ (List.replicate (t.length + n.length) false) (by simp) (Nat.lt_succ_self _)
 obtain ⟨Ss, c1, c2, c3, c4⟩ := grow_ends (steps_F (em := em) ok) _ (initV (t.length + n.length) t.length) (Inv.init (by omega)) (Nat.lt_succ_self _)
 have hU : Under ((t.length : Int) + 1) Ss := c4 (Under ((t.length : Int) + 1)) (fun s p _ _ h => h.set _ (unionV_und (h.at _) (ahV_und _ h (fun _ h => nomatch h)))) (fun S hS x hx => by
  obtain ⟨q, hq, e⟩ := List.mem_iff_getElem.1 hS
  have := initV_get (S := S) (by rw [List.getElem?_eq_getElem hq, e])
  subst this
  split at hx
  ·rw [List.mem_singleton] at hx; omega
  ·exact nomatch hx)
 refine ⟨em, Ss, h1, h2, h3, fun p hp => ?_, hk, grow_Ev a1, grow_Ev c1, fun i => ?_, a2, a3, c3, c2, a4, c4⟩
 ·obtain ⟨q, hq, rfl⟩ := List.mem_map.1 hp
  show (q.f1.map itE).length ≤ 60
  rw [List.length_map]
  exact h4 q hq
 ·have := rises_few 0 _ (c2.rise i) (hU.at i) (by omega)
  omega
theorem Rdys.ev {t n : List ByteArray} {l : List S46} {em : List Bool} {Ss : List (List Int)} (H : Rdys t n l em Ss) : Ev (fun k => rdyV k t.length n.length (l.map prE)) (em, Ss) := Ev.bind H.eE (Ev.bind H.eF (Ev.now _))
theorem Rdys.nxt {t n : List ByteArray} {l : List S46} {em : List Bool} {Ss : List (List Int)} (H : Rdys t n l em Ss) (x : Lr) : (nxtV t.length (l.map prE) em Ss x).length ≤ 16336 := by
 refine Nat.le_trans (nxt_len (B := 60) (L := 17) (by omega) H.p60 H.len x) ?_
 rw [List.length_map]
 have := H.pl
 omega
theorem Rdys.clos {t n : List ByteArray} {l : List S46} {em : List Bool} {Ss : List (List Int)} (H : Rdys t n l em Ss) (T : List Lr) (hT : T.length ≤ 100000) : ∃ r, Ev (fun k => closV t.length (l.map prE) em Ss k [] T) r ∧ IsClos t.length (l.map prE) em Ss T (srtL r) ∧ (srtL r).length ≤ 20000 := by
 have h1 := H.nn
 have h2 := H.pl
 have hb : (boxV ((l.map prE).length + 1) (60 + 1) (t.length + 1)).length ≤ 17629 := by
  rw [box_len, List.length_map]
  refine Nat.le_trans (Nat.mul_le_mul (show l.length + 1 ≤ 17 by omega) (Nat.mul_le_mul (Nat.le_refl (60 + 1)) (show t.length + 1 ≤ 17 by omega))) (by decide)
 obtain ⟨r, hr⟩ := clos_ends (n0 := t.length) (ps := l.map prE) (em := em) (Ss := Ss) (B := 60) (C := 16336) (by omega) H.p60 H.nxt _ [] T List.nodup_nil (fun _ h => nomatch h) (Nat.lt_succ_self _) (by
  generalize (boxV ((l.map prE).length + 1) (60 + 1) (t.length + 1)).length = b at *
  simp only [List.length_nil]
  omega)
 have hi := clos_is hr
 refine ⟨r, Ev.of (fun k => LGiv.closV_mono k _ _) hr, hi, ?_⟩
 have := hi.len (B := 60) (by omega) H.p60
 rw [box_len] at hb
 omega
theorem Rdys.wf {t n : List ByteArray} {l : List S46} {em : List Bool} {Ss : List (List Int)} (H : Rdys t n l em Ss) {x : Lr} (h : fitV t.length (l.map prE) x = true) : lrOk x := by
 obtain ⟨h1, h2, h3, h4, h5, h6⟩ := fitV_iff.1 h
 have h7 := rightV_len (n0 := t.length) (B := 60) (by omega) H.p60 x.1
 have h8 := H.nn
 have h9 := H.pl
 rw [List.length_map] at h2
 have wf : ∀ z : Int, -1 ≤ z → z ≤ 1000 → (Lit.int .i64 z).wf = true := fun z a b => by
  simp only [Lit.wf, Bool.and_eq_true, decide_eq_true_eq]
  have e1 : IntKind.i64.min = -9223372036854775808 := rfl
  have e2 : IntKind.i64.max = 9223372036854775807 := rfl
  omega
 exact ⟨wf _ (by omega) (by omega), wf _ (by omega) (by omega), wf _ (by omega) (by omega)⟩
theorem lrsOk_mk {c : List Lr} (h : ∀ x ∈ c, lrOk x) : lrsOk c = true := by
 simp only [lrsOk, List.all_eq_true, Bool.and_eq_true]
 exact h
theorem lrTS (c : List Lr) : (c.map lrS).map lrT = c := by
 rw [List.map_map, show lrT ∘ lrS = id from rfl, List.map_id]
end
theorem rd39_drop (l : List S39) (i : Nat) (h : i < l.length) : l.drop i = zas l (i : Int) :: l.drop (i + 1) := by
 rw [List.drop_eq_getElem_cons h]
 congr 1
 show _ = l.getD ((i : Int)).toNat z39
 rw [Int.toNat_natCast, List.getD_eq_getElem?_getD, List.getElem?_eq_getElem h]
 rfl
theorem same39_l0 (A B : List S39) (hlen : A.length = B.length) (hA : A.length ≤ 1000000) (d : Nat) : ∀ i : Nat, i + d = A.length → ∃ b, Ev (fun k => zau.l0 k A B i) b ∧ (b = true ↔ A.drop i = B.drop i) := by
 induction d with
 | zero =>
  intro i hi
  refine ⟨true, evAt fun k => ?_, ⟨fun _ => ?_, fun _ => rfl⟩⟩
  ·simp only [zau.l0]
   rw [if_neg (by omega)]
  ·rw [List.drop_of_length_le (by omega), List.drop_of_length_le (by omega)]
 | succ d ih =>
  intro i hi
  rw [rd39_drop A i (by omega), rd39_drop B i (by omega)]
  have hne : ((!((zas A i).f0 == (zas B i).f0)) || ((!((zas A i).f1 == (zas B i).f1)) || (!((zas A i).f2 == (zas B i).f2)))) = true ↔ zas A i ≠ zas B i := by
   obtain ⟨a, b, c⟩ := zas A i
   obtain ⟨a', b', c'⟩ := zas B i
   simp only [Bool.or_eq_true, Bool.not_eq_true', beq_eq_false_iff_ne, ne_eq, S39.mk.injEq]
   omega
  by_cases c : zas A i = zas B i
  ·obtain ⟨b, e, g⟩ := ih (i + 1) (by omega)
   refine ⟨b, Ev.step (fun k => ?_) e, ?_⟩
   ·simp only [zau.l0]
    rw [if_pos (by omega), if_pos (by omega), if_pos (by omega), if_neg (by rw [hne]; exact fun h => h c), w64 (x := (i : Int) + 1) (by omega) (by omega)]
    rfl
   ·rw [g, c]
    simp
  ·refine ⟨false, evAt fun k => ?_, by simp [c]⟩
   simp only [zau.l0]
   rw [if_pos (by omega), if_pos (by omega), if_pos (by omega), if_pos (by rw [hne]; exact c)]
theorem same39_Ev (A B : List S39) (hA : A.length ≤ 1000000) : ∃ b, Ev (fun k => zau.f k A B) b ∧ (b = true ↔ A = B) := by
 unfold zau.f
 by_cases c : A.length = B.length
 ·obtain ⟨b, e, g⟩ := same39_l0 A B c hA A.length 0 (by omega)
  refine ⟨b, ?_, by simpa using g⟩
  simp only [if_pos (show (A.length : Int) = B.length by omega)]
  exact e
 ·refine ⟨false, ?_, by simp; exact fun h => c (by rw [h])⟩
  simp only [if_neg (show ¬ (A.length : Int) = B.length by omega)]
  exact evAt fun _ => rfl
theorem same39_true {A B : List S39} (hA : A.length ≤ 1000000) (h : A = B) : Ev (fun k => zau.f k A B) true := by
 obtain ⟨b, e, g⟩ := same39_Ev A B hA
 rw [g.2 h] at e
 exact e
open Go.Proofs.Ytgdmjpehofdnpaa.LrK Go.Proofs.Ytgdmjpehofdnpaa.LLex Go.Proofs.Ytgdmjpehofdnpaa.LClos Go.Proofs.Ytgdmjpehofdnpaa.LReach in
theorem Rdys.closure {t n : List ByteArray} {l : List S46} {em : List Bool} {Ss : List (List Int)} (H : Rdys t n l em Ss) (T : List S39) (hT : T.length ≤ 100000) (hok : ∀ x ∈ T, lrOk (lrT x)) : ∃ c, Ev (fun k => zbj.f k t n l T) (c.map lrS) ∧ IsClos t.length (l.map prE) em Ss (T.map lrT) c ∧ c.length ≤ 20000 := by
 obtain ⟨r, e, h1, h2⟩ := H.clos (T.map lrT) (by rw [List.length_map]; exact hT)
 refine ⟨srtL r, ?_, h1, h2⟩
 unfold zbj.f
 simp only [if_pos (show flOk (t.length + n.length) n.length (l.map prE) = true ∧ l.length ≤ 1000000 ∧ lrsOk (T.map lrT) = true from ⟨H.ok, by have := H.pl; omega, lrsOk_mk fun x hx => by obtain ⟨y, hy, rfl⟩ := List.mem_map.1 hx; exact hok y hy⟩)]
 exact Ev.bind H.ev (Ev.bind e (Ev.now _))
open Go.Proofs.Ytgdmjpehofdnpaa.LrK Go.Proofs.Ytgdmjpehofdnpaa.LLex in
theorem rises_sub : ∀ {b a : List Lr}, RisesL a → RisesL b → (∀ x ∈ a, x ∈ b) → a.Sublist b
 | [], [], _, _, _ => List.Sublist.slnil
 | [], x :: a, _, _, h => nomatch h x (by simp)
 | y :: b, [], _, _, _ => List.nil_sublist _
 | y :: b, x :: a, ha, hb, h => by
  obtain ⟨a1, a2⟩ := List.pairwise_cons.1 ha
  obtain ⟨b1, b2⟩ := List.pairwise_cons.1 hb
  by_cases e : x = y
  ·subst e
   refine (rises_sub a2 b2 fun z hz => ?_).cons_cons x
   rcases List.mem_cons.1 (h z (by simp [hz])) with rfl | g
   ·exact absurd (a1 z hz) (bef_irrefl z)
   ·exact g
  ·have hx : x ∈ b := (List.mem_cons.1 (h x (by simp))).resolve_left e
   refine (rises_sub ha b2 fun z hz => ?_).cons y
   rcases List.mem_cons.1 (h z hz) with rfl | g
   ·rcases List.mem_cons.1 hz with rfl | hz
    ·exact hx
    ·exact absurd (bef_trans (a1 z hz) (b1 x hx)) (bef_irrefl x)
   ·exact g
theorem eq39_of {u v : S39} (h : (u.f0 == v.f0 && (u.f1 == v.f1 && u.f2 == v.f2)) = true) : u = v := by
 obtain ⟨a, b, c⟩ := u
 obtain ⟨a', b', c'⟩ := v
 simp only [Bool.and_eq_true, beq_iff_eq] at h
 obtain ⟨rfl, rfl, rfl⟩ := h
 rfl
theorem closes_l0 (t n : List ByteArray) (l : List S46) (A B : List S39) (hA : A.length ≤ 1000000) (hB : B.length ≤ 1000000) (he : Ev (fun k => zbj.f k t n l A) A) (d : Nat) : ∀ (i j : Nat), j + d = B.length → i ≤ A.length → (A.drop i).Sublist (B.drop j) →
  Ev (fun k => zan.l0 k A (i : Int) B (B.length : Int) (j : Int) t n l) true := by
 induction d with
 | zero =>
  intro i j hj hi hs
  rw [List.drop_of_length_le (l := B) (by omega)] at hs
  have h0 := congrArg List.length (List.sublist_nil.1 hs)
  rw [List.length_drop, List.length_nil] at h0
  refine Ev.step (fun k => by simp only [zan.l0]; rw [if_neg (by omega)]) ?_
  refine Ev.bind he (Ev.bind (same39_true hA rfl) ?_)
  simp only [if_true, if_pos (show (i : Int) = A.length by omega)]
  exact Ev.now _
 | succ d ih =>
  intro i j hj hi hs
  rw [rd39_drop B j (by omega)] at hs
  by_cases c : i < A.length
  ·rw [rd39_drop A i c] at hs
   by_cases e : zas A (i : Int) = zas B (j : Int)
   ·rw [e] at hs
    refine Ev.step (fun k => ?_) (ih (i + 1) (j + 1) (by omega) (by omega) (List.cons_sublist_cons.1 hs))
    simp only [zan.l0]
    rw [if_pos (by omega), if_pos (by omega), if_pos (by omega), if_pos (by omega), if_pos (by omega), if_pos (by rw [e]; simp), w64 (x := (i : Int) + 1) (by omega) (by omega), w64 (x := (j : Int) + 1) (by omega) (by omega)]
    rfl
   ·refine Ev.step (fun k => ?_) (ih i (j + 1) (by omega) (by omega) ?_)
    ·simp only [zan.l0]
     rw [if_pos (by omega), if_pos (by omega), if_pos (by omega), if_pos (by omega), if_pos (by omega), if_neg (by
      intro h
      apply e
      exact eq39_of h), w64 (x := (j : Int) + 1) (by omega) (by omega)]
     rfl
    ·rw [rd39_drop A i c]
     rcases List.sublist_cons_iff.1 hs with h | ⟨r, h, _⟩
     ·exact h
     ·exact absurd (List.cons.inj h).1 e
  ·refine Ev.step (fun k => ?_) (ih i (j + 1) (by omega) hi (by rw [List.drop_of_length_le (by omega)]; exact List.nil_sublist _))
   simp only [zan.l0]
   rw [if_pos (by omega), if_pos (by omega), if_pos (by omega), if_neg (by omega), w64 (x := (j : Int) + 1) (by omega) (by omega)]
   rfl
open Go.Proofs.Ytgdmjpehofdnpaa.LrK Go.Proofs.Ytgdmjpehofdnpaa.LLex Go.Proofs.Ytgdmjpehofdnpaa.LClos Go.Proofs.Ytgdmjpehofdnpaa.LReach in
theorem ItemCloses : zan.Pure := by
 intro s0 l1 l2 h0 h1 h2
 obtain ⟨t, n, l⟩ := s0
 suffices Ev (fun k => zan.f k t n l l1 l2) true by
  obtain ⟨K, h⟩ := this
  exact ⟨K, h K (Nat.le_refl _)⟩
 have awk : ∀ x y, Ev (fun k => zan.j0 k x y true t n l) true := fun x y => evAt fun k => by simp only [zan.j0]; rfl
 unfold zan.f
 obtain ⟨c, ec, gc⟩ := few_Ev h0
 refine Ev.bind ec ?_
 cases c with
 | false => simp only [Bool.false_eq_true, if_false]; exact awk _ _
 | true =>
  simp only [if_true]
  by_cases c1 : (l1.length : Int) > 50
  ·simp only [if_pos c1]; exact awk _ _
  simp only [if_neg c1]
  by_cases c2 : (l2.length : Int) > 50
  ·simp only [decide_eq_true c2]; exact awk _ _
  simp only [decide_eq_false c2]
  obtain ⟨g1, g2, g3, g4, g5⟩ := gc rfl
  obtain ⟨em, Ss, H⟩ := rdys g1 g2 g3 g4 g5
  obtain ⟨a, ea, ia, la⟩ := H.closure l1 (by omega) (fun x hx => h1.2 x hx)
  obtain ⟨b, eb, ib, lb⟩ := H.closure (l1 ++ l2) (by rw [List.length_append]; omega) (fun x hx => (List.mem_append.1 hx).elim (h1.2 x) (h2.2 x))
  obtain ⟨a', ea', ia', _⟩ := H.closure (a.map lrS) (by rw [List.length_map]; omega) (fun x hx => by obtain ⟨y, hy, rfl⟩ := List.mem_map.1 hx; exact H.wf ((ia.2 y).1 hy).fit)
  rw [lrTS] at ia'
  obtain rfl := ia.idem ia'
  have hs := rises_sub ia.1 ib.1 (ia.sub ib fun x hx => by rw [List.map_append]; exact List.mem_append.2 (.inl hx))
  refine Ev.step (fun k => by simp only [zan.j0, Bool.false_eq_true, if_false]; exact rfl) ?_
  refine Ev.bind ea (Ev.bind (Ev.now _) ?_)
  simp only [List.nil_append, List.length_nil, Nat.zero_add, if_pos (show l1.length < 5864062014805 by omega)]
  refine Ev.bind (Ev.now _) ?_
  simp only [if_pos (show l1.length + l2.length < 5864062014805 by omega)]
  refine Ev.bind eb ?_
  exact closes_l0 t n l (a'.map lrS) (b.map lrS) (by rw [List.length_map]; omega) (by rw [List.length_map]; omega) ea' (b.map lrS).length 0 0 (by omega) (by omega) (hs.map lrS)
end Go.Proofs.Ytgdmjpehofdnpaa.Pure
end
section
set_option linter.unusedVariables false
set_option linter.unusedSimpArgs false
namespace Go.Proofs.Ytgdmjpehofdnpaa.Opening
open Go.RowKit Go.Proofs.YtgdmjpehofdnpaaW.PrintWords
section
variable {H : Type} {enc : TypeId × Value → H} {P : Program} {W : World}
def Op {α : Type} (enc : TypeId × Value → H) (P : Program) (W : World) (n : Nat) (t : TypeId) (d : Kd α) (B : α → Prop) : Prop :=
 ∀ fuel, fuel ≤ n → ∀ cs y, DataW.trod enc P W 0 (fun _ => true) true fuel t cs = some y → (DataW.weights P t y.1).all (· ≤ reachBytes) = true → ∃ x, d.K W x cs ∧ B x
theorem Op.mono {α : Type} {n m : Nat} {t : TypeId} {d : Kd α} {B : α → Prop} (h : Op enc P W n t d B) (hm : m ≤ n) : Op enc P W m t d B :=
 fun fuel hf => h fuel (Nat.le_trans hf hm)
theorem Op.imp {α : Type} {n : Nat} {t : TypeId} {d : Kd α} {B B' : α → Prop} (h : Op enc P W n t d B) (hB : ∀ x, B x → B' x) : Op enc P W n t d B' := fun fuel hf cs y hy hw =>
 let ⟨x, hx, hb⟩ := h fuel hf cs y hy hw
 ⟨x, hx, hB x hb⟩
theorem Op.zero {α : Type} {t : TypeId} {d : Kd α} {B : α → Prop} : Op enc P W 0 t d B := by
 intro fuel hf cs y hy
 obtain rfl : fuel = 0 := by omega
 simp [DataW.trod] at hy
theorem op_int {n : Nat} {t : TypeId} {k : IntKind} (hu : P.underlying t = some (.int k)) : Op enc P W n t (Kd.int k) (fun x => (Lit.int k x).wf = true) := by
 intro fuel _ cs y hy _
 obtain ⟨m, rfl, _, hw⟩ := DataW.trod_int hu hy
 exact ⟨m, rfl, hw⟩
theorem op_string {n : Nat} {t : TypeId} (hu : P.underlying t = some .string) : Op enc P W n t Kd.string (fun s => s.size ≤ 140737488351232) := by
 intro fuel _ cs y hy hw
 obtain ⟨s, rfl, rfl, _⟩ := DataW.trod_string hu hy
 refine ⟨s, rfl, ?_⟩
 simp only [DataW.weights, List.all_cons, List.all_nil, Bool.and_true, decide_eq_true_eq, Array.length_toList] at hw
 exact hw
theorem weights_all {e : TypeId} : ∀ {ds : List (DataW H)}, (DataW.weightsAll P e ds).all (· ≤ reachBytes) = true → ∀ d ∈ ds, (DataW.weights P e d).all (· ≤ reachBytes) = true
 | [], _, d, hd => by cases hd
 | x :: r, h, d, hd => by
  rw [DataW.weightsAll, List.all_append, Bool.and_eq_true] at h
  rcases List.mem_cons.1 hd with rfl | hd
  ·exact h.1
  ·exact weights_all h.2 d hd
theorem choose_list {α : Type} {Q : Nat → α → Prop} : ∀ n : Nat, (∀ i, i < n → ∃ x, Q i x) → ∃ xs : List α, xs.length = n ∧ ∀ i x, xs[i]? = some x → Q i x
 | 0, _ => ⟨[], rfl, by simp⟩
 | n + 1, h => by
  obtain ⟨xs, hl, hq⟩ := choose_list n (fun i hi => h i (by omega))
  obtain ⟨x, hx⟩ := h n (by omega)
  refine ⟨xs ++ [x], by simp [hl], fun i y hy => ?_⟩
  by_cases hi : i < n
  ·rw [List.getElem?_append_left (by omega)] at hy
   exact hq i y hy
  ·rw [List.getElem?_append_right (by omega)] at hy
   have : i - xs.length = 0 := by
    by_cases h0 : i - xs.length = 0
    ·exact h0
    ·rw [List.getElem?_eq_none (by simp; omega)] at hy
     cases hy
   rw [this] at hy
   obtain rfl : x = y := by simpa using hy
   obtain rfl : i = n := by omega
   exact hx
theorem op_slice {α : Type} {n : Nat} {t e e' b : TypeId} {d : Kd α} {B : α → Prop} (hu : P.underlying t = some (.slice e)) (hc : P.cellsOf e = d.sz) (hb : P.bytesOf e = b) (h : Op enc P W n e d B) :
  Op enc P W (n + 1) t (Kd.slice e' d) (fun xs => xs.length * b ≤ 140737488351232 ∧ ∀ x ∈ xs, B x) := by
 intro fuel hf cs y hy hw
 rcases DataW.trod_slice hu hy with ⟨rfl, rfl⟩ | ⟨a, len, cap, elems, rest, m, rfl, rfl, rfl, _, hlc, hcap, hel, hget, _, _⟩
 ·exact ⟨[], ⟨none, 0, rfl, Nat.le_refl _, rfl, by simp, fun h0 => absurd h0 (by simp)⟩, by simp⟩
 ·rw [DataW.weights, hu] at hw
  simp only [List.all_cons, List.all_append, Bool.and_eq_true, decide_eq_true_eq, List.length_map] at hw
  obtain ⟨hw0, hw1, _⟩ := hw
  have hall := weights_all hw1
  have key : ∀ i, i < len → ∃ x : α, (∃ c, c.length = d.sz ∧ d.K W x c ∧ ∀ j u, c[j]? = some u → W.cell? (a.add (i * d.sz + j)) = some u) ∧ B x := by
   intro i hi
   have hg := hget i hi
   rw [List.getElem?_eq_getElem (by omega)] at hg
   obtain ⟨c, hc1, hc2⟩ := Option.bind_eq_some_iff.1 hg
   obtain ⟨_, hl, hcell⟩ := World.cells?_some hc1
   obtain ⟨x, hx, hB⟩ := h m (by omega) c _ hc2 (hall _ (List.mem_map.2 ⟨_, List.getElem_mem _, rfl⟩))
   refine ⟨x, ⟨c, by rw [hl, hc], hx, fun j u hu' => ?_⟩, hB⟩
   have hj : j < P.cellsOf e := by
    have := (List.getElem?_eq_some_iff.1 hu').1
    omega
   have := hcell j hj
   rw [Addr.add_add, hc] at this
   rw [this, hu']
  obtain ⟨xs, hl, hxs⟩ := choose_list len key
  refine ⟨xs, ⟨some a, cap, by rw [hl], by omega, rfl, ?_, fun _ => ⟨a, rfl, fun j p hj => (hxs j p hj).1⟩⟩, ?_, ?_⟩
  ·have : maxLen = 9223372036854775807 := rfl
   omega
  ·rw [hb] at hw0
   have e1 : reachBytes = 140737488351232 := rfl
   have : xs.length * b ≤ (elems.length + rest.length) * b := Nat.mul_le_mul_right _ (by omega)
   omega
  ·intro x hx
   obtain ⟨i, hi, rfl⟩ := List.mem_iff_getElem.1 hx
   exact (hxs i _ (List.getElem?_eq_getElem hi)).2
def OpFs {α : Type} (enc : TypeId × Value → H) (P : Program) (W : World) (n : Nat) (fs : List Field) (off : Nat) (d : Kd α) (B : α → Prop) : Prop :=
 ∀ fuel, fuel ≤ n → ∀ (cs : List Value) (ys : List (DataW H × List MemPlace)), ys.length = fs.length → (∀ (i : Nat) (f : Field), fs[i]? = some f → DataW.trod enc P W 0 (fun _ => true) true fuel f.type ((cs.drop f.offset).take (P.cellsOf f.type)) = ys[i]?) →
  cs.length = off + d.sz → (DataW.weightsEach P (fs.map (·.type)) (ys.map (·.1))).all (· ≤ reachBytes) = true → ∃ x, d.K W x (cs.drop off) ∧ B x
theorem opf_last {α : Type} {n off : Nat} {f : Field} {d : Kd α} {B : α → Prop} (ho : f.offset = off) (hc : P.cellsOf f.type = d.sz) (h : Op enc P W n f.type d B) : OpFs enc P W n [f] off d B := by
 intro fuel hf cs ys hl hget hlen hw
 match ys, hl with
 | [y], _ =>
  have hg := hget 0 f rfl
  simp only [List.map_cons, List.map_nil, DataW.weightsEach, List.append_nil] at hw
  rw [ho, hc, List.take_of_length_le (by rw [List.length_drop]; omega)] at hg
  exact h fuel hf _ y hg hw
theorem opf_cons {α β : Type} {n off : Nat} {f : Field} {fs : List Field} {a : Kd α} {b : Kd β} {Ba : α → Prop} {Bb : β → Prop} (ho : f.offset = off) (hc : P.cellsOf f.type = a.sz) (h : Op enc P W n f.type a Ba) (hr : OpFs enc P W n fs (off + a.sz) b Bb) :
  OpFs enc P W n (f :: fs) off (Kd.pair a b) (fun x => Ba x.1 ∧ Bb x.2) := by
 intro fuel hf cs ys hl hget hlen hw
 have hlen' : cs.length = off + (a.sz + b.sz) := hlen
 match ys, hl with
 | y :: ys, hl =>
  have hg := hget 0 f rfl
  simp only [List.map_cons, DataW.weightsEach, List.all_append, Bool.and_eq_true] at hw
  rw [ho, hc] at hg
  obtain ⟨x, hx, hB⟩ := h fuel hf _ y hg hw.1
  obtain ⟨z, hz, hB'⟩ := hr fuel hf cs ys (by simpa using hl) (fun i g hi => hget (i + 1) g hi) (by omega) hw.2
  refine ⟨(x, z), ⟨_, _, ?_, hx, hz⟩, hB, hB'⟩
  have e : cs.drop (off + a.sz) = (cs.drop off).drop a.sz := by simp [List.drop_drop, Nat.add_comm]
  rw [e, List.take_append_drop]
theorem op_struct {α β : Type} {n : Nat} {t : TypeId} {fs : Array Field} {d : Kd α} {B : α → Prop} {f : β → α} (g : α → β) (hfg : ∀ x, f (g x) = x) (hu : P.underlying t = some (.struct fs)) (hc : P.cellsOf t = d.sz) (h : OpFs enc P W n fs.toList 0 d B) :
  Op enc P W (n + 1) t (Kd.iso d f) (fun s => B (f s)) := by
 intro fuel hf cs y hy hw
 obtain ⟨xs, m, rfl, rfl, hl, hlen, hget⟩ := DataW.trod_struct hu hy
 rw [DataW.weights, hu] at hw
 obtain ⟨x, hx, hB⟩ := h m (by omega) cs xs (by simpa using hlen) (fun i f hi => hget i f (by simpa using hi)) (by omega) hw
 refine ⟨g x, ?_, by show B (f (g x)); rw [hfg]; exact hB⟩
 show d.K W (f (g x)) cs
 rw [hfg]
 exact hx
theorem ops_slice {α : Type} {t e e' b : TypeId} {d : Kd α} {B : α → Prop} (hu : P.underlying t = some (.slice e)) (hc : P.cellsOf e = d.sz) (hb : P.bytesOf e = b) (h : ∀ n, Op enc P W n e d B) :
  ∀ n, Op enc P W n t (Kd.slice e' d) (fun xs => xs.length * b ≤ 140737488351232 ∧ ∀ x ∈ xs, B x) := fun n => (op_slice hu hc hb (h n)).mono (Nat.le_succ n)
theorem ops_struct {α β : Type} {t : TypeId} {fs : Array Field} {d : Kd α} {B : α → Prop} {f : β → α} (g : α → β) (hfg : ∀ x, f (g x) = x) (hu : P.underlying t = some (.struct fs)) (hc : P.cellsOf t = d.sz) (h : ∀ n, OpFs enc P W n fs.toList 0 d B) :
  ∀ n, Op enc P W n t (Kd.iso d f) (fun s => B (f s)) := fun n => (op_struct g hfg hu hc (h n)).mono (Nat.le_succ n)
theorem opsf_last {α : Type} {off : Nat} {f : Field} {d : Kd α} {B : α → Prop} (ho : f.offset = off) (hc : P.cellsOf f.type = d.sz) (h : ∀ n, Op enc P W n f.type d B) : ∀ n, OpFs enc P W n [f] off d B := fun n => opf_last ho hc (h n)
theorem opsf_cons {α β : Type} {off : Nat} {f : Field} {fs : List Field} {a : Kd α} {b : Kd β} {Ba : α → Prop} {Bb : β → Prop} (ho : f.offset = off) (hc : P.cellsOf f.type = a.sz) (h : ∀ n, Op enc P W n f.type a Ba) (hr : ∀ n, OpFs enc P W n fs (off + a.sz) b Bb) :
  ∀ n, OpFs enc P W n (f :: fs) off (Kd.pair a b) (fun x => Ba x.1 ∧ Bb x.2) := fun n => opf_cons ho hc (h n) (hr n)
theorem op_arg {α : Type} {t : TypeId} {d : Kd α} {B : α → Prop} (h : ∀ n, Op enc P W n t d B) {v : Value} {y : DataW H} {ps : List MemPlace} (ht : DataW.Trod enc P W 0 (fun _ => true) true t v y ps) {ts : List TypeId} {ds : List (DataW H)} {j : Nat}
  (hsz : (DataW.weightsEach P ts ds).all (· ≤ reachBytes) = true) (hj : ts[j]? = some t) (hd : ds[j]? = some y) : ∃ x, d.K W x v.cells.toList ∧ B x := by
 obtain ⟨fuel, hf⟩ := ht
 refine h fuel fuel (Nat.le_refl _) _ _ hf ?_
 rw [List.all_eq_true] at hsz ⊢
 intro n hn
 exact hsz n (DataW.weights_mem_each hj hd n hn)
end
end Go.Proofs.Ytgdmjpehofdnpaa.Opening
end
section
namespace Go.Proofs.Ytgdmjpehofdnpaa.itemCloses
open Go.ChangeShapes Go.WideShapes Go.ChangeAt Go.RowKit Go.Proofs.YtgdmjpehofdnpaaW.PrintWords Go.Proofs.Ytgdmjpehofdnpaa.Opening Go.Proofs.Ytgdmjpehofdnpaa.PItemCloses
open Go.ChangeMaps (open_string shut_string)
set_option linter.unusedVariables false
theorem own : ownKnob Try.prog.godebug = none := by kernel_rfl
theorem laidOut : laidOutB Try.prog = true := by kernel_rfl
set_option maxRecDepth 100000 in
set_option maxHeartbeats 2000000 in
theorem lifted (os : Os) (started : os.Started) (H : Type) (enc : TypeId × Value → H) :
  ReturnsInHanded {} Try.checked os 4 .any (Rows.itemClosesSpec.pre6 enc Try.prog Try.f4 Rows.itemClosesRow.domain false) (Rows.itemClosesSpec.post enc Try.prog Try.f4 false true false false) := by
 refine returnsInHanded_of_change_sized (C := Try.checked) own started (by kernel_rfl) Try.func4
  (ChangeSpec.witness6 (enc := enc) (C := Try.checked) false ⟨#[], #[.agg #[.slice none 0 0, .slice none 0 0, .slice none 0 0], .slice none 0 0, .slice none 0 0], []⟩ 8 (by kernel_rfl) (by kernel_rfl) (by kernel_rfl) (by kernel_rfl)) ?_
 intro W base args ds gs before hval0 hW hcnd hsz0 _
 have hsz : (DataW.weightsEach Try.prog (Try.f4.params.toList ++ Rows.itemClosesSpec.plain.varTypes Try.prog) (ds ++ gs)).all (· ≤ reachBytes) = true := hsz0
 have hval : ∀ (j : Nat) t v, Try.f4.params[j]? = some t → args[j]? = some v → Value.okWide Try.prog W .any base t v := hval0
 have hW' := hW
 obtain ⟨p, q, hA0, hV, rfl, hfz, hnd⟩ := hW
 have hA : DataW.TrodAll enc Try.prog W 0 (fun _ => true) true Try.f4.params.toList args.toList ds p := hA0
 rw [Try.params4] at hA hval hsz
 obtain ⟨v0, vs0, d0, ds0, p0, q0, hargs, rfl, rfl, h0, r0⟩ := trodAll_cons hA
 obtain ⟨v1, vs1, d1, ds1, p1, q1, rfl, rfl, rfl, h1, r1⟩ := trodAll_cons r0
 obtain ⟨v2, vs2, d2, ds2, p2, q2, rfl, rfl, rfl, h2, r2⟩ := trodAll_cons r1
 obtain ⟨rfl, rfl, rfl⟩ := trodAll_nil r2
 obtain rfl : args = #[v0, v1, v2] := by cases args; simp_all
 obtain ⟨rfl, rfl⟩ := trodVars_none hV
 have k0 := h0
 have lt0 : ∀ x ∈ p0, x.block < W.heap.size := by obtain ⟨m, hm⟩ := k0; exact DataW.trod_lt m _ _ _ hm
 have oq39 := (ops_struct (enc := enc) (W := W) (f := fun x : S39 => (x.f0, x.f1, x.f2)) (fun x => ⟨x.1, x.2.1, x.2.2⟩) (fun _ => rfl) Try.underlying39 (by kernel_rfl) (opsf_cons rfl (by kernel_rfl) (fun _ => op_int Try.underlying3) (opsf_cons rfl (by kernel_rfl) (fun _ => op_int Try.underlying3) (opsf_last rfl (by kernel_rfl) (fun _ => op_int Try.underlying3)))))
 have oq43 := (ops_struct (enc := enc) (W := W) (f := fun x : S43 => (x.f0, x.f1, x.f2)) (fun x => ⟨x.1, x.2.1, x.2.2⟩) (fun _ => rfl) Try.underlying43 (by kernel_rfl) (opsf_cons rfl (by kernel_rfl) (fun _ => op_int Try.underlying3) (opsf_cons rfl (by kernel_rfl) (fun _ => op_string Try.underlying9) (opsf_last rfl (by kernel_rfl) (fun _ => op_string Try.underlying9)))))
 have oq46 := (ops_struct (enc := enc) (W := W) (f := fun x : S46 => (x.f0, x.f1, x.f2)) (fun x => ⟨x.1, x.2.1, x.2.2⟩) (fun _ => rfl) Try.underlying46 (by kernel_rfl) (opsf_cons rfl (by kernel_rfl) (fun _ => op_int Try.underlying3) (opsf_cons rfl (by kernel_rfl) (ops_slice (b := 40) (e' := 43) Try.underlying44 (by kernel_rfl) (by kernel_rfl) oq43) (opsf_last rfl (by kernel_rfl) (fun _ => op_int Try.underlying3)))))
 have oq25 := (ops_struct (enc := enc) (W := W) (f := fun x : S25 => (x.f0, x.f1, x.f2)) (fun x => ⟨x.1, x.2.1, x.2.2⟩) (fun _ => rfl) Try.underlying25 (by kernel_rfl) (opsf_cons rfl (by kernel_rfl) (ops_slice (b := 16) (e' := 9) Try.underlying22 (by kernel_rfl) (by kernel_rfl) (fun _ => op_string Try.underlying9)) (opsf_cons rfl (by kernel_rfl) (ops_slice (b := 16) (e' := 9) Try.underlying22 (by kernel_rfl) (by kernel_rfl) (fun _ => op_string Try.underlying9)) (opsf_last rfl (by kernel_rfl) (ops_slice (b := 40) (e' := 46) Try.underlying23 (by kernel_rfl) (by kernel_rfl) oq46)))))
 have o0 := op_arg (j := 0) oq25 h0 hsz rfl rfl
 obtain ⟨cs0, rfl, _⟩ := okWide_struct Try.underlying25 (hval 0 25 v0 rfl rfl)
 obtain ⟨s0, hK0, w0⟩ := o0
 obtain ⟨_, _, e0, ⟨A0_0, c0_0, rfl, hc0_0, hr0_0⟩, ⟨_, _, rfl, ⟨A0_1, c0_1, rfl, hc0_1, hr0_1⟩, ⟨A0_2, c0_2, rfl, hc0_2, hr0_2⟩⟩⟩ := hK0
 obtain rfl : cs0 = #[.slice A0_0 s0.f0.length c0_0, .slice A0_1 s0.f1.length c0_1, .slice A0_2 s0.f2.length c0_2] := by
  apply Array.toList_inj.1
  simpa [Value.cells] using e0
 have k1 := h1
 have lt1 : ∀ x ∈ p1, x.block < W.heap.size := by obtain ⟨m, hm⟩ := k1; exact DataW.trod_lt m _ _ _ hm
 have o1 := op_arg (j := 1) (ops_slice (b := 24) (e' := 39) Try.underlying33 (by kernel_rfl) (by kernel_rfl) oq39) h1 hsz rfl rfl
 obtain ⟨l1, ⟨A1, c1, e1, hc1, hr1⟩, w1⟩ := o1
 obtain ⟨a1_, len1_, cap1_, rfl⟩ := okWide_slice Try.underlying33 (hval 1 33 v1 rfl rfl)
 obtain ⟨rfl, rfl, rfl⟩ : a1_ = A1 ∧ len1_ = l1.length ∧ cap1_ = c1 := by simpa [Value.cells] using e1
 have k2 := h2
 have lt2 : ∀ x ∈ p2, x.block < W.heap.size := by obtain ⟨m, hm⟩ := k2; exact DataW.trod_lt m _ _ _ hm
 have o2 := op_arg (j := 2) (ops_slice (b := 24) (e' := 39) Try.underlying33 (by kernel_rfl) (by kernel_rfl) oq39) h2 hsz rfl rfl
 obtain ⟨l2, ⟨A2, c2, e2, hc2, hr2⟩, w2⟩ := o2
 obtain ⟨a2_, len2_, cap2_, rfl⟩ := okWide_slice Try.underlying33 (hval 2 33 v2 rfl rfl)
 obtain ⟨rfl, rfl, rfl⟩ : a2_ = A2 ∧ len2_ = l2.length ∧ cap2_ = c2 := by simpa [Value.cells] using e2
 clear hA0 hval0 hsz0 hsz
 obtain ⟨k, hk⟩ := Pure.ItemCloses s0 l1 l2 w0 w1 w2
 refine (zan.calls k _ _ s0.f0 _ _ s0.f1 _ _ s0.f2 _ _ l1 _ _ l2 true W hr0_0 hc0_0 hr0_1 hc0_1 hr0_2 hc0_2 hr1 hc1 hr2 hc2 hk).mono ?_
 rintro e W' ⟨rfl, bel0⟩
 have bel : Below W.heap.size W W' := bel0
 exact ⟨_, rfl, _, _, _, [], _, [], hW', trodAll_mk1 (shut_bool Try.underlying4 _), (trodAll_cons_mk (Below.trod laidOut (by kernel_rfl) (of_decide_eq_true (by kernel_rfl)) k0 bel lt0) (trodAll_cons_mk (Below.trod laidOut (by kernel_rfl) (of_decide_eq_true (by kernel_rfl)) k1 bel lt1) (trodAll_cons_mk (Below.trod laidOut (by kernel_rfl) (of_decide_eq_true (by kernel_rfl)) k2 bel lt2) trodAll_mk0))), rfl, bel.frame _, fun h => by cases h⟩
theorem over : Rows.itemClosesRow.holds Try.pinned (OpenSpec.ofChange Rows.itemClosesSpec) :=
 OpenClaim.holds_of_wide 4 Try.f4 rfl rfl rfl rfl rfl rfl rfl ⟨rfl, rfl, rfl, rfl, rfl⟩ rfl rfl rfl rfl rfl (by kernel_rfl) Try.func4 (by kernel_rfl)
  (of_decide_eq_true (by kernel_rfl)) (by unfold Func.isWrapper; first | (rw [if_pos (by decide +kernel)]; kernel_rfl) | (rw [if_neg (by decide +kernel)]; exact ⟨rfl, rfl⟩))
  (fun os started H enc _ => lifted os started H enc)
theorem proved : Rows.ItemClosesSaid := over
end Go.Proofs.Ytgdmjpehofdnpaa.itemCloses
namespace Go.Proofs.Ytgdmjpehofdnpaa
theorem itemCloses_holds : Rows.ItemClosesSaid := itemCloses.proved
end Go.Proofs.Ytgdmjpehofdnpaa
end
