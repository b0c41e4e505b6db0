import Derived.Test.YtgdmjpehofdnpaaProg
import Derived.Maps.Keyed
import Derived.DeepKeys4
import Derived.KernelRfl
import Derived.Maps.OwnIn
import Derived.Maps.OwnSet
import Derived.Maps.Ext
import Derived.Shelf.SlGeneric
import Derived.Shelf.SlSortCmp.WholeK
import Derived.Ground.SlsfProg
import Derived.Shelf.GgSortFunc.InsertionK
import Derived.Lib.SlKeysI
import Derived.Shelf.SlSortCmp.NoneTotal
import Derived.Sort.AssemblyPlain
import Derived.Test.YtgdmjpehofdnpaaPackItemCloses2
section
namespace Go.Proofs.Ytgdmjpehofdnpaa.POf
open Go.RowKit Go.Proofs.YtgdmjpehofdnpaaW.PrintWords Go.Proofs.YtgdmjpehofdnpaaW.PrintLast Go.Proofs.YtgdmjpehofdnpaaW.PrintMore
attribute [local go_sem] zb8 zb9 zce zcd zb6 zb4 zb7 zca
set_option linter.unusedVariables false
set_option linter.unusedSimpArgs false
def zbt.l0 : Nat → Int → List Int → List (S46) → Int → Int → Option (List Int)
 | 0, _, _, _, _, _ => none
 | k + 1, x1, x5, x9, x10, x11 => if x11 < x10 then (if 0 ≤ x11 then (if x11 < (x9.length : Int) then (if ((zal x9 x11).f0) = x1 then (if x5.length < 17592186044416 then (zbt.l0 k x1 (x5 ++ [x11]) x9 x10 (wrap64 (x11 + 1))) else (none)) else (zbt.l0 k x1 x5 x9 x10 (wrap64 (x11 + 1)))) else (none)) else (none)) else (some x5)
def zbt.f (k : Nat) (l0_0 : List ByteArray) (l0_1 : List ByteArray) (l0_2 : List (S46)) (a1 : Int) : Option (List Int) := zbt.l0 k a1 ([] : List Int) l0_2 (l0_2.length : Int) 0
theorem zbt.zby : ∀ k, (∀ y0 y1 y2 y3 y4, LeO (zbt.l0 k y0 y1 y2 y3 y4) (zbt.l0 (k + 1) y0 y1 y2 y3 y4))
 | 0 => fun _ _ _ _ _ r h => by simp [zbt.l0] at h
 | k + 1 => by
  have ih0 := zbt.zby k
  ·intro y0 y1 y2 y3 y4
   unfold zbt.l0
   repeat' first
   | (with_reducible exact ih0 _ _ _ _ _)
   | (with_reducible exact LeO.refl _)
   | (with_reducible exact LeO.none _)
   | (with_reducible refine LeO.ite ?_ ?_)
   | (with_reducible refine LeO.bind ?_ (fun _ => ?_))
   | exact ih0 _ _ _ _ _
   | exact LeO.none _
   | refine LeO.ite ?_ ?_
   | refine LeO.bind ?_ (fun _ => ?_)
theorem zbt.mono : ∀ a0 a1 a2 a3 k, LeO (zbt.f k a0 a1 a2 a3) (zbt.f (k + 1) a0 a1 a2 a3) := by
 intro a0 a1 a2 a3 k
 have ih0 := zbt.zby k
 unfold zbt.f
 repeat' first
   | (with_reducible exact ih0 _ _ _ _ _)
   | (with_reducible exact LeO.refl _)
   | (with_reducible exact LeO.none _)
   | (with_reducible refine LeO.ite ?_ ?_)
   | (with_reducible refine LeO.bind ?_ (fun _ => ?_))
   | exact ih0 _ _ _ _ _
   | exact LeO.none _
   | refine LeO.ite ?_ ?_
   | refine LeO.bind ?_ (fun _ => ?_)
set_option maxHeartbeats 8000000 in
set_option maxRecDepth 100000 in
theorem zbt.calls (k : Nat) (A0_0 : Option Addr) (c0_0 : Nat) (l0_0 : List ByteArray) (A0_1 : Option Addr) (c0_1 : Nat) (l0_1 : List ByteArray) (A0_2 : Option Addr) (c0_2 : Nat) (l0_2 : List (S46)) (a1 : Int) (r : List Int) (w : World) (hr0_0 : Kd.C Kd.string w A0_0 l0_0.length l0_0) (hc0_0 : l0_0.length ≤ c0_0) (hr0_1 : Kd.C Kd.string w A0_1 l0_1.length l0_1) (hc0_1 : l0_1.length ≤ c0_1) (hr0_2 : Kd.C k46 w A0_2 l0_2.length l0_2) (hc0_2 : l0_2.length ≤ c0_2) (h : zbt.f k l0_0 l0_1 l0_2 a1 = some r) :
  Calls Try.prog 27 #[.agg #[.slice A0_0 l0_0.length c0_0, .slice A0_1 l0_1.length c0_1, .slice A0_2 l0_2.length c0_2], .int .i64 a1] w fun e w' => ∃ v0_ : Value, e = .returned (v0_) ∧ Kd.R (Kd.int .i64) 3 w' w.heap.size (fun _ => True) v0_ r ∧ Below w.heap.size w w' := by
 have hu25 := Try.underlying25
 have hu46 := Try.underlying46
 have HR0_0 := zaa.mk hr0_0
 have HC0_0 := zaa.mk hc0_0
 clear hr0_0 hc0_0
 have HR0_1 := zaa.mk hr0_1
 have HC0_1 := zaa.mk hc0_1
 clear hr0_1 hc0_1
 have HR0_2 := zaa.mk hr0_2
 have HC0_2 := zaa.mk hc0_2
 clear hr0_2 hc0_2
 have HB := zaa.mk (Below.refl w.heap.size w)
 have H : (zbt.l0 k a1 ([] : List Int) l0_2 (l0_2.length : Int) 0) = some r := h
 clear h
 have H' := zaa.mk H
 clear H
 go_enter Try.func27, Try.ntmps27
 go_wp2_with (first | ((with_reducible refine zba (N := 2) rfl ?_); refine za9 ?hg (N := 2) ?hd (cs := #[.slice A0_0 l0_0.length c0_0, .slice A0_1 l0_1.length c0_1, .slice A0_2 l0_2.length c0_2]) (t := 25) ?hr ?_; (case hd => rfl); (case hg => rfl); (case hr => first | (go_simp; done) | (go_simp; rfl)); intro gb101 hg w3 hbox hb; have n0_ := zaa.mk (zax (by repeat (first | (with_reducible first | exact HB.out | apply zaf | apply zac | apply zad) | exact HB.out)) hb); have n1_ := zaa.mk (hbox); have n2_ := zaa.mk ((by rw [hg]; exact (zat (by repeat (first | (with_reducible first | exact HB.out | apply zaf | apply zac | apply zad) | exact HB.out))) : w.heap.size ≤ gb101)); have n3_ := zaa.mk ((by rw [hg]; exact (zat (by repeat (first | (with_reducible first | exact HB.out | apply zaf | apply zac | apply zad) | exact HB.out))) : w.heap.size ≤ gb101)); clear HB; have HB := n0_; have BK101 := n1_; have GW101 := n2_; have GE101 := n3_; clear n0_ n1_ n2_ n3_; clear hb hbox hg; have hcz4_0 : w3.cell? ⟨gb101, 0, none⟩ = some (.slice A0_0 l0_0.length c0_0) := (zab BK101.out 0).trans rfl; have hcz4_1 : w3.cell? ⟨gb101, 1, none⟩ = some (.slice A0_1 l0_1.length c0_1) := (zab BK101.out 1).trans rfl; have hcz4_2 : w3.cell? ⟨gb101, 2, none⟩ = some (.slice A0_2 l0_2.length c0_2) := (zab BK101.out 2).trans rfl; have hfz4_0 := zak BK101.out 0; have hfz4_1 := zak BK101.out 1; have hfz4_2 := zak BK101.out 2))
 go_loopg [5, 11] k (fun kq v5 v11 w' => ∃ (x5_1 : List Int) (x11_1 : Int), v11 = .int .i64 x11_1 ∧ zaa (zbt.l0 kq a1 x5_1 l0_2 (l0_2.length : Int) x11_1 = some r) ∧ zaa (kq ≤ k) ∧ zaa (Kd.R (Kd.int .i64) 3 w' w.heap.size (fun _ => True) v5 x5_1) ∧ zaa (w'.heap[gb101]? = some (.cells #[(.slice A0_0 l0_0.length c0_0), (.slice A0_1 l0_1.length c0_1), (.slice A0_2 l0_2.length c0_2)] 25 (0, 0))) ∧ zaa (Below w.heap.size w w'))
 case atStart => exact ⟨(([] : List Int)), (0), (by first | rfl | (simp; done) | (simp [*]; done)), H', ⟨Nat.le_refl _⟩, ⟨by first | exact Kd.R_nil _ _ _ _ _ | exact Kd.N_nil _ _ _ _ _ | exact Kd.V_nil _ _ _ _ _ | exact Kd.Q_nil _ _ _ _ _ | exact Kd.S_nil _ _ _ _ _⟩, ⟨by (with_reducible repeat (first | refine zai ?_ _ | refine zae ?_ | refine zah ?_ _)); exact BK101.out⟩, ⟨by repeat (first | (with_reducible first | exact HB.out | apply zaf | apply zac | apply zad | refine zaj ?_ GE101.out) | exact HB.out)⟩⟩
 case round =>
  clear H'
  try clear c2
  try clear p2
  try clear hcz4_0
  try clear hcz4_1
  try clear hcz4_2
  try clear hfz4_0
  try clear hfz4_1
  try clear hfz4_2
  obtain ⟨x5_1, x11_1, rfl, HA, HK1, HO_5, BK101, HB⟩ := hrel
  cases gk with
  | zero => exact absurd HA.out (by simp [zbt.l0])
  | succ k1 =>
   have H := HA.out
   clear HA
   simp only [zbt.l0] at H
   by_cases c5 : x11_1 < (l0_2.length : Int)
   ·rw [if_pos c5] at H
    have c5b0 : decide (x11_1 < (l0_2.length : Int)) = true := decide_eq_true c5
    clear c5
    by_cases c6 : 0 ≤ x11_1
    ·rw [if_pos c6] at H
     have c6b0 : decide (0 ≤ x11_1) = true := decide_eq_true c6
     clear c6
     by_cases c7 : x11_1 < (l0_2.length : Int)
     ·rw [if_pos c7] at H
      have c7b0 : decide (x11_1 < (l0_2.length : Int)) = true := decide_eq_true c7
      clear c7
      by_cases c8 : ((zal l0_2 x11_1).f0) = a1
      ·rw [if_pos c8] at H
       have c8b0 : (((zal l0_2 x11_1).f0) == a1) = true := beq_iff_eq.mpr c8
       have c8b1 : (((zal l0_2 x11_1).f0) != a1) = false := bne_eq_false_iff_eq.mpr c8
       clear c8
       by_cases c9 : x5_1.length < 17592186044416
       ·rw [if_pos c9] at H
        have LMc9 := zaa.mk c9
        clear c9
        obtain ⟨y104, hy104⟩ : ∃ y_ : List Int, y_ = (x5_1 ++ [x11_1]) := ⟨_, rfl⟩
        replace H : (zbt.l0 k1 a1 y104 l0_2 (l0_2.length : Int) (wrap64 (x11_1 + 1))) = some r := by first | (rw [hy104]; with_reducible exact H) | (have H2_ := (Option.bind_some _ _).symm.trans H; rw [hy104]; with_reducible exact H2_) | (have H2_ := (Option.bind_some _ _).symm.trans H; with_reducible exact H2_) | with_reducible exact H | (rw [hy104]; exact H) | exact H
        have Ny104 := zaa.mk hy104
        clear hy104
        have H' := zaa.mk H
        clear H
        have p102 : 0 ≤ (x11_1 : Int) := of_decide_eq_true (by first | (with_reducible assumption) | assumption)
        have q102 : x11_1 < (l0_2.length : Int) := of_decide_eq_true (by first | (with_reducible assumption) | assumption)
        obtain ⟨ad102, A102_1, c102_1, e102, hx102_0, hx102_1, hx102_2, hl102_1, hi102_1⟩ := at_T46 HR0_2.out x11_1 p102 q102
        cases e102
        replace hx102_0 := (HB.out.cell (World.block_lt_of_cell? w _ hx102_0)).trans hx102_0
        replace hx102_1 := (HB.out.cell (World.block_lt_of_cell? w _ hx102_1)).trans hx102_1
        replace hx102_2 := (HB.out.cell (World.block_lt_of_cell? w _ hx102_2)).trans hx102_2
        have HR102_1 := zaa.mk hi102_1
        have HC102_1 := zaa.mk hl102_1
        clear hi102_1 hl102_1
        replace p102 := eq_true p102
        replace q102 := eq_true q102
        go_wp2_with (first | ((with_reducible refine zba (N := 7) rfl ?_); refine za9 ?hg (N := 7) ?hd (cs := #[.int .i64 0, .slice none 0 0, .int .i64 0]) (t := 46) ?hr ?_; (case hd => rfl); (case hg => rfl); (case hr => first | (go_simp; done) | (go_simp; rfl)); intro gb103 hg w10 hbox hb; have n0_ := zaa.mk (Kd.zbq (by (with_reducible repeat (first | apply Kd.zbf | apply Kd.zbd | apply Kd.zbg)); exact HO_5.out) hb); have n1_ := zaa.mk (zaq (g := gb101) (o := .cells #[.slice A0_0 l0_0.length c0_0, .slice A0_1 l0_1.length c0_1, .slice (some ad102) l0_2.length c0_2] 25 (0, 0)) (by (with_reducible repeat (first | refine zai ?_ _ | refine zae ?_ | refine zah ?_ _)); exact BK101.out) hb); have n2_ := zaa.mk (zax (by repeat (first | (with_reducible first | exact HB.out | apply zaf | apply zac | apply zad | refine zaj ?_ GE101.out) | exact HB.out)) hb); have n3_ := zaa.mk (hbox); have n4_ := zaa.mk ((by rw [hg]; exact (zat (by repeat (first | (with_reducible first | exact HB.out | apply zaf | apply zac | apply zad | refine zaj ?_ GE101.out) | exact HB.out))) : w.heap.size ≤ gb103)); have n5_ := zaa.mk ((by rw [hg]; exact (zat (by repeat (first | (with_reducible first | exact HB.out | apply zaf | apply zac | apply zad | refine zaj ?_ GE101.out) | exact HB.out))) : w.heap.size ≤ gb103)); have n6_ := zaa.mk ((by rw [hg]; exact Nat.ne_of_lt (zaw (g := gb101) (o := .cells #[.slice A0_0 l0_0.length c0_0, .slice A0_1 l0_1.length c0_1, .slice (some ad102) l0_2.length c0_2] 25 (0, 0)) (by (with_reducible repeat (first | refine zai ?_ _ | refine zae ?_ | refine zah ?_ _)); exact BK101.out)) : gb101 ≠ gb103)); have n7_ := zaa.mk ((by rw [hg]; exact Nat.ne_of_gt (zaw (g := gb101) (o := .cells #[.slice A0_0 l0_0.length c0_0, .slice A0_1 l0_1.length c0_1, .slice (some ad102) l0_2.length c0_2] 25 (0, 0)) (by (with_reducible repeat (first | refine zai ?_ _ | refine zae ?_ | refine zah ?_ _)); exact BK101.out)) : gb103 ≠ gb101)); clear HO_5; clear BK101; clear HB; have HO_5 := n0_; have BK101 := n1_; have HB := n2_; have BK103 := n3_; have GW103 := n4_; have GE103 := n5_; have NB101_103 := n6_; have NB103_101 := n7_; clear n0_ n1_ n2_ n3_ n4_ n5_ n6_ n7_; clear hb hbox hg; have hnb11 := NB103_101.out; have hnc11 := NB101_103.out; have hcz12_0 : w10.cell? ⟨gb103, 0, none⟩ = some (.int .i64 0) := (zab BK103.out 0).trans rfl; have hcz12_1 : w10.cell? ⟨gb103, 1, none⟩ = some (.slice none 0 0) := (zab BK103.out 1).trans rfl; have hcz12_2 : w10.cell? ⟨gb103, 2, none⟩ = some (.int .i64 0) := (zab BK103.out 2).trans rfl; have hfz12_0 := zak BK103.out 0; have hfz12_1 := zak BK103.out 1; have hfz12_2 := zak BK103.out 2) | ((with_reducible refine gate_builtin (b := .append) (xs := #[.tmp 20, .tmp 22]) rfl ?_); at_builtin; refine Kd.R_append (Kd.int .i64) (w0 := w) w.heap.size rfl (.tmp 20) (.tmp 22) 50 3 (.int .i64 0) 8 rfl Try.underlying50 info3 rfl (by decide) (by omega) u5 x5_1 x11_1 [.int .i64 x11_1] (fun _ => True) (fun _ => False) rfl (by first | (go_simp; done) | (go_simp; rfl)) ?aP (fun _ hk => hk.elim) ?aF ?aO ?aB ?aS ?aL ?_; (case aP => exact rfl); (case aB => exact (by repeat (first | (with_reducible first | exact HB.out | apply zaf | apply zac | apply zad | refine zaj ?_ GE101.out | refine zaj ?_ GE103.out) | exact HB.out))); (case aF => exact (fun _ _ => trivial)); (case aO => exact (by (with_reducible repeat (first | apply Kd.zbf | apply Kd.zbd | apply Kd.zbg)); exact Kd.zbn (Kd.R_far (p := ⟨gb103, 2, none⟩) (Kd.R_far (p := ⟨gb103, 1, none⟩) (Kd.R_far (p := ⟨gb103, 0, none⟩) (Kd.R_types HO_5.out BK103.out (by decide)) (fun _ hk => hk.2) (.int .i64 ((zal l0_2 x11_1).f0))) (fun _ hk => hk.2) (.slice A102_1 ((zal l0_2 x11_1).f1).length c102_1)) (fun _ hk => hk.2) (.int .i64 ((zal l0_2 x11_1).f2))) (fun _ hk => trivial))); (case aS => exact (zat (by repeat (first | (with_reducible first | exact HB.out | apply zaf | apply zac | apply zad | refine zaj ?_ GE101.out | refine zaj ?_ GE103.out) | exact HB.out)))); (case aL => have := LMc9.out; omega); intro v105 w13 ho hb hg hat; rw [← Ny104.out] at ho; have n0_ := zaa.mk (zck (g := gb101) (o := .cells #[.slice A0_0 l0_0.length c0_0, .slice A0_1 l0_1.length c0_1, .slice (some ad102) l0_2.length c0_2] 25 (0, 0)) (by (with_reducible repeat (first | refine zai ?_ _ | refine zae ?_ | refine zah ?_ _)); refine zbh ?_ NB101_103.out _; (with_reducible repeat (first | refine zai ?_ _ | refine zae ?_ | refine zah ?_ _)); refine zbh ?_ NB101_103.out _; (with_reducible repeat (first | refine zai ?_ _ | refine zae ?_ | refine zah ?_ _)); refine zbh ?_ NB101_103.out _; (with_reducible repeat (first | refine zai ?_ _ | refine zae ?_ | refine zah ?_ _)); exact BK101.out) hg (Kd.R_ne HO_5.out BK101.out (by decide))); have n1_ := zaa.mk (zck (g := gb103) (o := .cells #[.int .i64 ((zal l0_2 x11_1).f0), .slice A102_1 ((zal l0_2 x11_1).f1).length c102_1, .int .i64 ((zal l0_2 x11_1).f2)] 46 (0, 0)) (by (with_reducible repeat (first | refine zai ?_ _ | refine zae ?_ | refine zah ?_ _)); refine zbm (cs := #[.int .i64 ((zal l0_2 x11_1).f0), .slice A102_1 ((zal l0_2 x11_1).f1).length c102_1, .int .i64 0]) ?_ 2 _ rfl; (with_reducible repeat (first | refine zai ?_ _ | refine zae ?_ | refine zah ?_ _)); refine zbm (cs := #[.int .i64 ((zal l0_2 x11_1).f0), .slice none 0 0, .int .i64 0]) ?_ 1 _ rfl; (with_reducible repeat (first | refine zai ?_ _ | refine zae ?_ | refine zah ?_ _)); refine zbm (cs := #[.int .i64 0, .slice none 0 0, .int .i64 0]) ?_ 0 _ rfl; (with_reducible repeat (first | refine zai ?_ _ | refine zae ?_ | refine zah ?_ _)); exact BK103.out) hg (Kd.R_ne HO_5.out BK103.out (by decide))); have n2_ := zaa.mk (hb); have n3_ := zaa.mk (ho); clear BK101; clear BK103; clear HB; clear HO_5; have BK101 := n0_; have BK103 := n1_; have HB := n2_; have HO106 := n3_; clear n0_ n1_ n2_ n3_; clear ho hb hg hat))
        go_roundg k1
        case measure => have := HK1.out; omega
        case rel => exact ⟨(y104), (wrap64 (x11_1 + 1)), (by first | rfl | (simp; done) | (simp [*]; done)), H', ⟨by have := HK1.out; omega⟩, ⟨by (with_reducible repeat (first | apply Kd.zbf | apply Kd.zbd | apply Kd.zbg)); exact HO106.out⟩, ⟨by (with_reducible repeat (first | refine zai ?_ _ | refine zae ?_ | refine zah ?_ _)); exact BK101.out⟩, ⟨by repeat (first | (with_reducible first | exact HB.out | apply zaf | apply zac | apply zad | refine zaj ?_ GE101.out | refine zaj ?_ GE103.out) | exact HB.out)⟩⟩
       ·rw [if_neg c9] at H
        exact absurd H (by simp)
      ·rw [if_neg c8] at H
       have c8b0 : (((zal l0_2 x11_1).f0) == a1) = false := beq_eq_false_iff_ne.mpr c8
       have c8b1 : (((zal l0_2 x11_1).f0) != a1) = true := bne_iff_ne.mpr c8
       have H' := zaa.mk H
       clear H
       have p102 : 0 ≤ (x11_1 : Int) := of_decide_eq_true (by first | (with_reducible assumption) | assumption)
       have q102 : x11_1 < (l0_2.length : Int) := of_decide_eq_true (by first | (with_reducible assumption) | assumption)
       obtain ⟨ad102, A102_1, c102_1, e102, hx102_0, hx102_1, hx102_2, hl102_1, hi102_1⟩ := at_T46 HR0_2.out x11_1 p102 q102
       cases e102
       replace hx102_0 := (HB.out.cell (World.block_lt_of_cell? w _ hx102_0)).trans hx102_0
       replace hx102_1 := (HB.out.cell (World.block_lt_of_cell? w _ hx102_1)).trans hx102_1
       replace hx102_2 := (HB.out.cell (World.block_lt_of_cell? w _ hx102_2)).trans hx102_2
       have HR102_1 := zaa.mk hi102_1
       have HC102_1 := zaa.mk hl102_1
       clear hi102_1 hl102_1
       replace p102 := eq_true p102
       replace q102 := eq_true q102
       go_wp2_with (first | ((with_reducible refine zba (N := 7) rfl ?_); refine za9 ?hg (N := 7) ?hd (cs := #[.int .i64 0, .slice none 0 0, .int .i64 0]) (t := 46) ?hr ?_; (case hd => rfl); (case hg => rfl); (case hr => first | (go_simp; done) | (go_simp; rfl)); intro gb103 hg w14 hbox hb; have n0_ := zaa.mk (Kd.zbq (by (with_reducible repeat (first | apply Kd.zbf | apply Kd.zbd | apply Kd.zbg)); exact HO_5.out) hb); have n1_ := zaa.mk (zaq (g := gb101) (o := .cells #[.slice A0_0 l0_0.length c0_0, .slice A0_1 l0_1.length c0_1, .slice (some ad102) l0_2.length c0_2] 25 (0, 0)) (by (with_reducible repeat (first | refine zai ?_ _ | refine zae ?_ | refine zah ?_ _)); exact BK101.out) hb); have n2_ := zaa.mk (zax (by repeat (first | (with_reducible first | exact HB.out | apply zaf | apply zac | apply zad | refine zaj ?_ GE101.out) | exact HB.out)) hb); have n3_ := zaa.mk (hbox); have n4_ := zaa.mk ((by rw [hg]; exact (zat (by repeat (first | (with_reducible first | exact HB.out | apply zaf | apply zac | apply zad | refine zaj ?_ GE101.out) | exact HB.out))) : w.heap.size ≤ gb103)); have n5_ := zaa.mk ((by rw [hg]; exact (zat (by repeat (first | (with_reducible first | exact HB.out | apply zaf | apply zac | apply zad | refine zaj ?_ GE101.out) | exact HB.out))) : w.heap.size ≤ gb103)); have n6_ := zaa.mk ((by rw [hg]; exact Nat.ne_of_lt (zaw (g := gb101) (o := .cells #[.slice A0_0 l0_0.length c0_0, .slice A0_1 l0_1.length c0_1, .slice (some ad102) l0_2.length c0_2] 25 (0, 0)) (by (with_reducible repeat (first | refine zai ?_ _ | refine zae ?_ | refine zah ?_ _)); exact BK101.out)) : gb101 ≠ gb103)); have n7_ := zaa.mk ((by rw [hg]; exact Nat.ne_of_gt (zaw (g := gb101) (o := .cells #[.slice A0_0 l0_0.length c0_0, .slice A0_1 l0_1.length c0_1, .slice (some ad102) l0_2.length c0_2] 25 (0, 0)) (by (with_reducible repeat (first | refine zai ?_ _ | refine zae ?_ | refine zah ?_ _)); exact BK101.out)) : gb103 ≠ gb101)); clear HO_5; clear BK101; clear HB; have HO_5 := n0_; have BK101 := n1_; have HB := n2_; have BK103 := n3_; have GW103 := n4_; have GE103 := n5_; have NB101_103 := n6_; have NB103_101 := n7_; clear n0_ n1_ n2_ n3_ n4_ n5_ n6_ n7_; clear hb hbox hg; have hnb15 := NB103_101.out; have hnc15 := NB101_103.out; have hcz16_0 : w14.cell? ⟨gb103, 0, none⟩ = some (.int .i64 0) := (zab BK103.out 0).trans rfl; have hcz16_1 : w14.cell? ⟨gb103, 1, none⟩ = some (.slice none 0 0) := (zab BK103.out 1).trans rfl; have hcz16_2 : w14.cell? ⟨gb103, 2, none⟩ = some (.int .i64 0) := (zab BK103.out 2).trans rfl; have hfz16_0 := zak BK103.out 0; have hfz16_1 := zak BK103.out 1; have hfz16_2 := zak BK103.out 2))
       go_roundg k1
       case measure => have := HK1.out; omega
       case rel => exact ⟨(x5_1), (wrap64 (x11_1 + 1)), (by first | rfl | (simp; done) | (simp [*]; done)), H', ⟨by have := HK1.out; omega⟩, ⟨by (with_reducible repeat (first | apply Kd.zbf | apply Kd.zbd | apply Kd.zbg)); exact Kd.zbn (Kd.R_far (p := ⟨gb103, 2, none⟩) (Kd.R_far (p := ⟨gb103, 1, none⟩) (Kd.R_far (p := ⟨gb103, 0, none⟩) (Kd.R_types HO_5.out BK103.out (by decide)) (fun _ hk => hk.2) (.int .i64 ((zal l0_2 x11_1).f0))) (fun _ hk => hk.2) (.slice A102_1 ((zal l0_2 x11_1).f1).length c102_1)) (fun _ hk => hk.2) (.int .i64 ((zal l0_2 x11_1).f2))) (fun _ hk => trivial)⟩, ⟨by (with_reducible repeat (first | refine zai ?_ _ | refine zae ?_ | refine zah ?_ _)); refine zbh ?_ NB101_103.out _; (with_reducible repeat (first | refine zai ?_ _ | refine zae ?_ | refine zah ?_ _)); refine zbh ?_ NB101_103.out _; (with_reducible repeat (first | refine zai ?_ _ | refine zae ?_ | refine zah ?_ _)); refine zbh ?_ NB101_103.out _; (with_reducible repeat (first | refine zai ?_ _ | refine zae ?_ | refine zah ?_ _)); exact BK101.out⟩, ⟨by repeat (first | (with_reducible first | exact HB.out | apply zaf | apply zac | apply zad | refine zaj ?_ GE101.out | refine zaj ?_ GE103.out) | exact HB.out)⟩⟩
     ·rw [if_neg c7] at H
      exact absurd H (by simp)
    ·rw [if_neg c6] at H
     exact absurd H (by simp)
   ·rw [if_neg c5] at H
    have c5b0 : decide (x11_1 < (l0_2.length : Int)) = false := decide_eq_false c5
    clear c5
    obtain rfl := Option.some.inj H
    go_wp2
    go_ret
    exact ⟨_, by first | rfl | (simp [za6, za4] <;> rfl) | (simp [*, za6, za4] <;> rfl), by (with_reducible repeat (first | apply Kd.zbf | apply Kd.zbd | apply Kd.zbg)); exact HO_5.out, by repeat (first | (with_reducible first | exact HB.out | apply zaf | apply zac | apply zad | refine zaj ?_ GE101.out) | exact HB.out)⟩
end Go.Proofs.Ytgdmjpehofdnpaa.POf
end
section
namespace Go.Proofs.Ytgdmjpehofdnpaa.LrK
open Go Go.Maps
set_option linter.unusedVariables false
set_option linter.unusedSimpArgs false
abbrev TL : TypeId := 39
abbrev Lr := Int × Int × Int
def lrA (x : Lr) : Array Value := #[.int .i64 x.1, .int .i64 x.2.1, .int .i64 x.2.2]
def lrV (x : Lr) : Value := .agg (lrA x)
def lrOk (x : Lr) : Prop := (Lit.int .i64 x.1).wf = true ∧ (Lit.int .i64 x.2.1).wf = true ∧ (Lit.int .i64 x.2.2).wf = true
def lrL (x : Lr) : Lit := .string (keyBytes [.int .i64 x.1, .int .i64 x.2.1, .int .i64 x.2.2])
theorem laidOut : laidOutB Try.prog = true := by kernel_rfl
theorem rowL : (TL : TypeId) < Try.prog.types.size := of_decide_eq_true (by kernel_rfl)
theorem wideL : (match Try.prog.underlying TL with | some (.array _ _) | some (.struct _) => true | _ => false) = true := by rw [Try.underlying39]
set_option maxRecDepth 100000 in
theorem law : Keyed Try.prog TL := Keyed.of_law (deep_law_laid laidOut (m := 2) (by omega) rowL (by kernel_rfl) wideL)
theorem keyTypeL : Try.prog.keyType TL = true := by kernel_rfl
theorem cellsL : Try.prog.cellsOf TL = 3 := by kernel_rfl
theorem cellsI : Try.prog.cellsOf 3 = 1 := by kernel_rfl
theorem sizeL : ∃ m, Try.prog.types.size = m + 1 := ⟨Try.prog.types.size - 1, by have : 0 < Try.prog.types.size := of_decide_eq_true (by kernel_rfl); omega⟩
theorem keyLits_lr (x : Lr) (h : lrOk x) : Try.prog.keyLits (Try.prog.types.size + 1) TL (lrA x).toList = some [.int .i64 x.1, .int .i64 x.2.1, .int .i64 x.2.2] := by
 obtain ⟨m, hm⟩ := sizeL
 obtain ⟨h1, h2, h3⟩ := h
 rw [hm]
 simp only [Program.keyLits, Try.underlying39, lrA]
 rw [if_pos ⟨by rw [cellsL]; rfl, by simp⟩]
 simp [Program.keyLits, Try.underlying3, cellsI, h1, h2, h3]
theorem lrL_key {x : Lr} (h : lrOk x) : keyOf Try.prog TL (lrV x) = some (lrL x) := by
 unfold keyOf
 simp only [Try.underlying39]
 rw [if_pos (by simp [keyTypeL, lrV, lrA, Value.formed, Try.underlying39, cellsL])]
 show (Try.prog.keyLits (Try.prog.types.size + 1) TL (lrA x).toList).map _ = _
 rw [keyLits_lr x h]
 rfl
theorem keyI (m : Nat) {v : Value} {L : List Lit} (h : Try.prog.keyLits (m + 1) 3 [v] = some L) : ∃ n, (Lit.int .i64 n).wf = true ∧ v = .int .i64 n ∧ L = [.int .i64 n] := by
 simp only [Program.keyLits, Try.underlying3] at h
 split at h
 all_goals simp_all
 all_goals (obtain ⟨⟨h0, h1⟩, h2⟩ := h; subst h0; subst h2; exact ⟨_, h1, by simp, rfl⟩)
set_option maxRecDepth 100000 in
theorem lr_inv {v : Value} {l : Lit} (h : keyOf Try.prog TL v = some l) : ∃ x, lrOk x ∧ v = lrV x ∧ l = lrL x := by
 obtain ⟨xs, L, rfl, hL, rfl⟩ := keyOf_top wideL h
 obtain ⟨m, hm⟩ := sizeL
 rw [hm] at hL
 unfold Program.keyLits at hL
 simp only [Try.underlying39] at hL
 split at hL
 case isFalse => cases hL
 rename_i hc
 rw [cellsL] at hc
 obtain ⟨a, b, c, e⟩ : ∃ a b c, xs.toList = [a, b, c] := by
  match hx : xs.toList, hc.1 with
  | [a, b, c], _ => exact ⟨a, b, c, rfl⟩
 have hx : xs = #[a, b, c] := Array.toList_inj.1 e
 subst hx
 simp only [List.mapM_cons, List.mapM_nil, cellsI, List.drop, List.take, Option.map_eq_some_iff, Option.bind_eq_bind, Option.bind_eq_some_iff, Option.pure_def, Option.some.injEq] at hL
 obtain ⟨LL, ⟨L1, g1, L2, ⟨L3, g3, L4, ⟨L5, g5, L6, g6, rfl⟩, rfl⟩, rfl⟩, rfl⟩ := hL
 obtain ⟨n1, w1, rfl, rfl⟩ := keyI m g1
 obtain ⟨n2, w2, rfl, rfl⟩ := keyI m g3
 obtain ⟨n3, w3, rfl, rfl⟩ := keyI m g5
 subst g6
 exact ⟨(n1, n2, n3), ⟨w1, w2, w3⟩, rfl, rfl⟩
theorem lrL_inj {x y : Lr} (hx : lrOk x) (hy : lrOk y) (h : lrL x = lrL y) : x = y := by
 have := law.inj (lrL_key hx) (by rw [h]; exact lrL_key hy)
 simp only [lrV, lrA, Value.agg.injEq, Array.mk.injEq, List.cons.injEq, Value.int.injEq, true_and, and_true] at this
 obtain ⟨h1, h2, h3⟩ := this
 exact Prod.ext h1 (Prod.ext h2 h3)
end Go.Proofs.Ytgdmjpehofdnpaa.LrK
end
section
set_option linter.unusedVariables false
set_option linter.unusedSimpArgs false
namespace Go.Proofs.Ytgdmjpehofdnpaa.GMap
open Go Go.Maps
section
variable {α : Type} [DecidableEq α]
def look : List (α × Value) → α → Option Value
 | [], _ => none
 | p :: t, x => if p.1 = x then some p.2 else look t x
def putM : List (α × Value) → α → Value → List (α × Value)
 | [], x, v => [(x, v)]
 | p :: t, x, v => if p.1 = x then (x, v) :: t else p :: putM t x v
theorem look_put (x y : α) (v : Value) : ∀ M : List (α × Value), look (putM M x v) y = if y = x then some v else look M y
 | [] => by
  simp only [putM, look]
  by_cases h : y = x
  ·rw [if_pos h.symm, if_pos h]
  ·rw [if_neg (fun e => h e.symm), if_neg h]
 | p :: t => by
  have ih := look_put x y v t
  simp only [putM]
  split
  ·rename_i h
   simp only [look]
   by_cases hy : y = x
   ·rw [if_pos hy.symm, if_pos hy]
   ·rw [if_neg (fun e => hy e.symm), if_neg hy, if_neg (fun e => hy (by rw [← e, h]))]
  ·rename_i h
   simp only [look]
   by_cases hp : p.1 = y
   ·rw [if_pos hp, if_neg (fun e => h (by rw [hp, e])), if_pos hp]
   ·rw [if_neg hp, ih, if_neg hp]
theorem look_mem {M : List (α × Value)} {x : α} : (look M x).isSome = true ↔ x ∈ M.map (·.1) := by
 induction M with
 | nil => simp [look]
 | cons p t ih =>
  simp only [look, List.map_cons, List.mem_cons]
  by_cases h : p.1 = x
  ·rw [if_pos h]
   simp [h]
  ·rw [if_neg h, ih]
   exact ⟨.inr, fun g => g.resolve_left (fun e => h e.symm)⟩
theorem putM_keys (x : α) (v : Value) : ∀ M : List (α × Value), ∀ y, y ∈ (putM M x v).map (·.1) ↔ y = x ∨ y ∈ M.map (·.1) := fun M y => by
 rw [← look_mem, look_put, ← look_mem]
 by_cases h : y = x
 ·simp [h]
 ·simp [h]
theorem putM_nodup (x : α) (v : Value) : ∀ {M : List (α × Value)}, (M.map (·.1)).Nodup → ((putM M x v).map (·.1)).Nodup
 | [], _ => by simp [putM]
 | p :: t, h => by
  obtain ⟨h1, h2⟩ := List.nodup_cons.1 (by simpa using h : (p.1 :: t.map (·.1)).Nodup)
  simp only [putM]
  split
  ·rename_i e
   rw [List.map_cons]
   refine List.nodup_cons.2 ⟨?_, h2⟩
   rw [← e]
   exact h1
  ·rename_i e
   rw [List.map_cons]
   refine List.nodup_cons.2 ⟨fun hm => ?_, putM_nodup x v h2⟩
   rcases (putM_keys x v t p.1).1 hm with g | g
   ·exact e g
   ·exact h1 g
theorem putM_len (x : α) (v : Value) : ∀ M : List (α × Value), (putM M x v).length = if (look M x).isSome = true then M.length else M.length + 1
 | [] => by simp [putM, look]
 | p :: t => by
  have ih := putM_len x v t
  simp only [putM, look]
  split
  ·simp
  ·rw [List.length_cons, ih, List.length_cons]
   split <;> rfl
theorem putM_le (x : α) (v : Value) (M : List (α × Value)) : (putM M x v).length ≤ M.length + 1 := by
 rw [putM_len]
 split <;> omega
end
structure KeyAs (P : Program) (k : TypeId) (α : Type) where
 enc : α → Value
 lit : α → Lit
 ok : α → Prop
 keyed : Keyed P k
 key : ∀ {x}, ok x → keyOf P k (enc x) = some (lit x)
 inv : ∀ {v l}, keyOf P k v = some l → ∃ x, ok x ∧ v = enc x ∧ l = lit x
 inj : ∀ {x y}, ok x → ok y → lit x = lit y → x = y
def rawR (v : Value) : Option (DataW Value × List MemPlace) := some (.held v, [])
section
variable {P : Program} {k : TypeId} {α : Type} [DecidableEq α] (K : KeyAs P k α)
def MapAt (b : Nat) (M : List (α × Value)) (W : World) : Prop :=
 (M.map (·.1)).Nodup ∧ (∀ p ∈ M, K.ok p.1) ∧ ∃ D : DataW Value, W.ownsMap P k rawR b M.length D ∧ size D = M.length ∧ ∀ x, K.ok x → has D (K.lit x) = (look M x).isSome ∧ ∀ z, D.atKey (K.lit x) z = (look M x).elim z DataW.held
variable {K} {b : Nat} {M : List (α × Value)} {W : World}
theorem MapAt.lt (h : MapAt K b M W) : b < W.heap.size := by
 obtain ⟨_, _, D, h1, _⟩ := h
 exact h1.lt
theorem MapAt.block (h : MapAt K b M W) : ∃ es c, W.heap[b]? = some (.map es c) := by
 obtain ⟨_, _, D, ⟨es, clock, hb, _⟩, _⟩ := h
 exact ⟨es, clock, hb⟩
theorem MapAt.keep {W' : World} (h : MapAt K b M W) (hb : W'.heap[b]? = W.heap[b]?) : MapAt K b M W' := by
 obtain ⟨h1, h2, D, ⟨es, clock, h3, h4⟩, h5⟩ := h
 exact ⟨h1, h2, D, ⟨es, clock, hb.trans h3, h4⟩, h5⟩
theorem MapAt.new (W : World) : MapAt K W.heap.size [] (W.alloc (.map #[] 0)) :=
 ⟨List.nodup_nil, (fun _ h => nomatch h), _, World.ownsMap_made W _ _ _, rfl, fun x _ => ⟨rfl, fun z => rfl⟩⟩
theorem MapAt.look {t e : TypeId} (h : MapAt K b M W) (ht : P.underlying t = some (.map k e)) {z : Value} (hz : (zeroValue e).run P W = .ok z W) {x : α} (hx : K.ok x) :
  (Instr.lookup t (.map (some b)) (K.enc x) false).run P W = .ok ((look M x).getD z) W := by
 obtain ⟨h1, h2, D, hown, hs, hh⟩ := h
 obtain ⟨v, ps, hr, hv⟩ := hown.lookup K.keyed ht hz (zd := .held z) (zp := []) rfl (K.key hx)
 rw [(hh x hx).2] at hv
 rw [hr]
 congr 1
 simp only [rawR, Option.some.injEq, Prod.mk.injEq] at hv
 cases e : GMap.look M x with
 | none => rw [e] at hv; exact DataW.held.inj hv.1
 | some u => rw [e] at hv; exact DataW.held.inj hv.1
theorem MapAt.len {t e : TypeId} (h : MapAt K b M W) (ht : P.underlying t = some (.map k e)) (ty : TypeId) : (Builtin.len_ #[t] ty #[.map (some b)]).run P W = .ok (.int .i64 M.length) W := by
 obtain ⟨h1, h2, D, hown, hs, hh⟩ := h
 rw [← hs]
 exact hown.len ht ty
theorem tight {R : Value → Option (DataW Value × List MemPlace)} {w : World} {n : Nat} {D : DataW Value} (h : w.ownsMap P k R b n D) : w.ownsMap P k R b (size D) D := by
 obtain ⟨es, clock, hb, F, hs, hD⟩ := h
 refine ⟨es, clock, hb, F, ?_, hD⟩
 rw [hD]
 simp [Maps.size, length_sorted]
theorem MapAt.put {t e : TypeId} (h : MapAt K b M W) (ht : P.underlying t = some (.map k e)) (hn : M.length < maxLen) {x : α} (hx : K.ok x) (v : Value) :
  ∃ W', (Instr.mapUpdate t (.map (some b)) (K.enc x) v).run P W = .ok () W' ∧ MapAt K b (putM M x v) W' ∧ W.grownBy W' (some b) := by
 obtain ⟨h1, h2, D, hown, hs, hh⟩ := h
 obtain ⟨W', hr, ho, hg⟩ := hown.update K.keyed ht hn (K.key hx) (d := .held v) (ps := []) rfl
 have hk := K.keyed.key (K.key hx)
 have hsz : size (D.put (K.lit x) (.held v)) = (putM M x v).length := by
  rw [size_put (hown.tidy K.keyed) _, (hh x hx).1, hs, putM_len]
 refine ⟨W', hr, ⟨putM_nodup x v h1, fun p hp => ?_, D.put (K.lit x) (.held v), by rw [← hsz]; exact tight ho, hsz, fun y hy => ?_⟩, hg⟩
 ·rcases (putM_keys x v M p.1).1 (List.mem_map_of_mem hp) with e | e
  ·rw [e]; exact hx
  ·obtain ⟨q, hq, e⟩ := List.mem_map.1 e
   rw [← e]
   exact h2 q hq
 ·by_cases e : y = x
  ·subst e
   rw [has_put_same hown.isMap hk, look_put, if_pos rfl]
   exact ⟨rfl, fun z => atKey_put_same hown.isMap hk _ _⟩
  ·have hne : K.lit y ≠ K.lit x := fun g => e (K.inj hy hx g)
   rw [has_put_other hne, look_put, if_neg e, (hh y hy).1]
   exact ⟨rfl, fun z => by rw [atKey_put_other hne]; exact (hh y hy).2 z⟩
end
end Go.Proofs.Ytgdmjpehofdnpaa.GMap
end
section
namespace Go.Proofs.Ytgdmjpehofdnpaa.LSeq
open Go Go.RowKit Go.Shelf Go.Maps Go.Proofs.YtgdmjpehofdnpaaW.PrintWords Go.Proofs.Ytgdmjpehofdnpaa.Round Go.Proofs.Ytgdmjpehofdnpaa.RangeG Go.Proofs.Ytgdmjpehofdnpaa.Fl Go.Proofs.Ytgdmjpehofdnpaa.RangeH Go.Proofs.Ytgdmjpehofdnpaa.LrK Go.Proofs.Ytgdmjpehofdnpaa.GMap
attribute [local go_sem] Oper.semAt_some
set_option linter.unusedVariables false
set_option linter.unusedSimpArgs false
abbrev LrX := { x : Lr // lrOk x }
def encL (x : LrX) : Array Value := #[lrV x.1]
def valsL (xs : List LrX) : List Lr := xs.map (·.1)
def flatL (xs : List Lr) : List Value := xs.flatMap fun x => (lrA x).toList
theorem flatL_len (xs : List Lr) : (flatL xs).length = xs.length * 3 := by
 induction xs with
 | nil => rfl
 | cons a t ih => simp only [flatL, List.flatMap_cons, List.length_append, List.length_cons] at *; rw [ih]; simp [lrA]; omega
theorem flatL_app (xs : List Lr) (x : Lr) : flatL (xs ++ [x]) = flatL xs ++ [.int .i64 x.1, .int .i64 x.2.1, .int .i64 x.2.2] := by simp [flatL, lrA]
def keyL : KeyAs Try.prog TL Lr := ⟨lrV, lrL, lrOk, law, lrL_key, lr_inv, lrL_inj⟩
def KeepV (n₀ : Nat) (L : List Nat) (W W' : World) : Prop := KeepL n₀ L W W' ∧ KeepsWalks W W'
theorem keepV_t {n₀ : Nat} {L : List Nat} {A B C : World} (h : KeepV n₀ L A B) (k : KeepV n₀ L B C) : KeepV n₀ L A C := ⟨keepL_t h.1 k.1, walksK_t h.2 k.2⟩
def KeepU (n₀ : Nat) (l : Nat) (W W' : World) : Prop := KeepV n₀ [] W W' ∧ Behind l W W'
theorem keepU_t {n₀ l : Nat} {A B C : World} (h : KeepU n₀ l A B) (k : KeepU n₀ l B C) : KeepU n₀ l A C := ⟨keepV_t h.1 k.1, zci h.2 k.2⟩
theorem keepU_b {n₀ : Nat} {w : World} (hn : n₀ ≤ w.heap.size) (W : World) (o o' : Obj) (h : W.heap[w.heap.size + 1]? = some o) (h1 : o.isCells = false) (h2 : o.isWalk = false) : KeepU n₀ (w.heap.size + 1) W (W.putObj (w.heap.size + 1) o') :=
 ⟨⟨keepL_b (L := []) hn (fun b hb => by cases hb) W _ o o' (by omega) h h1 h2, walksK_b (w := w) W _ o o' (by omega) h h1 h2⟩, behind_b _ W o o' h⟩
theorem infoLr : (Try.prog.info? TL).map (fun i => (i.zero, i.size, i.bytes)) = some (some (.agg #[.int .i64 0, .int .i64 0, .int .i64 0]), 3, 24) := by kernel_rfl
theorem cell_three (X : World) (a b c : Value) (j : Nat) (u : Value) (hj : [a, b, c][j]? = some u) : (X.alloc (.cells #[a, b, c] TL)).cell? ((⟨X.heap.size, 0, none⟩ : Addr).add j) = some u := by
 have h := zab (zbe X (.cells #[a, b, c] TL)) j
 rw [add_plain]
 rw [h, ← hj]
 simp
set_option maxRecDepth 100000 in
set_option maxHeartbeats 4000000 in
theorem appendL_calls (gf : Nat) (lb : Array Value) (heg : ∀ args w, (callFunc gf args).run Try.prog w = .ok (.enter gf args) w) (w : World)
  (S Sp : List LrX → Prop) (N : Nat) (hN : N ≤ 1000000000000) (hseq : SeqH 2 Try.prog gf lb encL (KeepU w.heap.size) S Sp N w) :
  Calls Try.prog 62 #[.slice none 0 0, .func (.func gf) #[] lb] w fun e w' => ∃ v xs, e = .returned v ∧ S xs ∧ xs.length ≤ N ∧ w'.ownsRow w.heap.size TL 3 v xs.length (flatL (valsL xs)) ∧ Below w.heap.size w w' := by
 refine (callsIn_wide (n := 3)).1 ?_
 refine callsIn_of_wp_marks Try.func62 rfl trivial ?_ rfl
 simp only [Try.ntmps62, List.size_toArray, List.length_cons, List.length_nil, Nat.reduceAdd, Nat.reduceSub, Array.replicate_succ, Array.replicate_zero, List.push_toArray, List.append_toArray, List.nil_append, List.cons_append]
 gi_wp2
 obtain ⟨W0, hW0⟩ : ∃ W0, w.alloc (Obj.cells #[.slice none 0 0] 33) = W0 := ⟨_, rfl⟩
 have bv : Boxed W0 w.heap.size 33 (.slice none 0 0) := by rw [← hW0]; exact Boxed.new w _ _
 have tW : ∀ L T', Turn L T' w W0 := fun L T' => by rw [← hW0]; exact Turn.alloc _
 have hB0 : Below w.heap.size w W0 := by rw [← hW0]; exact (Below.refl _ _).alloc (Nat.le_refl _) _
 have sz0 : W0.heap.size = w.heap.size + 1 := by rw [← hW0]; simp
 rw [hW0]
 clear hW0
 obtain ⟨i0, hi, hz0, hz1, hz2⟩ := info_parts infoLr
 refine rangeH (gf := gf) (lb := lb) rfl heg hseq keepU_t (keepU_b (by omega)) (tW _ _) (fun _ => rfl)
  (fun pre X => (∃ v, Boxed X w.heap.size 33 v ∧ X.ownsRow W0.heap.size TL 3 v pre.length (flatL (valsL pre))) ∧ pre.length ≤ N ∧ W0.heap.size ≤ X.heap.size ∧ Below w.heap.size w X)
  (fun c pre X => False)
  ?hI ?hIx ?h0
  (fun x a' X => ∃ Bx, W0.heap.size ≤ Bx ∧ X.heap[Bx]? = some (.cells (lrA x.1) TL (0, 0)) ∧ a' = Act.mk #[.slice none 0 0, .func (.func gf) #[] lb, .pointer (some ⟨w.heap.size, 0, none⟩), undef, .slice none 0 0, .pointer (some ⟨Bx, 0, none⟩), .func (.func gf) #[] lb, lrV x.1, undef, undef, undef, undef, undef] []) ?hAx ?assign ?body ?done ?stop
 case hI =>
  rintro pre X X' ⟨⟨v, h1, h2⟩, h3, h4, h5⟩ ht
  exact ⟨⟨v, Boxed.turn h1 ht (fun h => h), row_turn h2 ht (fun _ _ h => h)⟩, h3, Nat.le_trans h4 ht.size, zb0 h5 ht (Nat.le_refl _) (by omega) (fun k hk => hk.elim)⟩
 case hIx => exact fun c s X X' h _ => h
 case h0 => exact ⟨⟨_, bv, World.ownsRow_nil _ _ _ _⟩, Nat.zero_le _, Nat.le_refl _, hB0⟩
 case hAx =>
  rintro x a' s X Y ⟨Bx, h1, h2, h3⟩ ht
  exact ⟨Bx, h1, zcb h2 ht (fun h => h), h3⟩
 case assign =>
  rintro l pre x X K ⟨⟨v, h1, h2⟩, h3, h4, h5⟩ hK2
  simp only [encL, lrV, lrA]
  gi_wp2
  refine hK2 _ _ ((KeepsOthers.alloc _ _).from _) ⟨⟨keepL_alloc (keepL_refl _ _ _) (by omega) _, KeepsWalks.alloc X _⟩, zcl ((KeepsOthers.alloc _ _).from _) (Nat.le_refl _)⟩ ⟨⟨v, h1.alloc _, h2.alloc _⟩, h3, by simp; omega, h5.alloc (by omega) _⟩ ⟨X.heap.size, h4, zbe _ _, rfl⟩
 case body =>
  rintro l pre x a' X hl hr ⟨⟨v, h1, h2⟩, h3, h4, h5⟩ ⟨Bx, hBx, hX, rfl⟩ hpre
  have cv := h1.cell
  have x0 : X.cell? ⟨Bx, 0, none⟩ = some (.int .i64 x.1.1) := zab hX 0
  have x1 : X.cell? ⟨Bx, 1, none⟩ = some (.int .i64 x.1.2.1) := zab hX 1
  have x2 : X.cell? ⟨Bx, 2, none⟩ = some (.int .i64 x.1.2.2) := zab hX 2
  have one : ∀ u ∈ [Value.int .i64 x.1.1, .int .i64 x.1.2.1, .int .i64 x.1.2.2], u.oneCell' = true := by
   intro u hu
   simp at hu
   rcases hu with rfl | rfl | rfl <;> rfl
  have H1 := Lib.hid one
  clear one hX
  have maxl : maxLen = 9223372036854775807 := rfl
  have HM := Lib.hid maxl
  clear maxl
  have il := flatL_len (valsL pre)
  have vl : (valsL pre).length = pre.length := by simp [valsL]
  gi_wp2_with (gi_at_builtin; refine wpListIn_append_own _ rfl _ _ 33 rfl W0.heap.size TL i0 (.agg #[.int .i64 0, .int .i64 0, .int .i64 0]) 3 24 Try.underlying33 hi hz0 hz1 hz2 rfl (by decide) _ _ _ rfl (h2.alloc _) ⟨X.heap.size, 0, none⟩ 1 1 [.int .i64 x.1.1, .int .i64 x.1.2.1, .int .i64 x.1.2.2] rfl rfl (cell_three _ _ _ _) H1.out (by have := HM.out; omega) (by omega) (by simp; omega) ?_; intro v' w1 hown' hgrow _; obtain ⟨g', cap', rfl⟩ := ownsRow_succ hown'; obtain ⟨hv1, hv2, hr2, hk2, hb2⟩ := append_step (n₀ := w.heap.size) (Ls := []) h1 (by omega) h2 h4 hown' hgrow (by omega) (fun b hb => nomatch hb); have hc1 := hv1.cell; have hf1 := hv1.frozen)
  have e2 : flatL (valsL (pre ++ [x])) = flatL (valsL pre) ++ [.int .i64 x.1.1, .int .i64 x.1.2.1, .int .i64 x.1.2.2] := by
   rw [← flatL_app]
   simp [valsL]
  have e3 : (pre ++ [x]).length = pre.length + 1 := by simp
  refine ⟨hk2, ⟨⟨hb2, ((KeepsWalks.alloc X _).trans (KeepsWalks.of_grownBy hgrow (fun j o hj ho => ?_))).trans (KeepsWalks.setCell _ _ _)⟩, zcl hk2 (by omega)⟩, ⟨_, hv2, ?_⟩, by omega, Nat.le_trans h4 hb2.1.size, h5.trans hb2.1⟩
  ·replace hj : v.ownBlock = some j := hj
   rcases h2.2 with ⟨hv, _⟩ | ⟨g, cap, cur, hv, hg, hh, _⟩
   ·rw [hv] at hj; simp [Value.ownBlock] at hj
   ·rw [hv] at hj
    obtain rfl : g = j := by simpa [Value.ownBlock] using hj
    rw [zah hh _] at ho
    cases ho
    rfl
  ·rw [e2, e3]
   exact hr2
 case done =>
  rintro D ys X hD hS ⟨⟨v, h1, h2⟩, h3, h4, h5⟩ hK'
  have cv := h1.cell
  have HS := Lib.hid hS
  clear hS
  gi_wp2
  refine ⟨by simp, .inl ⟨_, _, rfl, run_takeDeferred hK', ?_⟩⟩
  refine ⟨_, results_tmp rfl _ _ _, v, ys, rfl, HS.out, h3, ?_, h5.trans (belowK_b (w := w) (Nat.le_refl _) X D _ _ (by omega) hK' rfl rfl)⟩
  exact own_weaken (ownsRow_putObj h2 _ hK' rfl) (by omega)
 case stop => exact fun D c pre W hD hp h => h.elim
set_option maxHeartbeats 1000000 in
theorem collectL_calls (gf : Nat) (lb : Array Value) (heg : ∀ args w, (callFunc gf args).run Try.prog w = .ok (.enter gf args) w) (w : World)
  (S Sp : List LrX → Prop) (N : Nat) (hN : N ≤ 1000000000000) (hseq : SeqH 2 Try.prog gf lb encL (KeepU w.heap.size) S Sp N w) :
  Calls Try.prog 43 #[.func (.func gf) #[] lb] w fun e w' => ∃ v xs, e = .returned v ∧ S xs ∧ xs.length ≤ N ∧ w'.ownsRow w.heap.size TL 3 v xs.length (flatL (valsL xs)) ∧ Below w.heap.size w w' := by
 have hc := appendL_calls gf lb heg w S Sp N hN hseq
 go_enter Try.func43, Try.ntmps43
 go_wp2_with (go_at_call 62; refine hc.mono ?_; rintro e w' ⟨v, xs, rfl, h1, h2, h3, h4⟩)
 go_ret
 exact ⟨v, xs, rfl, h1, h2, h3, h4⟩
end Go.Proofs.Ytgdmjpehofdnpaa.LSeq
end
section
namespace Go.Proofs.Ytgdmjpehofdnpaa.LOrd
open Go Go.RowKit Go.Shelf Go.Maps Go.Sort Go.Proofs.YtgdmjpehofdnpaaW.PrintWords Go.Proofs.YtgdmjpehofdnpaaW.PrintLast Go.Proofs.Ytgdmjpehofdnpaa.Round Go.Proofs.Ytgdmjpehofdnpaa.RangeG Go.Proofs.Ytgdmjpehofdnpaa.Fl Go.Proofs.Ytgdmjpehofdnpaa.RangeH Go.Proofs.Ytgdmjpehofdnpaa.Ahd Go.Proofs.Ytgdmjpehofdnpaa.LrK Go.Proofs.Ytgdmjpehofdnpaa.GMap Go.Proofs.Ytgdmjpehofdnpaa.LSeq
attribute [local go_sem] Oper.semAt_some
set_option linter.unusedVariables false
set_option linter.unusedSimpArgs false
def cmpL (x y : Lr) : Int := if Lib.compareInt x.1 y.1 ≠ 0 then Lib.compareInt x.1 y.1 else if Lib.compareInt x.2.1 y.2.1 ≠ 0 then Lib.compareInt x.2.1 y.2.1 else Lib.compareInt x.2.2 y.2.2
set_option maxRecDepth 100000 in
theorem nan_calls (a : Int) (W : World) : Calls Try.prog 65 #[.int .i64 a] W fun e w' => e = .returned (.bool false) ∧ w' = W := by
 go_enter Try.func65, Try.ntmps65
 go_wp2
 go_ret
 exact ⟨by simp, rfl⟩
set_option maxRecDepth 100000 in
theorem compare_calls (a b : Int) (W : World) : Calls Try.prog 47 #[.int .i64 a, .int .i64 b] W fun e w' => e = .returned (.int .i64 (Lib.compareInt a b)) ∧ w' = W := by
 have n1 := nan_calls a W
 have n2 := nan_calls b W
 by_cases h1 : a < b
 ·have e : Lib.compareInt a b = -1 := by unfold Lib.compareInt; rw [if_pos h1]
  rw [e]
  go_enter Try.func47, Try.ntmps47
  go_wp2_with (go_at_call 65; first | (refine n1.mono ?_; rintro e w1 ⟨rfl, rfl⟩) | (refine n2.mono ?_; rintro e w1 ⟨rfl, rfl⟩))
  go_ret
  exact ⟨rfl, rfl⟩
 ·by_cases h2 : b < a
  ·have e : Lib.compareInt a b = 1 := by unfold Lib.compareInt; rw [if_neg h1, if_pos h2]
   rw [e]
   go_enter Try.func47, Try.ntmps47
   go_wp2_with (go_at_call 65; first | (refine n1.mono ?_; rintro e w1 ⟨rfl, rfl⟩) | (refine n2.mono ?_; rintro e w1 ⟨rfl, rfl⟩))
   go_ret
   exact ⟨rfl, rfl⟩
  ·obtain rfl : a = b := by omega
   have e : Lib.compareInt a a = 0 := by unfold Lib.compareInt; rw [if_neg h1, if_neg h2]
   rw [e]
   go_enter Try.func47, Try.ntmps47
   go_wp2_with (go_at_call 65; first | (refine n1.mono ?_; rintro e w1 ⟨rfl, rfl⟩) | (refine n2.mono ?_; rintro e w1 ⟨rfl, rfl⟩))
   go_ret
   exact ⟨rfl, rfl⟩
set_option maxRecDepth 100000 in
set_option maxHeartbeats 2000000 in
theorem or_calls (g : Nat) (a b c : Int) (W : World) (hg : W.heap[g]? = some (.cells #[.int .i64 a, .int .i64 b, .int .i64 c] 3 (0, 0))) : Calls Try.prog 46 #[.slice (some ⟨g, 0, none⟩) 3 3] W fun e w' => e = .returned (.int .i64 (if a ≠ 0 then a else if b ≠ 0 then b else c)) ∧ w' = W := by
 have c0 : W.cell? ⟨g, 0, none⟩ = some (.int .i64 a) := zab hg 0
 have c1 : W.cell? ⟨g, 1, none⟩ = some (.int .i64 b) := zab hg 1
 have c2 : W.cell? ⟨g, 2, none⟩ = some (.int .i64 c) := zab hg 2
 clear hg
 generalize hr : (if a ≠ 0 then a else if b ≠ 0 then b else c) = r
 have HR := Lib.hid hr
 clear hr
 go_enter Try.func46, Try.ntmps46
 go_wp2
 go_loopw [5, 8] (fun v5 v8 wr => wr = W ∧ ∃ j : Nat, j ≤ 3 ∧ v8 = .int .i64 (j : Int) ∧ (0 < j → a = 0) ∧ (1 < j → b = 0) ∧ (2 < j → c = 0)) (fun _ v8 _ => 3 - (Go.RowKit.intOf v8).toNat)
 case atStart => exact ⟨rfl, 0, by omega, rfl, by omega, by omega, by omega⟩
 case round =>
  obtain ⟨rfl, j, hj, rfl, h0, h1, h2⟩ := hrel
  have hcs : j = 0 ∨ j = 1 ∨ j = 2 ∨ j = 3 := by omega
  rcases hcs with rfl | rfl | rfl | rfl
  ·by_cases hz : a = 0
   ·have hzb : ((a : Int) == 0) = true := by simpa using hz
    have hzb2 : (!((a : Int) == 0)) = false := by simp [hz]
    go_wp2
    go_roundw
    case rel => exact ⟨trivial, 1, by omega, by go_num, (fun _ => hz), by omega, by omega⟩
    case measure => simp [Go.RowKit.intOf]
   ·have hzb : ((a : Int) == 0) = false := by simpa using hz
    have hzb2 : (!((a : Int) == 0)) = true := by simp [hz]
    go_wp2
    refine bodyPost_ret (results_tmp rfl _ _ _) rfl ?_
    have hr := HR.out
    rw [if_pos hz] at hr; subst hr
    exact ⟨rfl, rfl⟩
  ·by_cases hz : b = 0
   ·have hzb : ((b : Int) == 0) = true := by simpa using hz
    have hzb2 : (!((b : Int) == 0)) = false := by simp [hz]
    go_wp2
    go_roundw
    case rel => exact ⟨trivial, 2, by omega, by go_num, (fun _ => (h0 (by omega))), (fun _ => hz), by omega⟩
    case measure => simp [Go.RowKit.intOf]
   ·have hzb : ((b : Int) == 0) = false := by simpa using hz
    have hzb2 : (!((b : Int) == 0)) = true := by simp [hz]
    go_wp2
    refine bodyPost_ret (results_tmp rfl _ _ _) rfl ?_
    have hr := HR.out
    rw [if_neg (fun h => h (h0 (by omega))), if_pos hz] at hr; subst hr
    exact ⟨rfl, rfl⟩
  ·by_cases hz : c = 0
   ·have hzb : ((c : Int) == 0) = true := by simpa using hz
    have hzb2 : (!((c : Int) == 0)) = false := by simp [hz]
    go_wp2
    go_roundw
    case rel => exact ⟨trivial, 3, by omega, by go_num, (fun _ => (h0 (by omega))), (fun _ => (h1 (by omega))), (fun _ => hz)⟩
    case measure => simp [Go.RowKit.intOf]
   ·have hzb : ((c : Int) == 0) = false := by simpa using hz
    have hzb2 : (!((c : Int) == 0)) = true := by simp [hz]
    go_wp2
    refine bodyPost_ret (results_tmp rfl _ _ _) rfl ?_
    have hr := HR.out
    rw [if_neg (fun h => h (h0 (by omega))), if_neg (fun h => h (h1 (by omega)))] at hr; subst hr
    exact ⟨rfl, rfl⟩
  ·go_wp2
   refine bodyPost_ret (results_tmp rfl _ _ _) rfl ?_
   have hr := HR.out
   rw [if_neg (fun h => h (h0 (by omega))), if_neg (fun h => h (h1 (by omega))), h2 (by omega)] at hr
   subst hr
   exact ⟨rfl, rfl⟩
set_option maxRecDepth 100000 in
set_option maxHeartbeats 4000000 in
theorem order_calls (x y : Lr) (w : World) : Calls Try.prog 35 #[lrV x, lrV y] w fun e w' => e = .returned (.int .i64 (cmpL x y)) ∧ ∃ q os, w' = grow (w.drewN q) os := by
 simp only [lrV, lrA]
 go_enter Try.func35, Try.ntmps35
 go_wp2
 obtain ⟨W2, hW2⟩ : ∃ W2, (w.alloc (.cells #[.int .i64 x.1, .int .i64 x.2.1, .int .i64 x.2.2] 39)).alloc (.cells #[.int .i64 y.1, .int .i64 y.2.1, .int .i64 y.2.2] 39) = W2 := ⟨_, rfl⟩
 have b0 : W2.heap[w.heap.size]? = some (.cells #[.int .i64 x.1, .int .i64 x.2.1, .int .i64 x.2.2] 39 (0, 0)) := by rw [← hW2]; exact zah (zbe w _) _
 have b1 : W2.heap[w.heap.size + 1]? = some (.cells #[.int .i64 y.1, .int .i64 y.2.1, .int .i64 y.2.2] 39 (0, 0)) := by rw [← hW2]; have := zbe (w.alloc (.cells #[.int .i64 x.1, .int .i64 x.2.1, .int .i64 x.2.2] 39)) (.cells #[.int .i64 y.1, .int .i64 y.2.1, .int .i64 y.2.2] 39); simpa using this
 rename_i K6 hK6
 rw [hW2]
 have hHeld : (fun X => X.cell? ⟨w.heap.size, 0, none⟩ = some (.int .i64 x.1) ∧ X.cell? ⟨w.heap.size, 1, none⟩ = some (.int .i64 x.2.1) ∧ X.cell? ⟨w.heap.size, 2, none⟩ = some (.int .i64 x.2.2) ∧ X.cell? ⟨w.heap.size + 1, 0, none⟩ = some (.int .i64 y.1) ∧ X.cell? ⟨w.heap.size + 1, 1, none⟩ = some (.int .i64 y.2.1) ∧ X.cell? ⟨w.heap.size + 1, 2, none⟩ = some (.int .i64 y.2.2)) W2.drew := ⟨zab (zae b0) 0, zab (zae b0) 1, zab (zae b0) 2, zab (zae b1) 0, zab (zae b1) 1, zab (zae b1) 2⟩
 have hBa : Below W2.drew.heap.size W2.drew (W2.drew.alloc (.cells #[.int .i64 (Lib.compareInt x.1 y.1), .int .i64 (Lib.compareInt x.2.1 y.2.1), .int .i64 (Lib.compareInt x.2.2 y.2.2)] 3)) := (Below.refl _ _).alloc (Nat.le_refl _) _
 refine Ahd.wp_qz (zbs (S := (fun X => X.cell? ⟨w.heap.size, 0, none⟩ = some (.int .i64 x.1) ∧ X.cell? ⟨w.heap.size, 1, none⟩ = some (.int .i64 x.2.1) ∧ X.cell? ⟨w.heap.size, 2, none⟩ = some (.int .i64 x.2.2) ∧ X.cell? ⟨w.heap.size + 1, 0, none⟩ = some (.int .i64 y.1) ∧ X.cell? ⟨w.heap.size + 1, 1, none⟩ = some (.int .i64 y.2.1) ∧ X.cell? ⟨w.heap.size + 1, 2, none⟩ = some (.int .i64 y.2.2))) (ds := []) #[Nf,Nf,Nf,Nf,Nf,Nf,Nf,Nf,Nf,Nf,Nf,Nf,Nf,Nf,Nf,Nf,Nf,Nf] (by kernel_rfl) rfl rfl hHeld (fun h0_ => ?_))
 clear h0_
 refine pure_ (i := 0) (N := (some 5)) (v := ?_) (a' := ?_) #[Yt,Nf,Nf,Nf,Nf,Nf,Nf,Nf,Nf,Nf,Nf,Nf,Nf,Nf,Nf,Nf,Nf,Nf] rfl rfl (by kernel_rfl) (fun _ _ _ h => h) (Or.inl ⟨by rfl, ?_⟩) ?_ ?_
 rotate_left
 ·intro w'
  go_simp
  with_reducible rfl
 rotate_left
 ·simp only [Act.put, Y1, Y2, Y3]
  rfl
 refine take_ (i := 1) (N := (some 6)) (v := ?_) (a' := ?_) #[Yt,Yt,Nf,Nf,Nf,Nf,Nf,Nf,Nf,Nf,Nf,Nf,Nf,Nf,Nf,Nf,Nf,Nf] rfl rfl (by kernel_rfl) (fun _ _ _ h => h) (Or.inl ⟨by rfl, ?_⟩) hHeld ?_ ?_
 rotate_left
 ·rintro w' ⟨s0, s1, s2, s3, s4, s5⟩
  go_simp
  with_reducible rfl
 rotate_left
 ·simp only [Act.put, Y1, Y2, Y3]
  rfl
 refine pure_ (i := 2) (N := (some 7)) (v := ?_) (a' := ?_) #[Yt,Yt,Yt,Nf,Nf,Nf,Nf,Nf,Nf,Nf,Nf,Nf,Nf,Nf,Nf,Nf,Nf,Nf] rfl rfl (by kernel_rfl) (fun _ _ _ h => h) (Or.inl ⟨by rfl, ?_⟩) ?_ ?_
 rotate_left
 ·intro w'
  go_simp
  with_reducible rfl
 rotate_left
 ·simp only [Act.put, Y1, Y2, Y3]
  rfl
 refine take_ (i := 3) (N := (some 8)) (v := ?_) (a' := ?_) #[Yt,Yt,Yt,Yt,Nf,Nf,Nf,Nf,Nf,Nf,Nf,Nf,Nf,Nf,Nf,Nf,Nf,Nf] rfl rfl (by kernel_rfl) (fun _ _ _ h => h) (Or.inl ⟨by rfl, ?_⟩) hHeld ?_ ?_
 rotate_left
 ·rintro w' ⟨s0, s1, s2, s3, s4, s5⟩
  go_simp
  with_reducible rfl
 rotate_left
 ·simp only [Act.put, Y1, Y2, Y3]
  rfl
 refine pure_ (i := 5) (N := (some 10)) (v := ?_) (a' := ?_) #[Yt,Yt,Yt,Yt,Nf,Yt,Nf,Nf,Nf,Nf,Nf,Nf,Nf,Nf,Nf,Nf,Nf,Nf] rfl rfl (by kernel_rfl) (fun _ _ _ h => h) (Or.inl ⟨by rfl, ?_⟩) ?_ ?_
 rotate_left
 ·intro w'
  go_simp
  with_reducible rfl
 rotate_left
 ·simp only [Act.put, Y1, Y2, Y3]
  rfl
 refine take_ (i := 6) (N := (some 11)) (v := ?_) (a' := ?_) #[Yt,Yt,Yt,Yt,Nf,Yt,Yt,Nf,Nf,Nf,Nf,Nf,Nf,Nf,Nf,Nf,Nf,Nf] rfl rfl (by kernel_rfl) (fun _ _ _ h => h) (Or.inl ⟨by rfl, ?_⟩) hHeld ?_ ?_
 rotate_left
 ·rintro w' ⟨s0, s1, s2, s3, s4, s5⟩
  go_simp
  with_reducible rfl
 rotate_left
 ·simp only [Act.put, Y1, Y2, Y3]
  rfl
 refine pure_ (i := 7) (N := (some 12)) (v := ?_) (a' := ?_) #[Yt,Yt,Yt,Yt,Nf,Yt,Yt,Yt,Nf,Nf,Nf,Nf,Nf,Nf,Nf,Nf,Nf,Nf] rfl rfl (by kernel_rfl) (fun _ _ _ h => h) (Or.inl ⟨by rfl, ?_⟩) ?_ ?_
 rotate_left
 ·intro w'
  go_simp
  with_reducible rfl
 rotate_left
 ·simp only [Act.put, Y1, Y2, Y3]
  rfl
 refine take_ (i := 8) (N := (some 13)) (v := ?_) (a' := ?_) #[Yt,Yt,Yt,Yt,Nf,Yt,Yt,Yt,Yt,Nf,Nf,Nf,Nf,Nf,Nf,Nf,Nf,Nf] rfl rfl (by kernel_rfl) (fun _ _ _ h => h) (Or.inl ⟨by rfl, ?_⟩) hHeld ?_ ?_
 rotate_left
 ·rintro w' ⟨s0, s1, s2, s3, s4, s5⟩
  go_simp
  with_reducible rfl
 rotate_left
 ·simp only [Act.put, Y1, Y2, Y3]
  rfl
 refine pure_ (i := 10) (N := (some 15)) (v := ?_) (a' := ?_) #[Yt,Yt,Yt,Yt,Nf,Yt,Yt,Yt,Yt,Nf,Yt,Nf,Nf,Nf,Nf,Nf,Nf,Nf] rfl rfl (by kernel_rfl) (fun _ _ _ h => h) (Or.inl ⟨by rfl, ?_⟩) ?_ ?_
 rotate_left
 ·intro w'
  go_simp
  with_reducible rfl
 rotate_left
 ·simp only [Act.put, Y1, Y2, Y3]
  rfl
 refine take_ (i := 11) (N := (some 16)) (v := ?_) (a' := ?_) #[Yt,Yt,Yt,Yt,Nf,Yt,Yt,Yt,Yt,Nf,Yt,Yt,Nf,Nf,Nf,Nf,Nf,Nf] rfl rfl (by kernel_rfl) (fun _ _ _ h => h) (Or.inl ⟨by rfl, ?_⟩) hHeld ?_ ?_
 rotate_left
 ·rintro w' ⟨s0, s1, s2, s3, s4, s5⟩
  go_simp
  with_reducible rfl
 rotate_left
 ·simp only [Act.put, Y1, Y2, Y3]
  rfl
 refine pure_ (i := 12) (N := (some 17)) (v := ?_) (a' := ?_) #[Yt,Yt,Yt,Yt,Nf,Yt,Yt,Yt,Yt,Nf,Yt,Yt,Yt,Nf,Nf,Nf,Nf,Nf] rfl rfl (by kernel_rfl) (fun _ _ _ h => h) (Or.inl ⟨by rfl, ?_⟩) ?_ ?_
 rotate_left
 ·intro w'
  go_simp
  with_reducible rfl
 rotate_left
 ·simp only [Act.put, Y1, Y2, Y3]
  rfl
 refine take_ (i := 13) (N := (some 18)) (v := ?_) (a' := ?_) #[Yt,Yt,Yt,Yt,Nf,Yt,Yt,Yt,Yt,Nf,Yt,Yt,Yt,Yt,Nf,Nf,Nf,Nf] rfl rfl (by kernel_rfl) (fun _ _ _ h => h) (Or.inl ⟨by rfl, ?_⟩) hHeld ?_ ?_
 rotate_left
 ·rintro w' ⟨s0, s1, s2, s3, s4, s5⟩
  go_simp
  with_reducible rfl
 rotate_left
 ·simp only [Act.put, Y1, Y2, Y3]
  rfl
 refine one_ (i := 4) (N := (some 9)) #[Yt,Yt,Yt,Yt,Yt,Yt,Yt,Yt,Yt,Nf,Yt,Yt,Yt,Yt,Nf,Nf,Nf,Nf] rfl rfl (by kernel_rfl) (by decide) (fun K hK => ?_)
 refine goes_ Try.func47 (by kernel_rfl) rfl #[.int .i64 x.1, .int .i64 y.1] (by rfl) rfl rfl (by first | rfl | (simp [Act.eval]; done) | (simp [go_sem]; done)) ?_
 refine (compare_calls _ _ _).mono ?_
 rintro e W' ⟨rfl, rfl⟩
 refine ⟨_, rfl, ?_⟩
 refine hK.out _ _ hHeld (fun h0_ => ?_)
 clear hK K h0_
 refine one_ (i := 9) (N := (some 14)) #[Yt,Yt,Yt,Yt,Yt,Yt,Yt,Yt,Yt,Yt,Yt,Yt,Yt,Yt,Nf,Nf,Nf,Nf] rfl rfl (by kernel_rfl) (by decide) (fun K hK => ?_)
 refine goes_ Try.func47 (by kernel_rfl) rfl #[.int .i64 x.2.1, .int .i64 y.2.1] (by rfl) rfl rfl (by first | rfl | (simp [Act.eval]; done) | (simp [go_sem]; done)) ?_
 refine (compare_calls _ _ _).mono ?_
 rintro e W' ⟨rfl, rfl⟩
 refine ⟨_, rfl, ?_⟩
 refine hK.out _ _ hHeld (fun h0_ => ?_)
 clear hK K h0_
 refine one_ (i := 14) (N := (some 19)) #[Yt,Yt,Yt,Yt,Yt,Yt,Yt,Yt,Yt,Yt,Yt,Yt,Yt,Yt,Yt,Nf,Nf,Nf] rfl rfl (by kernel_rfl) (by decide) (fun K hK => ?_)
 refine goes_ Try.func47 (by kernel_rfl) rfl #[.int .i64 x.2.2, .int .i64 y.2.2] (by rfl) rfl rfl (by first | rfl | (simp [Act.eval]; done) | (simp [go_sem]; done)) ?_
 refine (compare_calls _ _ _).mono ?_
 rintro e W' ⟨rfl, rfl⟩
 refine ⟨_, rfl, ?_⟩
 refine hK.out _ _ hHeld (fun h0_ => ?_)
 clear hK K h0_
 refine one_ (i := 15) (N := (some 20)) #[Yt,Yt,Yt,Yt,Yt,Yt,Yt,Yt,Yt,Yt,Yt,Yt,Yt,Yt,Yt,Yt,Nf,Nf] rfl rfl (by kernel_rfl) (by decide) (fun K hK => ?_)
 refine zb3 (w1 := (W2.drew.alloc (.cells #[.int .i64 (Lib.compareInt x.1 y.1), .int .i64 (Lib.compareInt x.2.1 y.2.1), .int .i64 (Lib.compareInt x.2.2 y.2.2)] 3))) (v := .slice (some ⟨W2.drew.heap.size, 0, none⟩) 3 3) (by rfl) rfl ?_ ?_
 ·go_simp
 have hhA : (fun X => X.cell? ⟨w.heap.size, 0, none⟩ = some (.int .i64 x.1) ∧ X.cell? ⟨w.heap.size, 1, none⟩ = some (.int .i64 x.2.1) ∧ X.cell? ⟨w.heap.size, 2, none⟩ = some (.int .i64 x.2.2) ∧ X.cell? ⟨w.heap.size + 1, 0, none⟩ = some (.int .i64 y.1) ∧ X.cell? ⟨w.heap.size + 1, 1, none⟩ = some (.int .i64 y.2.1) ∧ X.cell? ⟨w.heap.size + 1, 2, none⟩ = some (.int .i64 y.2.2)) (W2.drew.alloc (.cells #[.int .i64 (Lib.compareInt x.1 y.1), .int .i64 (Lib.compareInt x.2.1 y.2.1), .int .i64 (Lib.compareInt x.2.2 y.2.2)] 3)) := ⟨zar hBa hHeld.1, zar hBa hHeld.2.1, zar hBa hHeld.2.2.1, zar hBa hHeld.2.2.2.1, zar hBa hHeld.2.2.2.2.1, zar hBa hHeld.2.2.2.2.2⟩
 refine hK.out _ _ hhA (fun h0_ => ?_)
 clear hK K h0_
 refine norm_ (a' := ?_) ?_ ?_
 rotate_left
 ·show Act.put _ (some 20) _ = _
  simp only [Act.put, Y1, Y2, Y3]
  rfl
 refine one_ (i := 16) (N := (some 21)) #[Yt,Yt,Yt,Yt,Yt,Yt,Yt,Yt,Yt,Yt,Yt,Yt,Yt,Yt,Yt,Yt,Yt,Nf] rfl rfl (by kernel_rfl) (by decide) (fun K hK => ?_)
 refine goes_ Try.func46 (by kernel_rfl) rfl #[.slice (some ⟨W2.drew.heap.size, 0, none⟩) 3 3] (by rfl) rfl rfl (by first | rfl | (simp [Act.eval]; done) | (simp [go_sem]; done)) ?_
 refine (or_calls _ _ _ _ _ (zbe W2.drew (.cells #[.int .i64 (Lib.compareInt x.1 y.1), .int .i64 (Lib.compareInt x.2.1 y.2.1), .int .i64 (Lib.compareInt x.2.2 y.2.2)] 3))).mono ?_
 rintro e W' ⟨he, rfl⟩
 obtain rfl : e = .returned (.int .i64 (cmpL x y)) := he
 refine ⟨_, rfl, ?_⟩
 refine hK.out _ _ hhA (fun h0_ => ?_)
 clear hK K h0_
 refine pure_ (i := 17) (N := (some 4)) (v := ?_) (a' := ?_) #[Yt,Yt,Yt,Yt,Yt,Yt,Yt,Yt,Yt,Yt,Yt,Yt,Yt,Yt,Yt,Yt,Yt,Yt] rfl rfl (by kernel_rfl) (fun _ _ _ h => h) (Or.inl ⟨by rfl, ?_⟩) ?_ ?_
 rotate_left
 ·intro w'
  go_simp
  with_reducible rfl
 rotate_left
 ·simp only [Act.put, Y1, Y2, Y3]
  rfl
 refine done_ (by kernel_rfl) ?_
 refine hK6 _ _ ?_
 go_wp2
 have e : ∃ os, (W2.drew.alloc (.cells #[.int .i64 (Lib.compareInt x.1 y.1), .int .i64 (Lib.compareInt x.2.1 y.2.1), .int .i64 (Lib.compareInt x.2.2 y.2.2)] 3)) = grow (w.drewN 1) os := by
  rw [← hW2, alloc_eq_grow, alloc_eq_grow, alloc_eq_grow, drew_grow, drew_grow, grow_grow, grow_grow]
  exact ⟨_, rfl⟩
 refine bodyPost_ret (results_tmp rfl _ _ _) rfl ?_
 exact ⟨rfl, 1, e⟩
end Go.Proofs.Ytgdmjpehofdnpaa.LOrd
end
section
namespace Go.Proofs.Ytgdmjpehofdnpaa.LLex
open Go Go.RowKit Go.Shelf Go.Maps Go.Proofs.YtgdmjpehofdnpaaW.PrintWords Go.Proofs.Ytgdmjpehofdnpaa.Fl Go.Proofs.Ytgdmjpehofdnpaa.LrK Go.Proofs.Ytgdmjpehofdnpaa.LSeq Go.Proofs.Ytgdmjpehofdnpaa.LOrd
set_option linter.unusedVariables false
set_option linter.unusedSimpArgs false
def bef (x y : Lr) : Prop := x.1 < y.1 ∨ x.1 = y.1 ∧ (x.2.1 < y.2.1 ∨ x.2.1 = y.2.1 ∧ x.2.2 < y.2.2)
instance (x y : Lr) : Decidable (bef x y) := by unfold bef; infer_instance
theorem cmpI_lt (a b : Int) : Lib.compareInt a b < 0 ↔ a < b := by unfold Lib.compareInt; split <;> (try split) <;> omega
theorem cmpI_eq (a b : Int) : Lib.compareInt a b = 0 ↔ a = b := by unfold Lib.compareInt; split <;> (try split) <;> omega
theorem cmpL_lt (x y : Lr) : cmpL x y < 0 ↔ bef x y := by
 have a1 := cmpI_lt x.1 y.1
 have a2 := cmpI_lt x.2.1 y.2.1
 have a3 := cmpI_lt x.2.2 y.2.2
 have b1 := cmpI_eq x.1 y.1
 have b2 := cmpI_eq x.2.1 y.2.1
 unfold cmpL bef
 split
 ·rename_i h; rw [a1]; have h : ¬ x.1 = y.1 := fun e => h (b1.2 e); omega
 ·rename_i h
  have h : x.1 = y.1 := b1.1 (Decidable.not_not.1 h)
  split
  ·rename_i g; rw [a2]; have g : ¬ x.2.1 = y.2.1 := fun e => g (b2.2 e); omega
  ·rename_i g
   have g : x.2.1 = y.2.1 := b2.1 (Decidable.not_not.1 g)
   rw [a3]
   omega
theorem bef_irrefl (x : Lr) : ¬ bef x x := by unfold bef; omega
theorem bef_trans {x y z : Lr} (h : bef x y) (g : bef y z) : bef x z := by unfold bef at *; omega
theorem bef_ntrans {x y z : Lr} (h : ¬ bef x y) (g : ¬ bef y z) : ¬ bef x z := by unfold bef at *; omega
theorem bef_tri {x y : Lr} (h : ¬ bef x y) (g : ¬ bef y x) : x = y := by
 unfold bef at *
 exact Prod.ext (by omega) (Prod.ext (by omega) (by omega))
def RisesL (l : List Lr) : Prop := l.Pairwise bef
theorem risesL_one : ∀ {l m : List Lr}, RisesL l → RisesL m → (∀ x, x ∈ l ↔ x ∈ m) → l = m
 | [], [], _, _, _ => rfl
 | [], b :: m, _, _, h => by have := (h b).2 (by simp); cases this
 | a :: l, [], _, _, h => by have := (h a).1 (by simp); cases this
 | a :: l, b :: m, hl, hm, h => by
  obtain ⟨l1, l2⟩ := List.pairwise_cons.1 hl
  obtain ⟨m1, m2⟩ := List.pairwise_cons.1 hm
  have e : a = b := by
   have h1 := (h a).1 (by simp)
   have h2 := (h b).2 (by simp)
   rcases List.mem_cons.1 h1 with h1 | h1
   ·exact h1
   ·rcases List.mem_cons.1 h2 with h2 | h2
    ·exact h2.symm
    ·exact absurd (bef_trans (m1 a h1) (l1 b h2)) (bef_irrefl _)
  subst e
  congr 1
  refine risesL_one l2 m2 fun x => ?_
  constructor
  ·intro hx
   rcases List.mem_cons.1 ((h x).1 (by simp [hx])) with rfl | h'
   ·exact absurd (l1 _ hx) (bef_irrefl _)
   ·exact h'
  ·intro hx
   rcases List.mem_cons.1 ((h x).2 (by simp [hx])) with rfl | h'
   ·exact absurd (m1 _ hx) (bef_irrefl _)
   ·exact h'
def kLr : Kd Lr := Kd.pair (Kd.int .i64) (Kd.pair (Kd.int .i64) (Kd.int .i64))
theorem kLr_M (w : World) (base : Nat) (ok : Nat → Prop) (x : Lr) (cs : List Value) : kLr.M w base ok x cs ↔ cs = (lrA x).toList := by
 constructor
 ·rintro ⟨_, _, rfl, rfl, ⟨_, _, rfl, rfl, rfl⟩⟩
  rfl
 ·rintro rfl
  exact ⟨[.int .i64 x.1], [.int .i64 x.2.1, .int .i64 x.2.2], rfl, rfl, ⟨[.int .i64 x.2.1], [.int .i64 x.2.2], rfl, rfl, rfl⟩⟩
theorem flat_at (l : List Lr) : ∀ (j : Nat) (p : Lr), l[j]? = some p → ((flatL l).drop (j * 3)).take 3 = (lrA p).toList := by
 induction l with
 | nil => intro j p h; simp at h
 | cons a t ih =>
  intro j p h
  cases j with
  | zero =>
   simp only [List.getElem?_cons_zero, Option.some.injEq] at h
   subst h
   simp [flatL, lrA]
  | succ j =>
   simp only [List.getElem?_cons_succ] at h
   have := ih j p h
   rw [show (j + 1) * 3 = 3 + j * 3 by omega, ← List.drop_drop]
   simpa [flatL, lrA] using this
theorem own_R3 {w : World} {base : Nat} {ok : Nat → Prop} {v : Value} {l : List Lr} (h : w.ownsRow base TL 3 v l.length (flatL l)) (hok : ∀ k, v.ownBlock = some k → ok k) : Kd.R kLr TL w base ok v l :=
 ⟨hok, flatL l, h, flatL_len l, fun j p hj => (kLr_M _ _ _ _ _).2 (flat_at l j p hj)⟩
theorem R3_own {w : World} {base : Nat} {ok : Nat → Prop} {v : Value} {l : List Lr} (h : Kd.R kLr TL w base ok v l) : w.ownsRow base TL 3 v l.length (flatL l) := by
 obtain ⟨_, inner, ho, hr⟩ := h
 have : inner = flatL l := by
  refine List.ext_getElem? fun t => ?_
  have k1 := hr.1
  have k2 := flatL_len l
  by_cases ht : t < l.length * 3
  ·have hq : t / 3 < l.length := by omega
   have e1 := (kLr_M _ _ _ _ _).1 (hr.2 (t / 3) l[t / 3] (List.getElem?_eq_getElem hq))
   have e2 := flat_at l (t / 3) l[t / 3] (List.getElem?_eq_getElem hq)
   have e3 := congrArg (fun m : List Value => m[t % 3]?) (e1.trans e2.symm)
   simp only [show kLr.sz = 3 from rfl] at e3
   rw [List.getElem?_take_of_lt (by omega), List.getElem?_take_of_lt (by omega), List.getElem?_drop, List.getElem?_drop, show t / 3 * 3 + t % 3 = t by omega] at e3
   exact e3
  ·rw [List.getElem?_eq_none (by simp only [show kLr.sz = 3 from rfl] at k1; omega), List.getElem?_eq_none (by omega)]
 subst this
 exact ho
end Go.Proofs.Ytgdmjpehofdnpaa.LLex
end
section
namespace Go.Proofs.Ytgdmjpehofdnpaa.LFlat
open Go Go.RowKit Go.Shelf Go.Maps Go.Proofs.YtgdmjpehofdnpaaW.PrintWords Go.Proofs.YtgdmjpehofdnpaaW.PrintLast Go.Proofs.Ytgdmjpehofdnpaa.Round Go.Proofs.Ytgdmjpehofdnpaa.RangeG Go.Proofs.Ytgdmjpehofdnpaa.Fl Go.Proofs.Ytgdmjpehofdnpaa.LrK Go.Proofs.Ytgdmjpehofdnpaa.LSeq Go.Proofs.Ytgdmjpehofdnpaa.LLex
set_option linter.unusedVariables false
set_option linter.unusedSimpArgs false
structure FG where
 A0 : Option Addr
 A1 : Option Addr
 A2 : Option Addr
 c0 : Nat
 c1 : Nat
 c2 : Nat
 ts : List ByteArray
 ns : List ByteArray
 ps : List Fl.P
def FG.row (F : FG) : Array Value := #[.slice F.A0 F.ts.length F.c0, .slice F.A1 F.ns.length F.c1, .slice F.A2 F.ps.length F.c2]
def FG.val (F : FG) : Value := .agg F.row
structure FG.K (F : FG) (w : World) : Prop where
 h0 : Kd.C Kd.string w F.A0 F.ts.length F.ts
 l0 : F.ts.length ≤ F.c0
 h1 : Kd.C Kd.string w F.A1 F.ns.length F.ns
 l1 : F.ns.length ≤ F.c1
 h2 : Kd.C kP w F.A2 F.ps.length F.ps
 l2 : F.ps.length ≤ F.c2
theorem FG.K.below {F : FG} {w w' : World} (h : F.K w) (hb : Below w.heap.size w w') : F.K w' := ⟨Kd.zay h.h0 hb, h.l0, Kd.zay h.h1 hb, h.l1, Kd.zay h.h2 hb, h.l2⟩
theorem C_of {α β : Type} {d : Kd α} {e : Kd β} {f : α → β} (hz : e.sz = d.sz) (hK : ∀ w x cs, d.K w x cs → e.K w (f x) cs) {w : World} {A : Option Addr} {n : Nat} {xs : List α} (h : Kd.C d w A n xs) : Kd.C e w A n (xs.map f) := by
 obtain ⟨h1, h2, h3⟩ := h
 refine ⟨by simpa using h1, h2, fun h0 => ?_⟩
 obtain ⟨ad, e', hc⟩ := h3 h0
 refine ⟨ad, e', fun j p hj => ?_⟩
 rw [List.getElem?_map] at hj
 cases hx : xs[j]? with
 | none => rw [hx] at hj; cases hj
 | some x =>
  rw [hx] at hj
  obtain rfl : f x = p := by simpa using hj
  obtain ⟨c, hl, hk, hcell⟩ := hc j x hx
  exact ⟨c, by rw [hl, hz], hK w x c hk, fun i v hv => by rw [hz]; exact hcell i v hv⟩
def nI (x : I) : PNext.S43 := ⟨x.1, x.2.1, x.2.2⟩
def nP (p : P) : PNext.S46 := ⟨p.1, p.2.1.map nI, p.2.2⟩
def oI (x : I) : POf.S43 := ⟨x.1, x.2.1, x.2.2⟩
def oP (p : P) : POf.S46 := ⟨p.1, p.2.1.map oI, p.2.2⟩
theorem nI_K (w : World) (x : I) (cs : List Value) (h : kI.K w x cs) : PNext.k43.K w (nI x) cs := h
theorem oI_K (w : World) (x : I) (cs : List Value) (h : kI.K w x cs) : POf.k43.K w (oI x) cs := h
theorem nP_K (w : World) (x : P) (cs : List Value) (h : kP.K w x cs) : PNext.k46.K w (nP x) cs := by
 obtain ⟨A, c, rfl, hl, hC⟩ := kP_open h
 have := PNext.k46_mk w (nP x) (A1 := A) (c1 := c) (by show (x.2.1.map nI).length ≤ c; rw [List.length_map]; exact hl) (by show Kd.C _ _ _ (x.2.1.map nI).length (x.2.1.map nI); rw [List.length_map]; exact C_of (e := PNext.k43) (f := nI) rfl nI_K hC)
 rwa [show (nP x).f1.length = x.2.1.length from List.length_map _] at this
theorem oP_K (w : World) (x : P) (cs : List Value) (h : kP.K w x cs) : POf.k46.K w (oP x) cs := by
 obtain ⟨A, c, rfl, hl, hC⟩ := kP_open h
 have := POf.k46_mk w (oP x) (A1 := A) (c1 := c) (by show (x.2.1.map oI).length ≤ c; rw [List.length_map]; exact hl) (by show Kd.C _ _ _ (x.2.1.map oI).length (x.2.1.map oI); rw [List.length_map]; exact C_of (e := POf.k43) (f := oI) rfl oI_K hC)
 rwa [show (oP x).f1.length = x.2.1.length from List.length_map _] at this
def dP : P := (0, [], 0)
def rightV (n0 : Nat) (ps : List P) (prod : Int) : List I := if prod < 0 then [((n0 : Int), ⟨#[]⟩, ⟨#[]⟩)] else (ps.getD prod.toNat dP).2.1
def fitV (n0 : Nat) (ps : List P) (x : Lr) : Bool := decide (-1 ≤ x.1) && decide (x.1 < ps.length) && decide (0 ≤ x.2.1) && decide (x.2.1 ≤ (rightV n0 ps x.1).length) && decide (0 ≤ x.2.2) && decide (x.2.2 ≤ n0)
def nextV (n0 : Nat) (ps : List P) (x : Lr) : Option Int := if fitV n0 ps x = true then ((rightV n0 ps x.1)[x.2.1.toNat]?).map (·.1) else none
def ofF (s : Int) : Nat → List P → List Int
 | _, [] => []
 | i, p :: t => if p.1 = s then (i : Int) :: ofF s (i + 1) t else ofF s (i + 1) t
def ofV (ps : List P) (s : Int) : List Int := ofF s 0 ps
theorem fitV_iff {n0 : Nat} {ps : List P} {x : Lr} : fitV n0 ps x = true ↔ -1 ≤ x.1 ∧ x.1 < ps.length ∧ 0 ≤ x.2.1 ∧ x.2.1 ≤ (rightV n0 ps x.1).length ∧ 0 ≤ x.2.2 ∧ x.2.2 ≤ n0 := by
 simp only [fitV, Bool.and_eq_true, decide_eq_true_eq]
 constructor
 ·rintro ⟨⟨⟨⟨⟨a, b⟩, c⟩, d⟩, e⟩, f⟩; exact ⟨a, b, c, d, e, f⟩
 ·rintro ⟨a, b, c, d, e, f⟩; exact ⟨⟨⟨⟨⟨a, b⟩, c⟩, d⟩, e⟩, f⟩
theorem rd_nP (ps : List P) (i : Int) : PNext.zal (ps.map nP) i = nP (ps.getD i.toNat dP) := by
 show (ps.map nP).getD i.toNat _ = _
 rw [List.getD_eq_getElem?_getD, List.getElem?_map, List.getD_eq_getElem?_getD]
 cases ps[i.toNat]? <;> rfl
theorem right_eq (ts ns : List ByteArray) (ps : List P) (prod : Int) (h : prod < ps.length) : PNext.zbz.f ts ns (ps.map nP) prod = some ((rightV ts.length ps prod).map nI) := by
 unfold PNext.zbz.f rightV
 by_cases h0 : prod < 0
 ·rw [if_pos h0, if_pos h0]; rfl
 ·rw [if_neg h0, if_neg h0, if_pos (by omega), if_pos (by rw [List.length_map]; exact h), rd_nP]
  rfl
theorem fit_eq (ts ns : List ByteArray) (ps : List P) (x : Lr) : PNext.zbp.f ts ns (ps.map nP) x.1 x.2.1 x.2.2 = some (fitV ts.length ps x) := by
 unfold PNext.zbp.f
 by_cases h0 : x.1 ≥ -1
 ·rw [if_pos h0]
  by_cases h1 : x.1 < (ps.length : Int)
  ·rw [if_pos (by rw [List.length_map]; exact h1)]
   by_cases h2 : x.2.1 ≥ 0
   ·rw [if_pos h2, right_eq _ _ _ _ h1, Option.bind_some, List.length_map]
    by_cases h3 : x.2.1 ≤ ((rightV ts.length ps x.1).length : Int)
    ·rw [if_pos h3]
     by_cases h4 : x.2.2 ≥ 0
     ·rw [if_pos h4]
      congr 1
      simp [fitV, h0, h1, h2, h3, h4, show (-1 : Int) ≤ x.1 from h0, show (0 : Int) ≤ x.2.1 from h2, show (0 : Int) ≤ x.2.2 from h4]
     ·rw [if_neg h4]; simp [fitV, show ¬ (0 : Int) ≤ x.2.2 from h4]
    ·rw [if_neg h3]; simp [fitV, h3]
   ·rw [if_neg h2]; simp [fitV, show ¬ (0 : Int) ≤ x.2.1 from h2]
  ·rw [if_neg (by rw [List.length_map]; exact h1)]; simp [fitV, h1]
 ·rw [if_neg h0]; simp [fitV, show ¬ (-1 : Int) ≤ x.1 from h0]
theorem next_eq (ts ns : List ByteArray) (ps : List P) (x : Lr) : PNext.zb2.f ts ns (ps.map nP) x.1 x.2.1 x.2.2 = some ((nextV ts.length ps x).getD 0, (nextV ts.length ps x).isSome) := by
 unfold PNext.zb2.f nextV
 rw [fit_eq, Option.bind_some]
 by_cases h : fitV ts.length ps x = true
 ·obtain ⟨h0, h1, h2, h3, h4, h5⟩ := fitV_iff.1 h
  rw [if_pos h, if_pos h, right_eq _ _ _ _ h1, Option.bind_some, if_pos h2, if_pos (by rw [List.length_map]; exact h3), Option.bind_some, List.length_drop, List.length_map]
  by_cases hl : x.2.1.toNat < (rightV ts.length ps x.1).length
  ·rw [if_neg (by omega), if_pos (by omega), List.getElem?_eq_getElem hl]
   show some ((((rightV ts.length ps x.1).map nI).drop x.2.1.toNat).getD 0 _ |>.f0, true) = _
   rw [List.getD_eq_getElem?_getD, List.getElem?_drop, Nat.add_zero, List.getElem?_map, List.getElem?_eq_getElem hl]
   rfl
  ·rw [if_pos (by omega), List.getElem?_eq_none (by omega)]
   rfl
 ·rw [if_neg h, if_neg h]; rfl
theorem rd_oP (ps : List P) (i : Nat) (h : i < ps.length) : POf.zal (ps.map oP) (i : Int) = oP ps[i] := by
 show (ps.map oP).getD ((i : Int)).toNat _ = _
 rw [Int.toNat_natCast, List.getD_eq_getElem?_getD, List.getElem?_map, List.getElem?_eq_getElem h]
 rfl
theorem ofF_len (s : Int) : ∀ (i : Nat) (l : List P), (ofF s i l).length ≤ l.length
 | _, [] => Nat.le_refl _
 | i, p :: t => by
  have := ofF_len s (i + 1) t
  unfold ofF
  split <;> simp <;> omega
theorem of_loop (ps : List P) (s : Int) (hp : ps.length ≤ 1000000000000) : ∀ (d k : Nat) (i : Nat) (acc : List Int), d = ps.length - i → i ≤ ps.length → d < k → acc.length ≤ i → POf.zbt.l0 k s acc (ps.map oP) (ps.length : Int) (i : Int) = some (acc ++ ofF s i (ps.drop i)) := by
 intro d
 induction d with
 | zero =>
  intro k i acc hd hi hk ha
  obtain ⟨m, rfl⟩ : ∃ m, k = m + 1 := ⟨k - 1, by omega⟩
  have : i = ps.length := by omega
  subst this
  simp only [POf.zbt.l0]
  rw [if_neg (by omega), List.drop_length, ofF, List.append_nil]
 | succ d ih =>
  intro k i acc hd hi hk ha
  obtain ⟨m, rfl⟩ : ∃ m, k = m + 1 := ⟨k - 1, by omega⟩
  have hlt : i < ps.length := by omega
  have hw : wrap64 ((i : Int) + 1) = ((i + 1 : Nat) : Int) := by unfold wrap64; omega
  have hdr : ps.drop i = ps[i] :: ps.drop (i + 1) := List.drop_eq_getElem_cons hlt
  simp only [POf.zbt.l0]
  rw [if_pos (by omega), if_pos (by omega), if_pos (by rw [List.length_map]; omega), rd_oP _ _ hlt, hw, hdr, ofF]
  by_cases he : ps[i].1 = s
  ·rw [if_pos (show (oP ps[i]).f0 = s from he), if_pos (by omega), if_pos he, ih m (i + 1) _ (by omega) (by omega) (by omega) (by simp; omega), List.append_assoc]
   rfl
  ·rw [if_neg (show ¬ (oP ps[i]).f0 = s from he), if_neg he, ih m (i + 1) _ (by omega) (by omega) (by omega) (by omega)]
theorem of_eq (ts ns : List ByteArray) (ps : List P) (s : Int) (hp : ps.length ≤ 1000000000000) : POf.zbt.f (ps.length + 1) ts ns (ps.map oP) s = some (ofV ps s) := by
 unfold POf.zbt.f ofV
 rw [List.length_map]
 have := of_loop ps s hp ps.length (ps.length + 1) 0 [] (by omega) (by omega) (by omega) (by simp)
 simpa using this
set_option maxRecDepth 100000 in
set_option maxHeartbeats 2000000 in
theorem right_calls (F : FG) (prod : Int) (u W : World) (hK : F.K u) (hu : Below u.heap.size u W) (hp : prod < F.ps.length) :
  Calls Try.prog 41 #[F.val, .int .i64 prod] W fun e W' => ∃ A c, e = .returned (.slice A (rightV F.ts.length F.ps prod).length c) ∧ (rightV F.ts.length F.ps prod).length ≤ c ∧ ((rightV F.ts.length F.ps prod).length ≠ 0 → ∃ ad, A = some ad) ∧ (0 ≤ prod → Kd.C kI u A (rightV F.ts.length F.ps prod).length (rightV F.ts.length F.ps prod)) ∧ Below W.heap.size W W' := by
 simp only [FG.val, FG.row]
 have hl0 : F.ts.length ≤ 9223372036854775807 := hK.h0.2.1
 by_cases h0 : prod < 0
 ·unfold rightV
  rw [if_pos h0]
  go_enter Try.func41, Try.ntmps41
  go_wp2
  go_ret
  exact ⟨_, _, rfl, Nat.le_refl _, (fun _ => ⟨_, rfl⟩), (fun h => by omega), ((Below.refl _ _).alloc (Nat.le_refl _) _).alloc (by simp) _⟩
 ·obtain ⟨ad, x, A1, c1, hA, hx, hl1, hC1, f0, f1, f2⟩ := atP hK.h2 prod.toNat (by omega)
  have e : rightV F.ts.length F.ps prod = x.2.1 := by
   unfold rightV
   rw [if_neg h0, List.getD_eq_getElem?_getD, hx]
   rfl
  rw [e]
  have hlp : F.ps.length ≤ 9223372036854775807 := hK.h2.2.1
  have g1 := zar (hu.alloc hu.size (.cells #[.slice F.A0 F.ts.length F.c0, .slice F.A1 F.ns.length F.c1, .slice (some ad) F.ps.length F.c2] 25)) f1
  rw [hA]
  have hA1 : x.2.1.length ≠ 0 → ∃ ad, A1 = some ad := fun h => by obtain ⟨ad, _, e, _⟩ := atI hC1 0 (by omega); exact ⟨ad, e⟩
  have HA := Lib.hid hA1
  have HC := Lib.hid hC1
  clear hC1 hA1 f0 f1 f2 hx e
  go_enter Try.func41, Try.ntmps41
  go_wp2
  go_ret
  exact ⟨_, _, rfl, hl1, by simpa using HA.out, HC.out, (Below.refl _ _).alloc (Nat.le_refl _) _⟩
theorem fit_calls (F : FG) (x : Lr) (W : World) (hK : F.K W) :
  Calls Try.prog 31 #[F.val, lrV x] W fun e W' => e = .returned (.bool (fitV F.ts.length F.ps x)) ∧ Below W.heap.size W W' := by
 have hl : (F.ps.map nP).length = F.ps.length := List.length_map _
 have h := PNext.zbp.calls F.A0 F.c0 F.ts F.A1 F.c1 F.ns F.A2 F.c2 (F.ps.map nP) x.1 x.2.1 x.2.2 _ W hK.h0 hK.l0 hK.h1 hK.l1 (by rw [hl]; exact C_of (e := PNext.k46) (f := nP) rfl nP_K hK.h2) (by rw [hl]; exact hK.l2) (fit_eq F.ts F.ns F.ps x)
 rw [hl] at h
 exact h
theorem next_calls (F : FG) (x : Lr) (W : World) (hK : F.K W) :
  Calls Try.prog 28 #[F.val, lrV x] W fun e W' => e = .returned (.tuple #[.int .i64 ((nextV F.ts.length F.ps x).getD 0), .bool (nextV F.ts.length F.ps x).isSome]) ∧ Below W.heap.size W W' := by
 have hl : (F.ps.map nP).length = F.ps.length := List.length_map _
 have h := PNext.zb2.calls F.A0 F.c0 F.ts F.A1 F.c1 F.ns F.A2 F.c2 (F.ps.map nP) x.1 x.2.1 x.2.2 _ _ W hK.h0 hK.l0 hK.h1 hK.l1 (by rw [hl]; exact C_of (e := PNext.k46) (f := nP) rfl nP_K hK.h2) (by rw [hl]; exact hK.l2) (next_eq F.ts F.ns F.ps x)
 rw [hl] at h
 exact h
theorem of_calls (F : FG) (s : Int) (W : World) (hK : F.K W) (hp : F.ps.length ≤ 1000000000000) :
  Calls Try.prog 27 #[F.val, .int .i64 s] W fun e W' => ∃ v, e = .returned v ∧ Kd.R (Kd.int .i64) 3 W' W.heap.size (fun _ => True) v (ofV F.ps s) ∧ Below W.heap.size W W' := by
 have hl : (F.ps.map oP).length = F.ps.length := List.length_map _
 have h := POf.zbt.calls (F.ps.length + 1) F.A0 F.c0 F.ts F.A1 F.c1 F.ns F.A2 F.c2 (F.ps.map oP) s _ W hK.h0 hK.l0 hK.h1 hK.l1 (by rw [hl]; exact C_of (e := POf.k46) (f := oP) rfl oP_K hK.h2) (by rw [hl]; exact hK.l2) (of_eq F.ts F.ns F.ps s hp)
 rw [hl] at h
 exact h
end Go.Proofs.Ytgdmjpehofdnpaa.LFlat
end
section
namespace Go.Proofs.Ytgdmjpehofdnpaa.LLooks
open Go Go.RowKit Go.Shelf Go.Maps Go.Proofs.YtgdmjpehofdnpaaW.PrintWords Go.Proofs.YtgdmjpehofdnpaaW.PrintLast Go.Proofs.Ytgdmjpehofdnpaa.Round Go.Proofs.Ytgdmjpehofdnpaa.RangeG Go.Proofs.Ytgdmjpehofdnpaa.Fl Go.Proofs.Ytgdmjpehofdnpaa.Deri Go.Proofs.Ytgdmjpehofdnpaa.Seqs Go.Proofs.Ytgdmjpehofdnpaa.LrK Go.Proofs.Ytgdmjpehofdnpaa.GMap Go.Proofs.Ytgdmjpehofdnpaa.LLex Go.Proofs.Ytgdmjpehofdnpaa.LFlat
attribute [local go_sem] Oper.semAt_some
set_option linter.unusedVariables false
set_option linter.unusedSimpArgs false
def keyI : KeyAs Try.prog TI Int where
 enc := .int .i64
 lit := .int .i64
 ok x := (Lit.int .i64 x).wf = true
 keyed := MSet.law
 key h := Maps.keyOf_int_mk Try.underlying3 h
 inv h := by
  obtain ⟨x, ex, rfl, hwf⟩ := Maps.keyOf_i64 Try.underlying3 h
  exact ⟨x, hwf, ex, rfl⟩
 inj _ _ h := by injection h
structure SG where
 sb : Nat
 ob : Nat
 F : FG
 Af : Option Addr
 Ae : Option Addr
 cf : Nat
 ce : Nat
 N : Nat
structure SG.At (G : SG) (em : List Bool) (Ss : List (List Int)) (W : World) : Prop where
 blk : W.heap[G.sb]? = some (.cells #[.slice G.F.A0 G.F.ts.length G.F.c0, .slice G.F.A1 G.F.ns.length G.F.c1, .slice G.F.A2 G.F.ps.length G.F.c2, .slice G.Af G.N G.cf, .slice G.Ae G.N G.ce, .map (some G.ob)] 64 (0, 0))
 nn : G.F.ts.length + G.F.ns.length = G.N
 few : G.N ≤ 1000000
 n1 : 1 ≤ G.F.ns.length
 K : G.F.K W
 first : Kd.C (Kd.slice TI (Kd.int .i64)) W G.Af G.N Ss
 fok : ∀ S ∈ Ss, S.length ≤ 1000000 ∧ ∀ z ∈ S, (Lit.int .i64 z).wf = true
 empty : Kd.C Kd.bool W G.Ae G.N em
 map : ∃ M, MapAt keyI G.ob M W ∧ ∀ s : Int, (G.F.ts.length : Int) ≤ s → s < G.N → ∃ A c, GMap.look M s = some (.slice A (ofV G.F.ps s).length c) ∧ Kd.C (Kd.int .i64) W A (ofV G.F.ps s).length (ofV G.F.ps s)
 psl : G.F.ps.length ≤ 1000000
 prs : ∀ p ∈ G.F.ps, PrOk G.N p ∧ p.2.1.length ≤ 1000
theorem SG.At.below {G : SG} {em : List Bool} {Ss : List (List Int)} {W W' : World} (h : G.At em Ss W) (hb : Below W.heap.size W W') : G.At em Ss W' := by
 obtain ⟨M, h1, h2⟩ := h.map
 refine ⟨(hb.block _ (zaw h.blk)).trans h.blk, h.nn, h.few, h.n1, h.K.below hb, Kd.zay h.first hb, h.fok, Kd.zay h.empty hb, ⟨M, h1.keep (hb.block _ h1.lt), fun s k1 k2 => ?_⟩, h.psl, h.prs⟩
 obtain ⟨A, c, e, hC⟩ := h2 s k1 k2
 exact ⟨A, c, e, Kd.zay hC hb⟩
def looksV (em : List Bool) (Ss : List (List Int)) (lk : Int) : List I → List Int
 | [] => [lk]
 | i :: t => Ss.getD i.1.toNat [] ++ (if at_ em i.1 = true then looksV em Ss lk t else [])
def KeepY (W W' : World) : Prop := ∀ (k : Nat) cs t fr, W.heap[k]? = some (.cells cs t fr) → t ≠ TL → t ≠ 33 → W'.heap[k]? = some (.cells cs t fr)
def KeepQ (n₀ b2 : Nat) (W W' : World) : Prop := KeepL n₀ [b2] W W' ∧ KeepY W W'
theorem keepY_refl (W : World) : KeepY W W := fun _ _ _ _ h _ _ => h
theorem keepY_t {A B C : World} (h : KeepY A B) (k : KeepY B C) : KeepY A C := fun i cs t fr hi h1 h2 => k i cs t fr (h i cs t fr hi h1 h2) h1 h2
theorem keepY_b (W : World) (l : Nat) (o o' : Obj) (h : W.heap[l]? = some o) (h1 : o.isCells = false) : KeepY W (W.putObj l o') := fun k cs t fr hk _ _ => (World.putObj_heap_other (fun e => by subst e; rw [hk] at h; cases h; cases h1)).trans hk
theorem keepQ_refl (n₀ b2 : Nat) (W : World) : KeepQ n₀ b2 W W := ⟨keepL_refl _ _ _, keepY_refl _⟩
theorem keepQ_t {n₀ b2 : Nat} {A B C : World} (h : KeepQ n₀ b2 A B) (k : KeepQ n₀ b2 B C) : KeepQ n₀ b2 A C := ⟨keepL_t h.1 k.1, keepY_t h.2 k.2⟩
theorem keepQ_b {n₀ b2 : Nat} {w : World} (hn : n₀ ≤ w.heap.size) (hL : b2 < w.heap.size) (W : World) (l : Nat) (o o' : Obj) (hl : w.heap.size ≤ l) (h : W.heap[l]? = some o) (h1 : o.isCells = false) (h2 : o.isWalk = false) : KeepQ n₀ b2 W (W.putObj l o') :=
 ⟨keepL_b hn (fun b hb => by rw [List.mem_singleton.1 hb]; exact hL) W l o o' hl h h1 h2, keepY_b W l o o' h h1⟩
theorem exVals : ∀ l : List Int, (∀ x ∈ l, (Lit.int .i64 x).wf = true) → ∃ xs : List I64, vals xs = l
 | [], _ => ⟨[], rfl⟩
 | x :: t, h => by
  obtain ⟨xs, e⟩ := exVals t (fun y hy => h y (by simp [hy]))
  exact ⟨⟨x, h x (by simp)⟩ :: xs, by simp only [vals, List.map_cons]; rw [← e]; rfl⟩
theorem vals_app1 (a : List I64) (x : I64) : vals (a ++ [x]) = vals a ++ [x.1] := by simp [vals]
theorem atSs {w : World} {A : Option Addr} {n : Nat} {Ss : List (List Int)} (h : Kd.C (Kd.slice TI (Kd.int .i64)) w A n Ss) (k : Nat) (hk : k < n) :
  ∃ ad A1 c1, A = some ad ∧ w.cell? (ad.add k) = some (.slice A1 (Ss.getD k []).length c1) ∧ Kd.C (Kd.int .i64) w A1 (Ss.getD k []).length (Ss.getD k []) := by
 obtain ⟨h1, h2, h3⟩ := h
 obtain ⟨ad, e, hc⟩ := h3 (by omega)
 have hk' : k < Ss.length := by omega
 obtain ⟨c, hl, ⟨A1, c1, rfl, hl1, hC1⟩, hcell⟩ := hc k _ (List.getElem?_eq_getElem hk')
 have hc0 : ∀ j u, [Value.slice A1 (Ss[k]).length c1][j]? = some u → w.cell? (ad.add (k * 1 + j)) = some u := hcell
 rw [List.getD_eq_getElem?_getD, List.getElem?_eq_getElem hk', Option.getD_some]
 exact ⟨ad, A1, c1, e, by have := hc0 0 _ rfl; simpa using this, hC1⟩
set_option maxRecDepth 100000 in
set_option maxHeartbeats 8000000 in
theorem looks_stops (G : SG) (em : List Bool) (Ss : List (List Int)) (x : Lr) (u w : World) (B1 B2 : Nat) (hG : G.At em Ss u) (hu : Below u.heap.size u w)
  (b1 : w.heap[B1]? = some (.cells #[.pointer (some ⟨G.sb, 0, none⟩)] 47 (0, 0))) (b2 : w.heap[B2]? = some (.cells #[.int .i64 x.1, .int .i64 x.2.1, .int .i64 x.2.2] TL (0, 0)))
  (h1 : x.1 < G.F.ps.length) (h2 : 0 ≤ x.2.1) (h3 : x.2.1 < (rightV G.F.ts.length G.F.ps x.1).length) (h4 : (Lit.int .i64 x.2.2).wf = true) :
  SeqG 2 Try.prog 42 #[.pointer (some ⟨B1, 0, none⟩), .pointer (some ⟨B2, 0, none⟩)] encX (KeepQ u.heap.size B2) (fun _ => False) (fun ys => vals ys = looksV em Ss x.2.2 ((rightV G.F.ts.length G.F.ps x.1).drop (x.2.1.toNat + 1))) (fun _ => True) (looksV em Ss x.2.2 ((rightV G.F.ts.length G.F.ps x.1).drop (x.2.1.toNat + 1))).length w := by
 intro L J Jx W hW hJ hJx hY h0
 have b1W := hW.same B1 _ b1 (fun h => h) (.inr rfl)
 have b2W := hW.same B2 _ b2 (fun h => h) (.inr rfl)
 have hu0 : Below u.heap.size u W.drew := zbb (zb0 hu hW (Nat.le_refl _) hu.size (fun k h => h.elim))
 obtain ⟨d, hd⟩ : ∃ d : Nat, x.2.1 = (d : Int) := ⟨x.2.1.toNat, by omega⟩
 rw [hd] at h3 b2 b2W
 rw [hd, Int.toNat_natCast] at hY ⊢
 have hright : 0 ≤ x.1 → (rightV G.F.ts.length G.F.ps x.1).length ≤ 1000 ∧ ∀ i ∈ rightV G.F.ts.length G.F.ps x.1, 0 ≤ i.1 ∧ i.1 < (G.N : Int) := by
  intro hx
  have hm : G.F.ps.getD x.1.toNat dP ∈ G.F.ps := by
   rw [List.getD_eq_getElem?_getD, List.getElem?_eq_getElem (by omega)]
   exact List.getElem_mem _
  have he : rightV G.F.ts.length G.F.ps x.1 = (G.F.ps.getD x.1.toNat dP).2.1 := by unfold rightV; rw [if_neg (by omega)]
  rw [he]
  exact ⟨(hG.prs _ hm).2, fun i hi => (hG.prs _ hm).1.2.2 i hi⟩
 have hneg : x.1 < 0 → (rightV G.F.ts.length G.F.ps x.1).length = 1 := by
  intro hx
  unfold rightV
  rw [if_pos hx]
  rfl
 have hl9 : (rightV G.F.ts.length G.F.ps x.1).length ≤ 1000 := by
  by_cases hx : 0 ≤ x.1
  ·exact (hright hx).1
  ·rw [hneg (by omega)]; omega
 clear h2 hd
 obtain ⟨rest, hrest⟩ : ∃ rest, (rightV G.F.ts.length G.F.ps x.1).drop (d + 1) = rest := ⟨_, rfl⟩
 rw [hrest] at hY ⊢
 refine callsIn_of_wp Try.func42 rfl trivial ?_ rfl
 simp only [Try.ntmps42, List.size_toArray, List.length_cons, List.length_nil, Nat.reduceAdd, Nat.reduceSub, Array.replicate_succ, Array.replicate_zero, List.push_toArray, List.append_toArray, List.nil_append, List.cons_append]
 gi_wp2
 rename_i K6 hK6
 have hGd := hG.below hu0
 have hHeld : (fun X => X.cell? ⟨B1, 0, none⟩ = some (.pointer (some ⟨G.sb, 0, none⟩)) ∧ X.cell? ⟨G.sb, 0, none⟩ = some (.slice G.F.A0 G.F.ts.length G.F.c0) ∧ X.cell? ⟨G.sb, 1, none⟩ = some (.slice G.F.A1 G.F.ns.length G.F.c1) ∧ X.cell? ⟨G.sb, 2, none⟩ = some (.slice G.F.A2 G.F.ps.length G.F.c2) ∧ X.cell? ⟨B2, 0, none⟩ = some (.int .i64 x.1) ∧ X.cell? ⟨B2, 1, none⟩ = some (.int .i64 (d : Int))) W.drew := ⟨zab (zae b1W) 0, zab hGd.blk 0, zab hGd.blk 1, zab hGd.blk 2, zab (zae b2W) 0, zab (zae b2W) 1⟩
 have keep0 : ∀ X Y : World, Below X.heap.size X Y → (fun X => X.cell? ⟨B1, 0, none⟩ = some (.pointer (some ⟨G.sb, 0, none⟩)) ∧ X.cell? ⟨G.sb, 0, none⟩ = some (.slice G.F.A0 G.F.ts.length G.F.c0) ∧ X.cell? ⟨G.sb, 1, none⟩ = some (.slice G.F.A1 G.F.ns.length G.F.c1) ∧ X.cell? ⟨G.sb, 2, none⟩ = some (.slice G.F.A2 G.F.ps.length G.F.c2) ∧ X.cell? ⟨B2, 0, none⟩ = some (.int .i64 x.1) ∧ X.cell? ⟨B2, 1, none⟩ = some (.int .i64 (d : Int))) X → (fun X => X.cell? ⟨B1, 0, none⟩ = some (.pointer (some ⟨G.sb, 0, none⟩)) ∧ X.cell? ⟨G.sb, 0, none⟩ = some (.slice G.F.A0 G.F.ts.length G.F.c0) ∧ X.cell? ⟨G.sb, 1, none⟩ = some (.slice G.F.A1 G.F.ns.length G.F.c1) ∧ X.cell? ⟨G.sb, 2, none⟩ = some (.slice G.F.A2 G.F.ps.length G.F.c2) ∧ X.cell? ⟨B2, 0, none⟩ = some (.int .i64 x.1) ∧ X.cell? ⟨B2, 1, none⟩ = some (.int .i64 (d : Int))) Y := fun X Y h hh => ⟨zar h hh.1, zar h hh.2.1, zar h hh.2.2.1, zar h hh.2.2.2.1, zar h hh.2.2.2.2.1, zar h hh.2.2.2.2.2⟩
 refine wpIn_wide.2 (Ahd.wp_qz (zbs (S := (fun X => X.cell? ⟨B1, 0, none⟩ = some (.pointer (some ⟨G.sb, 0, none⟩)) ∧ X.cell? ⟨G.sb, 0, none⟩ = some (.slice G.F.A0 G.F.ts.length G.F.c0) ∧ X.cell? ⟨G.sb, 1, none⟩ = some (.slice G.F.A1 G.F.ns.length G.F.c1) ∧ X.cell? ⟨G.sb, 2, none⟩ = some (.slice G.F.A2 G.F.ps.length G.F.c2) ∧ X.cell? ⟨B2, 0, none⟩ = some (.int .i64 x.1) ∧ X.cell? ⟨B2, 1, none⟩ = some (.int .i64 (d : Int)))) (ds := []) #[Nf,Nf,Nf,Nf,Nf,Nf,Nf,Nf,Nf,Nf,Nf,Nf,Nf] (by kernel_rfl) rfl rfl hHeld (fun h0_ => ?_)))
 clear h0_
 refine take_ (i := 0) (N := (some 8)) (v := ?_) (a' := ?_) #[Yt,Nf,Nf,Nf,Nf,Nf,Nf,Nf,Nf,Nf,Nf,Nf,Nf] rfl rfl (by kernel_rfl) (fun _ _ _ h => h) (Or.inl ⟨by rfl, ?_⟩) hHeld ?_ ?_
 rotate_left
 ·rintro w' ⟨s0, s1, s2, s3, s4, s5⟩
  go_simp
  with_reducible rfl
 rotate_left
 ·simp only [Act.put, Y1, Y2, Y3]
  rfl
 refine pure_ (i := 1) (N := (some 9)) (v := ?_) (a' := ?_) #[Yt,Yt,Nf,Nf,Nf,Nf,Nf,Nf,Nf,Nf,Nf,Nf,Nf] rfl rfl (by kernel_rfl) (fun _ _ _ h => h) (Or.inl ⟨by rfl, ?_⟩) ?_ ?_
 rotate_left
 ·intro w'
  go_simp
  with_reducible rfl
 rotate_left
 ·simp only [Act.put, Y1, Y2, Y3]
  rfl
 refine pure_ (i := 2) (N := (some 10)) (v := ?_) (a' := ?_) #[Yt,Yt,Yt,Nf,Nf,Nf,Nf,Nf,Nf,Nf,Nf,Nf,Nf] rfl rfl (by kernel_rfl) (fun _ _ _ h => h) (Or.inl ⟨by rfl, ?_⟩) ?_ ?_
 rotate_left
 ·intro w'
  go_simp
  with_reducible rfl
 rotate_left
 ·simp only [Act.put, Y1, Y2, Y3]
  rfl
 refine take_ (i := 3) (N := (some 11)) (v := ?_) (a' := ?_) #[Yt,Yt,Yt,Yt,Nf,Nf,Nf,Nf,Nf,Nf,Nf,Nf,Nf] rfl rfl (by kernel_rfl) (fun _ _ _ h => h) (Or.inl ⟨by rfl, ?_⟩) hHeld ?_ ?_
 rotate_left
 ·rintro w' ⟨s0, s1, s2, s3, s4, s5⟩
  go_simp
  with_reducible rfl
 rotate_left
 ·simp only [Act.put, Y1, Y2, Y3]
  rfl
 refine pure_ (i := 4) (N := (some 12)) (v := ?_) (a' := ?_) #[Yt,Yt,Yt,Yt,Yt,Nf,Nf,Nf,Nf,Nf,Nf,Nf,Nf] rfl rfl (by kernel_rfl) (fun _ _ _ h => h) (Or.inl ⟨by rfl, ?_⟩) ?_ ?_
 rotate_left
 ·intro w'
  go_simp
  with_reducible rfl
 rotate_left
 ·simp only [Act.put, Y1, Y2, Y3]
  rfl
 refine take_ (i := 5) (N := (some 13)) (v := ?_) (a' := ?_) #[Yt,Yt,Yt,Yt,Yt,Yt,Nf,Nf,Nf,Nf,Nf,Nf,Nf] rfl rfl (by kernel_rfl) (fun _ _ _ h => h) (Or.inl ⟨by rfl, ?_⟩) hHeld ?_ ?_
 rotate_left
 ·rintro w' ⟨s0, s1, s2, s3, s4, s5⟩
  go_simp
  with_reducible rfl
 rotate_left
 ·simp only [Act.put, Y1, Y2, Y3]
  rfl
 refine pure_ (i := 7) (N := (some 15)) (v := ?_) (a' := ?_) #[Yt,Yt,Yt,Yt,Yt,Yt,Nf,Yt,Nf,Nf,Nf,Nf,Nf] rfl rfl (by kernel_rfl) (fun _ _ _ h => h) (Or.inl ⟨by rfl, ?_⟩) ?_ ?_
 rotate_left
 ·intro w'
  go_simp
  with_reducible rfl
 rotate_left
 ·simp only [Act.put, Y1, Y2, Y3]
  rfl
 refine take_ (i := 8) (N := (some 16)) (v := ?_) (a' := ?_) #[Yt,Yt,Yt,Yt,Yt,Yt,Nf,Yt,Yt,Nf,Nf,Nf,Nf] rfl rfl (by kernel_rfl) (fun _ _ _ h => h) (Or.inl ⟨by rfl, ?_⟩) hHeld ?_ ?_
 rotate_left
 ·rintro w' ⟨s0, s1, s2, s3, s4, s5⟩
  go_simp
  with_reducible rfl
 rotate_left
 ·simp only [Act.put, Y1, Y2, Y3]
  rfl
 refine pure_ (i := 9) (N := (some 17)) (v := ?_) (a' := ?_) #[Yt,Yt,Yt,Yt,Yt,Yt,Nf,Yt,Yt,Yt,Nf,Nf,Nf] rfl rfl (by kernel_rfl) (fun _ _ _ h => h) (Or.inl ⟨by rfl, ?_⟩) ?_ ?_
 rotate_left
 ·intro w'
  go_simp
  with_reducible rfl
 rotate_left
 ·simp only [Act.put, Y1, Y2, Y3]
  rfl
 refine pure_ (i := 12) (N := (some 20)) (v := ?_) (a' := ?_) #[Yt,Yt,Yt,Yt,Yt,Yt,Nf,Yt,Yt,Yt,Nf,Nf,Yt] rfl rfl (by kernel_rfl) (fun _ _ _ h => h) (Or.inl ⟨by rfl, ?_⟩) ?_ ?_
 rotate_left
 ·intro w'
  go_simp
  with_reducible rfl
 rotate_left
 ·simp only [Act.put, Y1, Y2, Y3]
  rfl
 refine one_ (i := 6) (N := (some 14)) #[Yt,Yt,Yt,Yt,Yt,Yt,Yt,Yt,Yt,Yt,Nf,Nf,Yt] rfl rfl (by kernel_rfl) (by decide) (fun K hK => ?_)
 refine goes_ Try.func41 (by kernel_rfl) rfl #[.agg #[.slice G.F.A0 G.F.ts.length G.F.c0, .slice G.F.A1 G.F.ns.length G.F.c1, .slice G.F.A2 G.F.ps.length G.F.c2], .int .i64 x.1] (by rfl) rfl rfl (by first | rfl | (simp [Act.eval]; done) | (simp [go_sem]; done)) ?_
 refine (right_calls G.F x.1 u W.drew hG.K hu0 h1).mono ?_
 rintro e W3 ⟨A3, c3, rfl, hl3, hA3, hC3, hB3⟩
 obtain ⟨ad3, rfl⟩ := hA3 (by omega)
 obtain ⟨n3, hn3⟩ : ∃ n, (rightV G.F.ts.length G.F.ps x.1).length = n := ⟨_, rfl⟩
 rw [hn3] at h3 hl3
 rw [hn3]
 have hh3 := keep0 _ _ hB3 hHeld
 refine ⟨_, rfl, ?_⟩
 have hwr1 : IntKind.i64.wrap ((d : Int) + 1) = (d : Int) + 1 := by rw [IntKind.wrap_i64]; omega
 have hwr2 : (0 : Int) ≤ (d : Int) + 1 := by omega
 have hwr3 : (d : Int) + 1 ≤ (n3 : Int) := by omega
 obtain ⟨A4, hA4⟩ : ∃ A4 : Option Addr, (if c3 = d + 1 then some ad3 else some (ad3.add ((d + 1) * 3))) = A4 := ⟨_, rfl⟩
 refine hK.out _ _ hh3 (fun h0_ => ?_)
 clear hK K h0_
 refine pure_ (i := 10) (N := (some 18)) (v := ?_) (a' := ?_) #[Yt,Yt,Yt,Yt,Yt,Yt,Yt,Yt,Yt,Yt,Yt,Nf,Yt] rfl rfl (by kernel_rfl) (fun _ _ _ h => h) (Or.inl ⟨by rfl, ?_⟩) ?_ ?_
 rotate_left
 ·intro w'
  go_simp
  with_reducible rfl
 rotate_left
 ·simp only [Act.put, Y1, Y2, Y3]
  rfl
 refine pure_ (i := 11) (N := (some 19)) (v := ?_) (a' := ?_) #[Yt,Yt,Yt,Yt,Yt,Yt,Yt,Yt,Yt,Yt,Yt,Yt,Yt] rfl rfl (by kernel_rfl) (fun _ _ _ h => h) (Or.inl ⟨by rfl, ?_⟩) ?_ ?_
 rotate_left
 ·intro w'
  go_simp
  with_reducible rfl
 rotate_left
 ·simp only [Act.put, Y1, Y2, Y3]
  rfl
 refine done_ (by kernel_rfl) ?_
 refine hK6 _ _ ?_
 have hrl : n3 - (d + 1) = rest.length := by rw [← hrest, List.length_drop, hn3]
 have hrC : rest ≠ [] → Kd.C kI u A4 rest.length rest ∧ ∀ i ∈ rest, 0 ≤ i.1 ∧ i.1 < (G.N : Int) := by
  intro hne
  by_cases hx : 0 ≤ x.1
  ·have := Kd.C_drop (hC3 hx) (m := d + 1) (c := c3) (by rw [hn3]; omega) (by rw [hn3]; omega)
   rw [hrest] at this
   refine ⟨by rw [← hA4]; exact this, fun i hi => (hright hx).2 i (by rw [← hrest] at hi; exact List.mem_of_mem_drop hi)⟩
  ·have hl := hneg (by omega)
   rw [hn3] at hl
   have : rest.length = 0 := by omega
   exact absurd (List.eq_nil_of_length_eq_zero this) hne
 have hb3 := hu0.trans (hB3.mono hu0.size)
 have B1w : W3.heap[B1]? = some (.cells #[.pointer (some ⟨G.sb, 0, none⟩)] 47 (0, 0)) := zaq (zae b1W) hB3
 have B2w : W3.heap[B2]? = some (.cells #[.int .i64 x.1, .int .i64 (d : Int), .int .i64 x.2.2] TL (0, 0)) := zaq (zae b2W) hB3
 have J3 : J [] W3 := hJ _ _ _ h0 (Turn.drew.trans (Turn.below hB3))
 have hrl9 : rest.length ≤ 1000 := by omega
 rw [hrl]
 have HRC := Lib.hid hrC
 clear hK6 keep0 hHeld hh3 hwr1 hwr2 hwr3 hA3 hC3 hl3 hA4 hright hneg hrest hrC hn3 hrl hl9 b1W b2W hB3 h3 h0 hGd
 obtain ⟨adf, _, _, e0, _, _⟩ := atSs hG.first G.F.ts.length (by have := hG.nn; have := hG.n1; omega)
 obtain ⟨ade, e1, _⟩ := Kd.at_bool hG.empty G.F.ts.length (by omega) (by have := hG.nn; have := hG.n1; omega)
 have BLK := Lib.hid hG.blk
 rw [e0, e1] at BLK
 have EMP := Lib.hid hG.empty
 rw [e1] at EMP
 have FST := Lib.hid hG.first
 rw [e0] at FST
 gi_wp2
 gi_loopw [20] (fun i wr => ∃ (j : Nat) (pre : List I64), i = .int .i64 (j : Int) ∧ j ≤ rest.length ∧ J pre wr ∧ pre.length ≤ j * 1000000 ∧ Hid (vals pre ++ looksV em Ss x.2.2 (rest.drop j) = looksV em Ss x.2.2 rest) ∧ Hid (wr.heap[B1]? = some (.cells #[.pointer (some ⟨G.sb, 0, none⟩)] 47 (0, 0))) ∧ Hid (wr.heap[B2]? = some (.cells #[.int .i64 x.1, .int .i64 (d : Int), .int .i64 x.2.2] TL (0, 0))) ∧ Below u.heap.size u wr) (fun i _ => rest.length - (Go.RowKit.intOf i).toNat)
 case atStart => exact ⟨0, [], rfl, Nat.zero_le _, J3, Nat.zero_le _, Lib.hid (by simp [vals]), Lib.hid B1w, Lib.hid B2w, hb3⟩
 case round =>
  clear B1w B2w J3 hb3
  obtain ⟨j, pre, rfl, hj, hJs, hpl, HM, HB1, HB2, hb⟩ := hrel
  by_cases hlt : j < rest.length
  ·have hne : rest ≠ [] := fun e => by rw [e] at hlt; simp at hlt
   obtain ⟨hCr, hir⟩ := HRC.out hne
   obtain ⟨adr, y, rfl, hy, f0', f1', f2'⟩ := atI hCr j hlt
   have f0 := zar hb f0'
   have f1 := zar hb f1'
   have f2 := zar hb f2'
   have hy0 := (hir y (List.mem_of_getElem? hy)).1
   have hy1 := (hir y (List.mem_of_getElem? hy)).2
   have hdr : rest.drop j = y :: rest.drop (j + 1) := by
    rw [List.drop_eq_getElem_cons hlt]
    congr 1
    exact (List.getElem?_eq_some_iff.1 hy).2
   have hM := HM.out
   rw [hdr] at hM
   simp only [looksV] at hM
   have HM' := Lib.hid hM
   clear hM hdr hy hCr hir hne f0' f1' f2' HM
   gi_wp2
   rename_i K7 hK7
   obtain ⟨Sy, hSy⟩ : ∃ S, Ss.getD y.1.toNat [] = S := ⟨_, rfl⟩
   obtain ⟨_, Ay, cy, e2, ky, Cy⟩ := atSs FST.out y.1.toNat (by omega)
   cases e2
   rw [hSy] at ky Cy HM'
   have hSm : Sy.length ≤ 1000000 ∧ ∀ z ∈ Sy, (Lit.int .i64 z).wf = true := by
    rw [← hSy, List.getD_eq_getElem?_getD]
    cases he : Ss[y.1.toNat]? with
    | none => exact ⟨by simp, fun z hz => by simp at hz⟩
    | some q => exact hG.fok q (List.mem_of_getElem? he)
   obtain ⟨xs, hxs⟩ := exVals Sy hSm.2
   have hxl : xs.length = Sy.length := by rw [← hxs]; simp [vals]
   have bx := zbe wr (.cells #[.int .i64 y.1, .string y.2.1, .string y.2.2] 43)
   have hBx : Below wr.heap.size wr (wr.alloc (.cells #[.int .i64 y.1, .string y.2.1, .string y.2.2] 43)) := (Below.refl _ _).alloc (Nat.le_refl _) _
   have Jx1 : J pre (wr.alloc (.cells #[.int .i64 y.1, .string y.2.1, .string y.2.2] 43)).drew := hJ _ _ _ hJs ((Turn.alloc _).trans Turn.drew)
   obtain ⟨Wx, hWx⟩ : ∃ X, wr.alloc (.cells #[.int .i64 y.1, .string y.2.1, .string y.2.2] 43) = X := ⟨_, rfl⟩
   obtain ⟨bxn, hbxn⟩ : ∃ n, wr.heap.size = n := ⟨_, rfl⟩
   have hbx := hb.trans (hBx.mono hb.size)
   rw [hWx] at bx hBx hbx Jx1
   rw [hWx]
   have hbd : Below u.heap.size u Wx.drew := zbb hbx
   have B1x := Lib.hid (zae (zaq HB1.out hBx))
   have B2x := Lib.hid (zae (zaq HB2.out hBx))
   have BXx := Lib.hid (zae bx)
   rw [hbxn] at BXx
   rw [hbxn]
   obtain ⟨Wd, hWd⟩ : ∃ X, Wx.drew = X := ⟨_, rfl⟩
   rw [hWd] at hbd B1x B2x BXx Jx1
   obtain ⟨bx, rfl⟩ : ∃ b, bxn = b := ⟨_, rfl⟩
   have hHeldX : (fun X => X.cell? ⟨B1, 0, none⟩ = some (.pointer (some ⟨G.sb, 0, none⟩)) ∧ X.cell? ⟨G.sb, 3, none⟩ = some (.slice (some adf) G.N G.cf) ∧ X.cell? ⟨bxn, 0, none⟩ = some (.int .i64 y.1) ∧ X.cell? (adf.add y.1.toNat) = some (.slice Ay Sy.length cy)) Wx.drew := by rw [hWd]; exact ⟨zab B1x.out 0, zar hbd (zab BLK.out 3), zab BXx.out 0, zar hbd ky⟩
   clear hWx hbxn hBx hbx HB1 HB2 hJs hb f0 f1 f2 hSy
   refine wpIn_wide.2 (Ahd.wp_qz (zbs (S := (fun X => X.cell? ⟨B1, 0, none⟩ = some (.pointer (some ⟨G.sb, 0, none⟩)) ∧ X.cell? ⟨G.sb, 3, none⟩ = some (.slice (some adf) G.N G.cf) ∧ X.cell? ⟨bxn, 0, none⟩ = some (.int .i64 y.1) ∧ X.cell? (adf.add y.1.toNat) = some (.slice Ay Sy.length cy))) (ds := []) #[Nf,Nf,Nf,Nf,Nf,Nf,Nf,Nf,Nf,Nf] (by kernel_rfl) rfl rfl hHeldX (fun h0_ => ?_)))
   clear h0_
   refine take_ (i := 0) (N := (some 24)) (v := ?_) (a' := ?_) #[Yt,Nf,Nf,Nf,Nf,Nf,Nf,Nf,Nf,Nf] rfl rfl (by kernel_rfl) (fun _ _ _ h => h) (Or.inl ⟨by rfl, ?_⟩) hHeldX ?_ ?_
   rotate_left
   ·rintro w' ⟨s0, s1, s2, s3⟩
    go_simp
    with_reducible rfl
   rotate_left
   ·simp only [Act.put, Y1, Y2, Y3]
    rfl
   refine pure_ (i := 1) (N := (some 25)) (v := ?_) (a' := ?_) #[Yt,Yt,Nf,Nf,Nf,Nf,Nf,Nf,Nf,Nf] rfl rfl (by kernel_rfl) (fun _ _ _ h => h) (Or.inl ⟨by rfl, ?_⟩) ?_ ?_
   rotate_left
   ·intro w'
    go_simp
    with_reducible rfl
   rotate_left
   ·simp only [Act.put, Y1, Y2, Y3]
    rfl
   refine pure_ (i := 2) (N := (some 26)) (v := ?_) (a' := ?_) #[Yt,Yt,Yt,Nf,Nf,Nf,Nf,Nf,Nf,Nf] rfl rfl (by kernel_rfl) (fun _ _ _ h => h) (Or.inl ⟨by rfl, ?_⟩) ?_ ?_
   rotate_left
   ·intro w'
    go_simp
    with_reducible rfl
   rotate_left
   ·simp only [Act.put, Y1, Y2, Y3]
    rfl
   refine take_ (i := 3) (N := (some 27)) (v := ?_) (a' := ?_) #[Yt,Yt,Yt,Yt,Nf,Nf,Nf,Nf,Nf,Nf] rfl rfl (by kernel_rfl) (fun _ _ _ h => h) (Or.inl ⟨by rfl, ?_⟩) hHeldX ?_ ?_
   rotate_left
   ·rintro w' ⟨s0, s1, s2, s3⟩
    go_simp
    with_reducible rfl
   rotate_left
   ·simp only [Act.put, Y1, Y2, Y3]
    rfl
   refine pure_ (i := 4) (N := (some 28)) (v := ?_) (a' := ?_) #[Yt,Yt,Yt,Yt,Yt,Nf,Nf,Nf,Nf,Nf] rfl rfl (by kernel_rfl) (fun _ _ _ h => h) (Or.inl ⟨by rfl, ?_⟩) ?_ ?_
   rotate_left
   ·intro w'
    go_simp
    with_reducible rfl
   rotate_left
   ·simp only [Act.put, Y1, Y2, Y3]
    rfl
   refine take_ (i := 5) (N := (some 29)) (v := ?_) (a' := ?_) #[Yt,Yt,Yt,Yt,Yt,Yt,Nf,Nf,Nf,Nf] rfl rfl (by kernel_rfl) (fun _ _ _ h => h) (Or.inl ⟨by rfl, ?_⟩) hHeldX ?_ ?_
   rotate_left
   ·rintro w' ⟨s0, s1, s2, s3⟩
    go_simp
    with_reducible rfl
   rotate_left
   ·simp only [Act.put, Y1, Y2, Y3]
    rfl
   refine pure_ (i := 6) (N := (some 30)) (v := ?_) (a' := ?_) #[Yt,Yt,Yt,Yt,Yt,Yt,Yt,Nf,Nf,Nf] rfl rfl (by kernel_rfl) (fun _ _ _ h => h) (Or.inl ⟨by rfl, ?_⟩) ?_ ?_
   rotate_left
   ·intro w'
    go_simp
    with_reducible rfl
   rotate_left
   ·simp only [Act.put, Y1, Y2, Y3]
    rfl
   refine take_ (i := 7) (N := (some 31)) (v := ?_) (a' := ?_) #[Yt,Yt,Yt,Yt,Yt,Yt,Yt,Yt,Nf,Nf] rfl rfl (by kernel_rfl) (fun _ _ _ h => h) (Or.inl ⟨by rfl, ?_⟩) hHeldX ?_ ?_
   rotate_left
   ·rintro w' ⟨s0, s1, s2, s3⟩
    go_simp
    with_reducible rfl
   rotate_left
   ·simp only [Act.put, Y1, Y2, Y3]
    rfl
   refine pure_ (i := 8) (N := (some 32)) (v := ?_) (a' := ?_) #[Yt,Yt,Yt,Yt,Yt,Yt,Yt,Yt,Yt,Nf] rfl rfl (by kernel_rfl) (fun _ _ _ h => h) (Or.inl ⟨by rfl, ?_⟩) ?_ ?_
   rotate_left
   ·intro w'
    go_simp
    with_reducible rfl
   rotate_left
   ·simp only [Act.put, Y1, Y2, Y3]
    rfl
   refine pure_ (i := 9) (N := (some 33)) (v := ?_) (a' := ?_) #[Yt,Yt,Yt,Yt,Yt,Yt,Yt,Yt,Yt,Yt] rfl rfl (by kernel_rfl) (fun _ _ _ h => h) (Or.inl ⟨by rfl, ?_⟩) ?_ ?_
   rotate_left
   ·intro w'
    go_simp
    with_reducible rfl
   rotate_left
   ·simp only [Act.put, Y1, Y2, Y3]
    rfl
   refine done_ (by kernel_rfl) ?_
   refine hK7 _ _ ?_
   rw [hWd]
   clear hK7 hHeldX hWd
   have HCy := Lib.hid Cy
   have HXL := Lib.hid hxl
   clear Cy
   gi_wp2
   gi_loopw [33] (fun i wx => ∃ (q : Nat), i = .int .i64 (q : Int) ∧ q ≤ Sy.length ∧ J (pre ++ xs.take q) wx ∧ Hid (wx.heap[B1]? = some (.cells #[.pointer (some ⟨G.sb, 0, none⟩)] 47 (0, 0))) ∧ Hid (wx.heap[B2]? = some (.cells #[.int .i64 x.1, .int .i64 (d : Int), .int .i64 x.2.2] TL (0, 0))) ∧ Hid (wx.heap[bxn]? = some (.cells #[.int .i64 y.1, .string y.2.1, .string y.2.2] 43 (0, 0))) ∧ Below u.heap.size u wx) (fun i _ => Sy.length - (Go.RowKit.intOf i).toNat)
   case atStart => exact ⟨0, rfl, Nat.zero_le _, by simpa using Jx1, B1x, B2x, BXx, hbd⟩
   case round =>
    clear Jx1 B1x B2x BXx hbd
    obtain ⟨q, rfl, hq, hJq, HB1, HB2, HBX, hb⟩ := hrel
    by_cases hqt : q < Sy.length
    ·obtain ⟨ady, e3, hcy⟩ : ∃ ad, Ay = some ad ∧ wr.cell? (ad.add q) = some (.int .i64 (Sy.getD q 0)) := by
      obtain ⟨h1_, h2_, h3_⟩ := HCy.out
      obtain ⟨ad, e, hc⟩ := h3_ (by omega)
      obtain ⟨c, _, rfl, hcell⟩ := hc q _ (List.getElem?_eq_getElem hqt)
      have := hcell 0 _ rfl
      rw [show q * (Kd.int .i64).sz + 0 = q from Nat.mul_one q] at this
      exact ⟨ad, e, by rw [List.getD_eq_getElem?_getD, List.getElem?_eq_getElem hqt]; exact zar hb this⟩
     subst e3
     have hqx : q < xs.length := by omega
     have hz : Sy.getD q 0 = (xs[q]).1 := by
      rw [← hxs, List.getD_eq_getElem?_getD]
      simp [vals, List.getElem?_eq_getElem hqx]
     rw [hz] at hcy
     have htk := zch (List.getElem?_eq_getElem hqx)
     have hxq := List.getElem?_eq_getElem hqx
     generalize xs[q] = z at hcy htk hxq
     obtain ⟨fn, tmps, assign, body, hyy, hR⟩ := hY (pre ++ xs.take q) z _ hJq (by rw [List.length_append, List.length_take]; have := congrArg List.length HM'.out; simp only [vals, List.length_append, List.length_map] at this; omega)
     simp only [encX] at hyy
     have HT := Lib.hid htk
     clear hY hz htk hxq hxs
     gi_wp2
     refine hR.mono ?_
     rintro e W5 (⟨rfl, hJ3, hk3⟩ | ⟨rfl, hJx3⟩)
     ·have n1 := Lib.hid (hk3.2 B1 _ _ _ HB1.out (by decide) (by decide))
      have n2 := Lib.hid ((hk3.1.2 B2 (by simp) (zaw HB2.out)).trans HB2.out)
      have n3 := Lib.hid (hk3.2 bxn _ _ _ HBX.out (by decide) (by decide))
      gi_wp2
      go_roundw
      case rel => exact ⟨q + 1, by first | rfl | go_num, by omega, by rw [HT.out, ← List.append_assoc]; exact hJ3, n1, n2, n3, hb.trans hk3.1.1⟩
      case measure => simp [Go.RowKit.intOf]; omega
     ·gi_wp2
      refine bodyPost_ret (results_none rfl _ _ _) rfl ?_
      exact ⟨⟨_, rfl⟩, .inr ⟨_, trivial, hJx3⟩⟩
    ·obtain rfl : q = Sy.length := by omega
     have hall : xs.take Sy.length = xs := List.take_of_length_le (by omega)
     rw [hall] at hJq
     have hvp : vals (pre ++ xs) = vals pre ++ Sy := by rw [← hxs]; simp [vals]
     gi_wp2
     rename_i K8 hK8
     have hbd : Below u.heap.size u wr.drew := zbb hb
     obtain ⟨_, e4, km⟩ := Kd.at_bool EMP.out y.1 hy0 hy1
     cases e4
     have hHeld : (fun X => X.cell? ⟨B1, 0, none⟩ = some (.pointer (some ⟨G.sb, 0, none⟩)) ∧ X.cell? ⟨G.sb, 4, none⟩ = some (.slice (some ade) G.N G.ce) ∧ X.cell? ⟨bxn, 0, none⟩ = some (.int .i64 y.1) ∧ X.cell? (ade.add y.1.toNat) = some (.bool (at_ em y.1))) wr.drew := ⟨zab (zae HB1.out) 0, zar hbd (zab BLK.out 4), zab (zae HBX.out) 0, zar hbd km⟩
     have Jd : J (pre ++ xs) wr.drew := hJ _ _ _ hJq Turn.drew
     refine wpIn_wide.2 (Ahd.wp_qz (zbs (S := (fun X => X.cell? ⟨B1, 0, none⟩ = some (.pointer (some ⟨G.sb, 0, none⟩)) ∧ X.cell? ⟨G.sb, 4, none⟩ = some (.slice (some ade) G.N G.ce) ∧ X.cell? ⟨bxn, 0, none⟩ = some (.int .i64 y.1) ∧ X.cell? (ade.add y.1.toNat) = some (.bool (at_ em y.1)))) (ds := []) #[Nf,Nf,Nf,Nf,Nf,Nf,Nf,Nf,Nf] (by kernel_rfl) rfl rfl hHeld (fun h0_ => ?_)))
     clear h0_
     refine take_ (i := 0) (N := (some 42)) (v := ?_) (a' := ?_) #[Yt,Nf,Nf,Nf,Nf,Nf,Nf,Nf,Nf] rfl rfl (by kernel_rfl) (fun _ _ _ h => h) (Or.inl ⟨by rfl, ?_⟩) hHeld ?_ ?_
     rotate_left
     ·rintro w' ⟨s0, s1, s2, s3⟩
      go_simp
      with_reducible rfl
     rotate_left
     ·simp only [Act.put, Y1, Y2, Y3]
      rfl
     refine pure_ (i := 1) (N := (some 43)) (v := ?_) (a' := ?_) #[Yt,Yt,Nf,Nf,Nf,Nf,Nf,Nf,Nf] rfl rfl (by kernel_rfl) (fun _ _ _ h => h) (Or.inl ⟨by rfl, ?_⟩) ?_ ?_
     rotate_left
     ·intro w'
      go_simp
      with_reducible rfl
     rotate_left
     ·simp only [Act.put, Y1, Y2, Y3]
      rfl
     refine pure_ (i := 2) (N := (some 44)) (v := ?_) (a' := ?_) #[Yt,Yt,Yt,Nf,Nf,Nf,Nf,Nf,Nf] rfl rfl (by kernel_rfl) (fun _ _ _ h => h) (Or.inl ⟨by rfl, ?_⟩) ?_ ?_
     rotate_left
     ·intro w'
      go_simp
      with_reducible rfl
     rotate_left
     ·simp only [Act.put, Y1, Y2, Y3]
      rfl
     refine take_ (i := 3) (N := (some 45)) (v := ?_) (a' := ?_) #[Yt,Yt,Yt,Yt,Nf,Nf,Nf,Nf,Nf] rfl rfl (by kernel_rfl) (fun _ _ _ h => h) (Or.inl ⟨by rfl, ?_⟩) hHeld ?_ ?_
     rotate_left
     ·rintro w' ⟨s0, s1, s2, s3⟩
      go_simp
      with_reducible rfl
     rotate_left
     ·simp only [Act.put, Y1, Y2, Y3]
      rfl
     refine pure_ (i := 4) (N := (some 46)) (v := ?_) (a' := ?_) #[Yt,Yt,Yt,Yt,Yt,Nf,Nf,Nf,Nf] rfl rfl (by kernel_rfl) (fun _ _ _ h => h) (Or.inl ⟨by rfl, ?_⟩) ?_ ?_
     rotate_left
     ·intro w'
      go_simp
      with_reducible rfl
     rotate_left
     ·simp only [Act.put, Y1, Y2, Y3]
      rfl
     refine take_ (i := 5) (N := (some 47)) (v := ?_) (a' := ?_) #[Yt,Yt,Yt,Yt,Yt,Yt,Nf,Nf,Nf] rfl rfl (by kernel_rfl) (fun _ _ _ h => h) (Or.inl ⟨by rfl, ?_⟩) hHeld ?_ ?_
     rotate_left
     ·rintro w' ⟨s0, s1, s2, s3⟩
      go_simp
      with_reducible rfl
     rotate_left
     ·simp only [Act.put, Y1, Y2, Y3]
      rfl
     refine pure_ (i := 6) (N := (some 48)) (v := ?_) (a' := ?_) #[Yt,Yt,Yt,Yt,Yt,Yt,Yt,Nf,Nf] rfl rfl (by kernel_rfl) (fun _ _ _ h => h) (Or.inl ⟨by rfl, ?_⟩) ?_ ?_
     rotate_left
     ·intro w'
      go_simp
      with_reducible rfl
     rotate_left
     ·simp only [Act.put, Y1, Y2, Y3]
      rfl
     refine take_ (i := 7) (N := (some 49)) (v := ?_) (a' := ?_) #[Yt,Yt,Yt,Yt,Yt,Yt,Yt,Yt,Nf] rfl rfl (by kernel_rfl) (fun _ _ _ h => h) (Or.inl ⟨by rfl, ?_⟩) hHeld ?_ ?_
     rotate_left
     ·rintro w' ⟨s0, s1, s2, s3⟩
      go_simp
      with_reducible rfl
     rotate_left
     ·simp only [Act.put, Y1, Y2, Y3]
      rfl
     refine pure_ (i := 8) (N := (some 50)) (v := ?_) (a' := ?_) #[Yt,Yt,Yt,Yt,Yt,Yt,Yt,Yt,Yt] rfl rfl (by kernel_rfl) (fun _ _ _ h => h) (Or.inl ⟨by rfl, ?_⟩) ?_ ?_
     rotate_left
     ·intro w'
      go_simp
      with_reducible rfl
     rotate_left
     ·simp only [Act.put, Y1, Y2, Y3]
      rfl
     refine done_ (by kernel_rfl) ?_
     refine hK8 _ _ ?_
     clear hK8 hHeld
     obtain ⟨eb, heb⟩ : ∃ eb, at_ em y.1 = eb := ⟨_, rfl⟩
     rw [heb]
     have hM := HM'.out
     rw [heb] at hM
     have n1 := Lib.hid (zae HB1.out)
     have n2 := Lib.hid (zae HB2.out)
     cases eb with
     | true =>
      rw [if_pos rfl, ← List.append_assoc, ← hvp] at hM
      have HN := Lib.hid hM
      clear hM HM' hJq
      gi_wp2
      go_roundw
      case rel => exact ⟨j + 1, pre ++ xs, by first | rfl | go_num, by omega, Jd, by rw [List.length_append, Nat.succ_mul]; omega, HN, n1, n2, hbd⟩
      case measure => simp [Go.RowKit.intOf]; omega
     | false =>
      rw [if_neg (by decide), List.append_nil, ← hvp] at hM
      have HN := Lib.hid hM
      clear hM HM' hJq
      gi_wp2
      refine bodyPost_ret (results_none rfl _ _ _) rfl ?_
      exact ⟨⟨_, rfl⟩, .inl ⟨_, HN.out, Jd⟩⟩
  ·obtain rfl : j = rest.length := by omega
   have hM := HM.out
   rw [List.drop_length] at hM
   simp only [looksV] at hM
   have hM2 : vals (pre ++ [⟨x.2.2, h4⟩]) = looksV em Ss x.2.2 rest := by rw [vals_app1]; exact hM
   have k2 : wr.cell? ⟨B2, 2, none⟩ = some (.int .i64 x.2.2) := zab HB2.out 2
   obtain ⟨fn, tmps, assign, body, hyy, hR⟩ := hY pre ⟨x.2.2, h4⟩ _ hJs (by have := congrArg List.length hM; simp only [vals, List.length_append, List.length_map, List.length_cons, List.length_nil] at this; omega)
   simp only [encX] at hyy
   have HN := Lib.hid hM2
   clear hM hM2 HM hY
   gi_wp2
   refine hR.mono ?_
   rintro e W5 (⟨rfl, hJ3, hk3⟩ | ⟨rfl, hJx3⟩)
   ·gi_wp2
    go_end0
    exact ⟨⟨_, rfl⟩, .inl ⟨_, HN.out, hJ3⟩⟩
   ·gi_wp2
    go_end0
    exact ⟨⟨_, rfl⟩, .inr ⟨_, trivial, hJx3⟩⟩
end Go.Proofs.Ytgdmjpehofdnpaa.LLooks
end
section
namespace Go.Proofs
open Go.Shelf
def Try.YtgdmjpehofdnpaasortL_ren : Go.Shelf.Ren := ⟨fun | 6 => 44 | 15 => 64 | 14 => 63 | 28 => 82 | 29 => 83 | 20 => 74 | 21 => 75 | 22 => 76 | 23 => 77 | 24 => 78 | 25 => 79 | 26 => 80 | 27 => 81 | 46 => 86 | 47 => 87 | 48 => 88 | 49 => 89 | 50 => 90 | 57 => 100 | n => n, fun | 22 => 33 | 24 => 39 | 25 => 78 | 3 => 3 | 39 => 107 | 0 => 0 | 53 => 122 | 55 => 124 | 4 => 4 | 46 => 116 | 45 => 115 | 50 => 66 | 5 => 5 | 9 => 9 | 66 => 126 | 70 => 130 | 76 => 138 | 77 => 139 | n => n, fun | n => n⟩
theorem Try.YtgdmjpehofdnpaasortL : Go.Proofs.SlLaysF0.n6 Try.prog Try.YtgdmjpehofdnpaasortL_ren := {
 mixed := by kernel_rfl
 f6 := ⟨Try.f44.name, by decide, Try.func44.trans (congrArg some (by kernel_rfl))⟩
 f14 := ⟨Try.f63.name, by decide, Try.func63.trans (congrArg some (by kernel_rfl))⟩
 f15 := Try.func64.trans (congrArg some (by kernel_rfl))
 f20 := ⟨Try.f74.name, by decide, Try.func74.trans (congrArg some (by kernel_rfl))⟩
 f21 := ⟨Try.f75.name, by decide, Try.func75.trans (congrArg some (by kernel_rfl))⟩
 f22 := ⟨Try.f76.name, by decide, Try.func76.trans (congrArg some (by kernel_rfl))⟩
 f23 := ⟨Try.f77.name, by decide, Try.func77.trans (congrArg some (by kernel_rfl))⟩
 f24 := ⟨Try.f78.name, by decide, Try.func78.trans (congrArg some (by kernel_rfl))⟩
 f25 := ⟨Try.f79.name, by decide, Try.func79.trans (congrArg some (by kernel_rfl))⟩
 f26 := ⟨Try.f80.name, by decide, Try.func80.trans (congrArg some (by kernel_rfl))⟩
 f27 := ⟨Try.f81.name, by decide, Try.func81.trans (congrArg some (by kernel_rfl))⟩
 f28 := Try.func82.trans (congrArg some (by kernel_rfl))
 f29 := Try.func83.trans (congrArg some (by kernel_rfl))
 f46 := ⟨Try.f86.name, by decide, Try.func86.trans (congrArg some (by kernel_rfl))⟩
 f47 := Try.func87.trans (congrArg some (by kernel_rfl))
 f48 := Try.func88.trans (congrArg some (by kernel_rfl))
 f49 := ⟨Try.f89.name, by decide, Try.func89.trans (congrArg some (by kernel_rfl))⟩
 f50 := ⟨Try.f90.name, by decide, Try.func90.trans (congrArg some (by kernel_rfl))⟩
 f57 := ⟨Try.f100.name, by decide, Try.func100.trans (congrArg some (by kernel_rfl))⟩
 t0 := Try.underlying0
 a0 := Try.isAgg0
 z0 := Try.sizeOf0
 v0 := Try.zeroValue0
 t3 := Try.underlying3
 a3 := Try.isAgg3
 z3 := Try.sizeOf3
 v3 := Try.zeroValue3
 t4 := Try.underlying4
 a4 := Try.isAgg4
 z4 := Try.sizeOf4
 v4 := Try.zeroValue4
 t5 := Try.underlying5
 a5 := Try.isAgg5
 z5 := Try.sizeOf5
 v5 := Try.zeroValue5
 t9 := Try.underlying9
 a9 := Try.isAgg9
 z9 := Try.sizeOf9
 v9 := Try.zeroValue9
 t22 := Try.underlying33
 a22 := Try.isAgg33
 z22 := Try.sizeOf33
 v22 := Try.zeroValue33
 t25 := Try.underlying78
 a25 := Try.isAgg78
 z25 := Try.sizeOf78
 v25 := Try.zeroValue78
 t39 := Try.underlying107
 a39 := Try.isAgg107
 z39 := Try.sizeOf107
 v39 := Try.zeroValue107
 t45 := Try.underlying115
 a45 := Try.isAgg115
 z45 := Try.sizeOf115
 v45 := Try.zeroValue115
 t46 := Try.underlying116
 a46 := Try.isAgg116
 z46 := Try.sizeOf116
 v46 := Try.zeroValue116
 t50 := Try.underlying66
 a50 := Try.isAgg66
 z50 := Try.sizeOf66
 v50 := Try.zeroValue66
 t53 := Try.underlying122
 a53 := Try.isAgg122
 z53 := Try.sizeOf122
 v53 := Try.zeroValue122
 t55 := Try.underlying124
 a55 := Try.isAgg124
 z55 := Try.sizeOf124
 v55 := Try.zeroValue124
 t66 := Try.underlying126
 a66 := Try.isAgg126
 z66 := Try.sizeOf126
 v66 := Try.zeroValue126
 t70 := Try.underlying130
 a70 := Try.isAgg130
 z70 := Try.sizeOf130
 v70 := Try.zeroValue130
 t76 := Try.underlying138
 a76 := Try.isAgg138
 z76 := Try.sizeOf138
 v76 := Try.zeroValue138
 t77 := Try.underlying139
 a77 := Try.isAgg139
 z77 := Try.sizeOf139
 v77 := Try.zeroValue139 }
end Go.Proofs
end
section
set_option linter.unusedVariables false
set_option linter.unusedSimpArgs false
namespace Go.Proofs.Ytgdmjpehofdnpaa.SortK
open Go Go.RowKit Go.Sort Go.Proofs.YtgdmjpehofdnpaaW.PrintWords
theorem div_mul_add {k i j : Nat} (h : j < k) : (i * k + j) / k = i ∧ (i * k + j) % k = j := by
 constructor
 ·rw [Nat.mul_comm, Nat.mul_add_div (by omega), Nat.div_eq_of_lt h, Nat.add_zero]
 ·rw [Nat.mul_comm, Nat.mul_add_mod, Nat.mod_eq_of_lt h]
section
variable {α : Type} [Inhabited α] {enc : α → List Value} {k : Nat}
theorem flat_of_reps (hk : ∀ x, (enc x).length = k) {l : List α} {inner : List Value} (h : Reps (fun x cs => cs = enc x) k l inner) : inner = (flatK enc k l.toArray).toList := by
 have hs : (flatK enc k l.toArray).toList.length = l.length * k := by simp
 refine List.ext_getElem (by rw [h.1, hs]) fun t h1 h2 => ?_
 have ht : t < l.length * k := by rw [← h.1]; exact h1
 have k0 : 0 < k := by
  rcases Nat.eq_zero_or_pos k with e | e
  ·subst e; omega
  ·exact e
 have hq : t / k < l.length := Nat.div_lt_of_lt_mul (by rw [Nat.mul_comm]; exact ht)
 have hr := h.2 (t / k) l[t / k] (List.getElem?_eq_getElem hq)
 have hm : t % k < k := Nat.mod_lt _ k0
 have hd : t / k * k + t % k = t := by rw [Nat.mul_comm]; exact Nat.div_add_mod t k
 have e1 : ((inner.drop (t / k * k)).take k)[t % k]? = some inner[t] := by
  rw [List.getElem?_take_of_lt hm, List.getElem?_drop, hd, List.getElem?_eq_getElem h1]
 have e2 : (enc l[t / k])[t % k]? = some inner[t] := by rw [← hr]; exact e1
 have e3 : (flatK enc k l.toArray)[t]! = inner[t] := by
  rw [get_flatK _ _ _ _ (by simpa using ht)]
  have : l.toArray[t / k]! = l[t / k] := by simp [hq]
  rw [this, getElem!_def, e2]
 have hft : t < (flatK enc k l.toArray).size := by simpa using ht
 have e4 : (flatK enc k l.toArray).toList[t] = inner[t] := by rw [← e3, getElem!_pos (flatK enc k l.toArray) t hft]; rfl
 exact e4.symm
theorem reps_of_flat (hk : ∀ x, (enc x).length = k) (l : List α) : Reps (fun x cs => cs = enc x) k l (flatK enc k l.toArray).toList := by
 have hs : (flatK enc k l.toArray).toList.length = l.length * k := by simp
 refine ⟨hs, fun j p hj => ?_⟩
 obtain ⟨hj', hp⟩ := List.getElem?_eq_some_iff.1 hj
 have hb : j * k + k ≤ l.length * k := by rw [← Nat.succ_mul]; exact Nat.mul_le_mul_right _ hj'
 refine List.ext_getElem (by rw [List.length_take, List.length_drop, hs, hk]; omega) fun t h1 h2 => ?_
 rw [List.length_take] at h1
 have htk : t < k := by omega
 rw [List.getElem_take, List.getElem_drop, Array.getElem_toList]
 have e := get_flatK enc k l.toArray (j * k + t) (by simp; omega)
 rw [getElem!_pos _ _ (by simp; omega), (div_mul_add htk).1, (div_mul_add htk).2] at e
 rw [e]
 have : l.toArray[j]! = p := by simp [hj', hp]
 rw [this, getElem!_pos]
end
section
variable {P : Program} {α : Type} [Inhabited α]
theorem sortK_of (d : Kd α) (enc : α → List Value) (e : TypeId) (hM : ∀ w base ok x cs, d.M w base ok x cs ↔ cs = enc x) (hk : ∀ x, (enc x).length = d.sz) (f : FuncId) (fv : Value) (T : Array α → Array α)
  (hT : ∀ dd, (T dd).size = dd.size)
  (hN : ∀ (p : Option Addr) (cap : Nat) (w : World), Calls P f #[.slice p 0 cap, fv] w fun e w' => e = .returned (.tuple #[]) ∧ w' = w)
  (hS : ∀ (blk cap : Nat) (dd : Array α) (w : World), HoldsK enc d.sz w blk 0 dd → blk < w.heap.size → dd.size < 4611686018427387904 →
   Calls P f #[.slice (some ⟨blk, 0, none⟩) dd.size cap, fv] w fun e w' => e = .returned (.tuple #[]) ∧ ∃ n os, w' = sortWorldK enc d.sz w blk 0 n (T dd) os)
  (P0 : Nat → Prop) (u : Value) (l : List α) (w0 w : World) (hB : Below w0.heap.size w0 w) (ho : Kd.R d e w w0.heap.size P0 u l) (hlt : l.length < 4611686018427387904) :
  Calls P f #[u, fv] w fun en w' => en = .returned (.tuple #[]) ∧ Kd.R d e w' w0.heap.size (fun k => P0 k ∨ w.heap.size ≤ k) u (T l.toArray).toList ∧ Below w0.heap.size w0 w' ∧ Kept w w' (fun k => P0 k) := by
 obtain ⟨h0, inner, ho, hr⟩ := ho
 have hr' : Reps (fun x cs => cs = enc x) d.sz l inner := hr.imp_ (fun _ _ h => (hM _ _ _ _ _).1 h)
 have hfl := flat_of_reps hk hr'
 have fin : ∀ W, W = w → l = [] → Kd.R d e W w0.heap.size (fun k => P0 k ∨ w.heap.size ≤ k) u (T l.toArray).toList := by
  rintro W rfl rfl
  have : (T ([] : List α).toArray).toList = [] := by
   have := hT ([] : List α).toArray
   exact List.eq_nil_of_length_eq_zero (by rw [Array.length_toList, this]; rfl)
  rw [this]
  exact ⟨fun k hk => .inl (h0 k hk), inner, ho, hr.imp_ (fun _ _ h => (hM _ _ _ _ _).2 ((hM _ _ _ _ _).1 h))⟩
 rcases ho.2 with ⟨rfl, hn⟩ | ⟨g, cap, cur, rfl, hg, hh, hcap, hmax, hsz, htk⟩
 ·have hl : l = [] := List.eq_nil_of_length_eq_zero hn
  refine (hN none 0 w).mono ?_
  rintro en w' ⟨rfl, rfl⟩
  exact ⟨rfl, fin _ rfl hl, hB, Kept.refl _ _⟩
 ·have hglt : g < w.heap.size := zaw hh
  by_cases hl : l = []
  ·have e0 : l.length = 0 := by rw [hl]; rfl
   rw [e0]
   refine (hN (some ⟨g, 0, none⟩) cap w).mono ?_
   rintro en w' ⟨rfl, rfl⟩
   refine ⟨rfl, ?_, hB, Kept.refl _ _⟩
   have := fin _ rfl hl
   rw [e0] at this
   exact this
  ·have hsl : l.toArray.size = l.length := by simp
   have hH : HoldsK enc d.sz w g 0 l.toArray := by
    intro j hj
    rw [size_flatK, hsl] at hj
    refine ⟨?_, by simp [World.frozen?, hh]⟩
    have e1 : (cur.toList.take (l.length * d.sz))[j]? = some ((flatK enc d.sz l.toArray)[j]!) := by
     rw [htk, hfl, Array.getElem?_toList, getElem!_pos _ _ (by simpa using hj), Array.getElem?_eq_getElem]
    rw [List.getElem?_take_of_lt hj, Array.getElem?_toList] at e1
    simp only [World.cell?, hh, Nat.zero_add]
    simp only [Option.isSome_none, Bool.false_eq_true, if_false]
    rw [e1]
    rfl
   have hc := hS g cap l.toArray w hH hglt (by rw [hsl]; exact hlt)
   rw [hsl] at hc
   refine hc.mono ?_
   rintro en w' ⟨rfl, n, os, rfl⟩
   have hTs : (T l.toArray).toList.length = l.length := by rw [Array.length_toList, hT, hsl]
   have hheap : ∀ i, i < w.heap.size → i ≠ g → (sortWorldK enc d.sz w g 0 n (T l.toArray) os).heap[i]? = w.heap[i]? := by
    intro i hi hne
    unfold sortWorldK
    rw [heap_grow_old _ _ (by simpa [putRowK, putRow, mapBlock, Sort.ahead] using hi)]
    simp [putRowK, putRow, mapBlock, Sort.ahead, Array.getElem?_modify, Ne.symm hne]
   have hhg : (sortWorldK enc d.sz w g 0 n (T l.toArray) os).heap[g]? = some (.cells (putCells id 0 (flatK enc d.sz (T l.toArray)) cur) e (0, 0)) := by
    unfold sortWorldK
    rw [heap_grow_old _ _ (by simpa [putRowK, putRow, mapBlock, Sort.ahead] using hglt)]
    simp [putRowK, putRow, mapBlock, Sort.ahead, Array.getElem?_modify, hh, onCells]
   have hsize : w.heap.size ≤ (sortWorldK enc d.sz w g 0 n (T l.toArray) os).heap.size := by
    simp [sortWorldK, putRowK, putRow, mapBlock, Sort.ahead]
   refine ⟨rfl, ⟨fun k hk => .inl (h0 k hk), (flatK enc d.sz (T l.toArray)).toList, ⟨?_, .inr ⟨g, cap, _, ?_, hg, hhg, ?_, hmax, ?_, ?_⟩⟩, ?_⟩, ?_, hsize, ?_⟩
   ·rw [Array.length_toList, size_flatK, hTs, hT, hsl]
   ·rw [hTs]
   ·rw [hTs]; exact hcap
   ·simpa [putCells] using hsz
   ·have hfs : (flatK enc d.sz (T l.toArray)).size = l.length * d.sz := by rw [size_flatK, hT, hsl]
    have hle : l.length * d.sz ≤ cur.size := by rw [hsz]; exact Nat.mul_le_mul_right _ hcap
    rw [hTs]
    refine List.ext_getElem (by rw [Array.length_toList (xs := flatK enc d.sz (T l.toArray)), hfs, List.length_take, Array.length_toList (xs := putCells id 0 (flatK enc d.sz (T l.toArray)) cur)]; simp only [putCells, Array.size_mapIdx]; omega) fun t h1 h2 => ?_
    have ht : t < l.length * d.sz := by simpa [hfs] using h2
    rw [List.getElem_take, Array.getElem_toList, Array.getElem_toList]
    simp only [putCells, Array.getElem_mapIdx]
    rw [if_pos (by omega), Nat.sub_zero, getElem!_pos _ _ (by omega)]
    rfl
   ·have := reps_of_flat (enc := enc) hk (T l.toArray).toList
    simp only [Array.toArray_toList] at this
    exact this.imp_ (fun _ _ h => (hM _ _ _ _ _).2 h)
   ·refine ⟨hB.os, hB.tape, hB.output, Nat.le_trans hB.size hsize, fun i hi => ?_⟩
    rw [hheap i (Nat.lt_of_lt_of_le hi hB.size) (by omega)]
    exact hB.block i hi
   ·intro i hi hn
    exact hheap i hi (fun e => hn (by rw [e]; exact h0 g (by simp [Value.ownBlock])))
end
end Go.Proofs.Ytgdmjpehofdnpaa.SortK
end
section
namespace Go.Proofs.Ytgdmjpehofdnpaa.LKeys
open Go Go.RowKit Go.Shelf Go.Maps Go.Proofs.YtgdmjpehofdnpaaW.PrintWords Go.Proofs.Ytgdmjpehofdnpaa.Round Go.Proofs.Ytgdmjpehofdnpaa.RangeG Go.Proofs.Ytgdmjpehofdnpaa.Fl Go.Proofs.Ytgdmjpehofdnpaa.RangeH Go.Proofs.Ytgdmjpehofdnpaa.LrK Go.Proofs.Ytgdmjpehofdnpaa.GMap Go.Proofs.Ytgdmjpehofdnpaa.LSeq
attribute [local go_sem] Oper.semAt_some
set_option linter.unusedVariables false
set_option linter.unusedSimpArgs false
abbrev TM : TypeId := 69
theorem lrV_inj {x y : Lr} (h : lrV x = lrV y) : x = y := by
 simp only [lrV, lrA, Value.agg.injEq, Array.mk.injEq, List.cons.injEq, Value.int.injEq, true_and, and_true] at h
 obtain ⟨h1, h2, h3⟩ := h
 exact Prod.ext h1 (Prod.ext h2 h3)
def CollectedL {H : Type} (D0 : DataW H) (left : Lit → Bool) (ss : List Lr) : Prop := ss.Nodup ∧ ∀ x, lrOk x → (x ∈ ss ↔ (has D0 (lrL x) = true ∧ left (lrL x) = false))
section
variable {H : Type} {D0 : DataW H} {left : Lit → Bool} {ss : List Lr}
theorem CollectedL.start (D0 : DataW H) : CollectedL D0 (has D0) [] := ⟨List.nodup_nil, fun x _ => by cases has D0 (lrL x) <;> simp⟩
theorem CollectedL.step (h : CollectedL D0 left ss) {x : Lr} (hx : lrOk x) {y : DataW H} (hlk : left (lrL x) = true) (hat : ∀ zd, D0.atKey (lrL x) zd = y) : CollectedL D0 (fun z => left z && !z.sameKey (lrL x)) (ss ++ [x]) := by
 have hhas : has D0 (lrL x) = true := has_true_of_atKey hat
 have hnew : x ∉ ss := fun hm => by have := ((h.2 x hx).1 hm).2; rw [hlk] at this; cases this
 have hself : (lrL x).sameKey (lrL x) = true := WideAt.sameKey_self (law.key (lrL_key hx))
 refine ⟨List.nodup_append.2 ⟨h.1, by simp, fun a ha b hb => by simp at hb; subst hb; exact fun e => hnew (e ▸ ha)⟩, fun y hyo => ?_⟩
 by_cases hy : y = x
 ·subst hy
  simp [hhas, hself]
 ·have hne : (lrL y).sameKey (lrL x) = false := by
   cases e : (lrL y).sameKey (lrL x) with
   | false => rfl
   | true => exact absurd (lrL_inj hyo hx (WideAt.sameKey_eq e)) hy
  simp [h.2 y hyo, hy, hne]
end
set_option maxRecDepth 100000 in
set_option maxHeartbeats 4000000 in
theorem keysL_stops (n B b : Nat) (hn : 1 ≤ n) (M : List (Lr × Value)) (n₀ : Nat) (Ls : List Nat) (w : World) (hb : b < w.heap.size) (hS : MapAt keyL b M w) (hB : w.heap[B]? = some (.cells #[.map (some b)] TM (0, 0))) :
  SeqG n Try.prog 45 #[.pointer (some ⟨B, 0, none⟩)] encL (KeepV n₀ Ls) (fun _ => False) (fun ys => (valsL ys).Nodup ∧ ∀ x, x ∈ valsL ys ↔ x ∈ M.map (·.1)) (fun pre => True) M.length w := by
 intro L J Jx W hW hJ hJx hY h0
 have hBW := hW.same B _ hB (fun h => h) (.inr rfl)
 obtain ⟨es0, ck0, hblk0⟩ := hS.block
 have hSW : MapAt keyL b M W := hS.keep ((hW.same b _ hblk0 (fun h => h) (.inl hb)).trans hblk0.symm)
 have cB : W.cell? ⟨B, 0, none⟩ = some (.map (some b)) := zab hBW 0
 obtain ⟨h1, h2, D, hown, hsz, hhas⟩ := hSW
 have HH := Lib.hid hhas
 have H2 := Lib.hid h2
 clear hW hB hBW hS hblk0 hhas h2
 refine callsIn_of_wp Try.func45 rfl trivial ?_ rfl
 simp only [Try.ntmps45, List.size_toArray, List.length_cons, List.length_nil, Nat.reduceAdd, Nat.reduceSub, Array.replicate_succ, Array.replicate_zero, List.push_toArray, List.append_toArray, List.nil_append, List.cons_append]
 gi_wp2_with (first
  | (gi_at_range; refine wpListIn_range_own _ rfl _ TM rfl TL 4 law Try.underlying69 _ b M.length _ rfl hown ?_; intro w0 hrg0 hg0 hs0)
  | gi_in)
 go_frame
 gi_loopw [3] (fun _ wr => ∃ (left : Lit → Bool) (cnt : Nat) (ss : List LrX), wr.ranges Try.prog TL rawR b W.heap.size M.length D left cnt ∧ ss.length + cnt ≤ M.length ∧ CollectedL D left (valsL ss) ∧ J ss wr)
  (fun _ wr => wr.rangeLeft b W.heap.size)
 case atStart =>
  exact ⟨_, _, [], hrg0, by simp [hsz], CollectedL.start D, hJ _ _ _ h0 (Turn.grown hg0 (fun k e => by cases e))⟩
 case round =>
  obtain ⟨left, cnt, ss, hrg, hcs, hC, hJs⟩ := hrel
  gi_wp2_with (first
   | (gi_at_next; refine wpListIn_next_ranges _ rfl _ rfl TL law rawR lrV id (fun key kl hk => by obtain ⟨x, _, hx, _⟩ := lr_inv hk; exact ⟨x, hx⟩) (fun v _ _ => ⟨v, rfl⟩) b W.heap.size M.length _ _ _ rfl hrg ?_ ?_)
   | gi_in)
  ·intro hc0 hl0
   gi_wp2
   go_end0
   refine ⟨⟨_, rfl⟩, .inl ⟨ss, ⟨hC.1, fun x => ?_⟩, hJs⟩⟩
   constructor
   ·intro hx
    obtain ⟨q, hq, rfl⟩ := List.mem_map.1 hx
    have := ((hC.2 q.1 q.2).1 hx).1
    have e9 : has D (lrL q.1) = (GMap.look M q.1).isSome := (HH.out q.1 q.2).1
    rw [e9] at this
    exact look_mem.1 this
   ·intro hx
    obtain ⟨q, hq, rfl⟩ := List.mem_map.1 hx
    have hok := H2.out q hq
    refine (hC.2 q.1 hok).2 ⟨?_, hl0 _⟩
    have e9 : has D (lrL q.1) = (GMap.look M q.1).isSome := (HH.out q.1 hok).1
    rw [e9]
    exact look_mem.2 hx
  ·intro x1 x2 x3 c kl yd yp w2 cnt2 hkey hlk hv hat hrg2 hlt hg2 hs2 hen
   obtain ⟨x, hx⟩ : ∃ x : Lr, (x1, x2, x3) = x := ⟨_, rfl⟩
   rw [hx] at hkey hen ⊢
   clear hx
   obtain ⟨x', hwf, ex, rfl⟩ := lr_inv hkey
   obtain rfl : x = x' := lrV_inj ex
   have hJ2 : J ss w2 := hJ _ _ _ hJs (Turn.grown hg2 (fun r e => by cases e; exact .inr ⟨Nat.le_refl _, hrg.iter_walk.imp (fun o h => ⟨h.1, Obj.not_cells_of_walk h.2⟩)⟩))
   have hJ3 : J ss (w2.alloc (.cells (lrA x) TL)) := hJ _ _ _ hJ2 (Turn.alloc _)
   obtain ⟨fn, tmps, assign, body, hy, hR⟩ := hY ss ⟨x, hwf⟩ _ hJ3 (by omega)
   have hrg2a : (w2.alloc (.cells (lrA x) TL)).ranges Try.prog TL rawR b W.heap.size M.length D (fun z => left z && !z.sameKey (lrL x)) cnt2 := hrg2.of_walks (KeepsWalks.alloc _ _)
   simp only [encL, lrV, lrA] at hy hR
   have hC2 : CollectedL D (fun z => left z && !z.sameKey (lrL x)) (valsL (ss ++ [⟨x, hwf⟩])) := by
    have := hC.step hwf hlk hat
    simpa [valsL] using this
   simp only [lrV, lrA, id] at hen ⊢
   simp only [lrA] at hrg2a
   clear hs2
   gi_wp2
   refine hR.mono ?_
   rintro e W3 (⟨rfl, hJ4, hk3⟩ | ⟨rfl, hJx3⟩)
   ·gi_wp2
    have hrg3 := hrg2a.of_walks hk3.2
    go_roundw
    case rel => exact ⟨_, cnt2, ss ++ [⟨x, hwf⟩], hrg3, by simp; omega, hC2, hJ4⟩
    case measure => rw [hrg3.left_eq, hrg.left_eq]; exact hlt
   ·gi_wp2
    refine bodyPost_ret (results_none rfl _ _ _) rfl ?_
    exact ⟨⟨_, rfl⟩, .inr ⟨ss ++ [⟨x, hwf⟩], trivial, hJx3⟩⟩
theorem keysL_calls (mb : Option Nat) (w : World) : Calls Try.prog 34 #[.map mb] w fun e w' => e = .returned (.func (.func 45) #[] #[.pointer (some ⟨w.heap.size, 0, none⟩)]) ∧ w.alloc (.cells #[.map mb] TM) = w' := by
 go_enter Try.func34, Try.ntmps34
 go_wp2
 go_ret
 exact ⟨rfl, rfl⟩
end Go.Proofs.Ytgdmjpehofdnpaa.LKeys
end
section
namespace Go.Proofs.Ytgdmjpehofdnpaa.LSort
open Go Go.RowKit Go.Shelf Go.Maps Go.Sort Go.Proofs.YtgdmjpehofdnpaaW.PrintWords Go.Proofs.Ytgdmjpehofdnpaa.Round Go.Proofs.Ytgdmjpehofdnpaa.RangeG Go.Proofs.Ytgdmjpehofdnpaa.Fl Go.Proofs.Ytgdmjpehofdnpaa.RangeH Go.Proofs.Ytgdmjpehofdnpaa.LrK Go.Proofs.Ytgdmjpehofdnpaa.GMap Go.Proofs.Ytgdmjpehofdnpaa.LSeq Go.Proofs.Ytgdmjpehofdnpaa.LOrd Go.Proofs.Ytgdmjpehofdnpaa.LLex Go.Proofs.Ytgdmjpehofdnpaa.LKeys
set_option linter.unusedVariables false
set_option linter.unusedSimpArgs false
def encO (x : Lr) : List Value := (lrA x).toList
theorem ltO (x y : Lr) : ltOf cmpL x y = decide (bef x y) := by
 unfold ltOf
 by_cases h : bef x y
 ·rw [decide_eq_true h, decide_eq_true ((cmpL_lt x y).2 h)]
 ·rw [decide_eq_false h, decide_eq_false (fun g => h ((cmpL_lt x y).1 g))]
theorem swoO : SWO (ltOf cmpL) where
 irrefl x := by rw [ltO]; exact decide_eq_false (bef_irrefl x)
 trans x y z h1 h2 := by rw [ltO] at *; exact decide_eq_true (bef_trans (of_decide_eq_true h1) (of_decide_eq_true h2))
 ntrans x y z h1 h2 := by rw [ltO] at *; exact decide_eq_false (bef_ntrans (of_decide_eq_false h1) (of_decide_eq_false h2))
def sortO (l : List Lr) : List Lr := (pdq (ltOf cmpL) l.toArray 0 l.toArray.size (Lib.bitLen l.toArray.size) true true).toList
theorem sortO_perm (l : List Lr) : (sortO l).Perm l ∧ (sortO l).Pairwise (fun a b => ¬ bef b a) := by
 have hs := pdq_sorts (ltOf cmpL) swoO l.toArray 0 l.toArray.size (Lib.bitLen l.toArray.size) true true (Nat.zero_le _) (Nat.le_refl _) (.inl rfl)
 obtain ⟨⟨h1, h2, h3⟩, h4⟩ := hs
 clear h2
 unfold sortO
 generalize hd : pdq (ltOf cmpL) l.toArray 0 l.toArray.size (Lib.bitLen l.toArray.size) true true = d at *
 refine ⟨?_, ?_⟩
 ·have e1 : d.extract 0 l.toArray.size = d := by rw [← h1]; simp
  have e2 : l.toArray.extract 0 l.toArray.size = l.toArray := by simp
  rw [e1, e2] at h3
  simpa using h3
 ·rw [List.pairwise_iff_getElem]
  intro i j hi hj hij
  have hi' : i < d.size := by simpa using hi
  have hj' : j < d.size := by simpa using hj
  have := h4 i j (by omega) hij (by omega)
  rw [ltO, getElem!_pos d i hi', getElem!_pos d j hj'] at this
  simpa only [decide_eq_false_iff_not, Array.getElem_toList] using this
theorem sortO_rises {l : List Lr} (h : l.Nodup) : RisesL (sortO l) := by
 obtain ⟨hp, hs⟩ := sortO_perm l
 have hn : (sortO l).Nodup := hp.nodup_iff.2 h
 refine (hs.and hn).imp ?_
 rintro a b ⟨h1, h2⟩
 exact Decidable.not_not.1 fun g => h2 (bef_tri g h1)
theorem sortO_mem (l : List Lr) (x : Lr) : x ∈ sortO l ↔ x ∈ l := (sortO_perm l).1.mem_iff
theorem sortL_calls (P0 : Nat → Prop) (v : Value) (l : List Lr) (w0 w : World) (hB : Below w0.heap.size w0 w) (ho : Kd.R kLr TL w w0.heap.size P0 v l) (hl : l.length < 4611686018427387904) :
  Calls Try.prog 44 #[v, .func (.func 35) #[] #[]] w fun e w' => e = .returned (.tuple #[]) ∧ Kd.R kLr TL w' w0.heap.size (fun k => P0 k ∨ w.heap.size ≤ k) v (sortO l) ∧ Below w0.heap.size w0 w' ∧ Kept w w' (fun k => P0 k) := by
 have eg : ∀ args w, (callFunc 35 args).run Try.prog w = .ok (.enter 35 args) w := enters_of Try.func35 (by kernel_rfl) rfl
 exact SortK.sortK_of kLr encO TL (fun w base ok x cs => kLr_M w base ok x cs) (fun _ => rfl) 44 _
  (fun dd => pdq (ltOf cmpL) dd 0 dd.size (Lib.bitLen dd.size) true true) (fun dd => (pdq_sorts (ltOf cmpL) swoO dd 0 dd.size (Lib.bitLen dd.size) true true (Nat.zero_le _) (Nat.le_refl _) (Or.inl rfl)).1.1)
  (fun p cap w => AnyF.slices_SortFunc_none Try.YtgdmjpehofdnpaasortL p cap _ w)
  (fun blk cap dd w hH hb hs => AnyQ.slices_SortFunc_eq Try.YtgdmjpehofdnpaasortL 3 Try.isAgg39 Try.sizeOf39 encO (fun _ => rfl) (fun x v hv => by simp [encO, lrA] at hv; rcases hv with rfl | rfl | rfl <;> rfl) cmpL swoO _ #[] blk 0 cap dd w eg (fun _ _ _ _ x y => order_calls x y _) hH hb hs)
  P0 v l w0 w hB ho hl
set_option maxHeartbeats 4000000 in
theorem sortedL_calls (gf : Nat) (lb : Array Value) (heg : ∀ args w, (callFunc gf args).run Try.prog w = .ok (.enter gf args) w) (w : World)
  (S Sp : List LrX → Prop) (N : Nat) (hN : N ≤ 1000000000000) (hseq : SeqH 2 Try.prog gf lb encL (KeepU w.heap.size) S Sp N w) :
  Calls Try.prog 33 #[.func (.func gf) #[] lb, .func (.func 35) #[] #[]] w fun e w' => ∃ v xs, e = .returned v ∧ S xs ∧ xs.length ≤ N ∧ Kd.R kLr TL w' w.heap.size (fun _ => True) v (sortO (valsL xs)) ∧ Below w.heap.size w w' := by
 have hc := collectL_calls gf lb heg w S Sp N hN hseq
 go_enter Try.func33, Try.ntmps33
 go_wp2_with (first
  | (go_at_call 43; refine hc.mono ?_; rintro e w1 ⟨v, xs, rfl, h1, h2, h3, h4⟩; have hl : (valsL xs).length = xs.length := by { simp [valsL] }; have hs := sortL_calls (fun _ => True) v (valsL xs) w w1 h4 (own_R3 (by rw [hl]; exact h3) (fun _ _ => trivial)) (by omega))
  | (go_at_call 44; refine hs.mono ?_; rintro e w2 ⟨rfl, h5, h6, h7⟩))
 go_ret
 exact ⟨v, xs, rfl, h1, h2, Kd.zbn h5 (fun _ _ => trivial), h6⟩
end Go.Proofs.Ytgdmjpehofdnpaa.LSort
end
section
namespace Go.Proofs.Ytgdmjpehofdnpaa.LClone
open Go Go.RowKit Go.Shelf Go.Maps Go.Proofs.YtgdmjpehofdnpaaW.PrintWords Go.Proofs.YtgdmjpehofdnpaaW.PrintLast Go.Proofs.Ytgdmjpehofdnpaa.Round Go.Proofs.Ytgdmjpehofdnpaa.RangeG Go.Proofs.Ytgdmjpehofdnpaa.Fl Go.Proofs.Ytgdmjpehofdnpaa.LrK Go.Proofs.Ytgdmjpehofdnpaa.LSeq Go.Proofs.Ytgdmjpehofdnpaa.LLex
attribute [local go_sem] Oper.semAt_some
set_option linter.unusedVariables false
set_option linter.unusedSimpArgs false
set_option maxRecDepth 100000 in
set_option maxHeartbeats 4000000 in
theorem cloneL_calls (A : Option Addr) (n c : Nat) (l : List Lr) (w : World) (hC : Kd.C kLr w A n l) (hn : n ≤ 1000000000000) :
  Calls Try.prog 30 #[.slice A n c] w fun e w' => ∃ v, e = .returned v ∧ Kd.R kLr TL w' w.heap.size (fun _ => True) v l ∧ Below w.heap.size w w' := by
 cases A with
 | none =>
  have hl : l = [] := by
   cases l with
   | nil => rfl
   | cons a t =>
    obtain ⟨h1, h2, h3⟩ := hC
    obtain ⟨ad, e, _⟩ := h3 (by rw [← h1]; simp)
    cases e
  subst hl
  have he : ∀ W : World, (binOp .eql 33 (.slice none n c) (.slice none 0 0)).run Try.prog W = .ok (.bool true) W := fun _ => rfl
  go_enter Try.func30, Try.ntmps30
  go_wp2
  refine bodyPost_ret (results_tmp rfl _ _ _) rfl ?_
  exact ⟨_, rfl, Kd.R_nil _ _ _ _ _, Below.refl _ _⟩
 | some ad =>
  obtain ⟨W1, hW1⟩ : ∃ W1, w.alloc (.cells #[] 39) = W1 := ⟨_, rfl⟩
  have hB1 : Below w.heap.size w W1 := by rw [← hW1]; exact (Below.refl _ _).alloc (Nat.le_refl _) _
  have ho : W1.ownsRow w.heap.size TL 3 (.slice (some ⟨w.heap.size, 0, none⟩) 0 0) ([] : List Lr).length (flatL []) := by
   refine ⟨rfl, .inr ⟨w.heap.size, 0, #[], rfl, Nat.le_refl _, ?_, Nat.le_refl _, by decide, rfl, rfl⟩⟩
   rw [← hW1]
   exact zbe w _
  have hR := own_R3 (ok := fun _ => True) ho (fun _ _ => trivial)
  have hC1 := Kd.zay hC hB1
  clear ho hC
  have he : ∀ W : World, (binOp .eql 33 (.slice (some ad) n c) (.slice none 0 0)).run Try.prog W = .ok (.bool false) W := fun _ => rfl
  go_enter Try.func30, Try.ntmps30
  go_wp2_with (at_builtin; (refine Kd.R_append_rows kLr (w0 := w) w.heap.size rfl (.tmp 5) (.tmp 6) 33 TL (.agg #[.int .i64 0, .int .i64 0, .int .i64 0]) 24 rfl Try.underlying33 infoLr rfl (by decide) (by decide) _ [] l (some ad) n c (fun _ => True) (fun _ => False) rfl rfl hR hC1 (fun x cs h => (kLr_M _ _ _ _ _).2 (by obtain ⟨_, _, rfl, rfl, ⟨_, _, rfl, rfl, rfl⟩⟩ := h; rfl)) (fun _ h => h.elim) (fun _ _ => trivial) hB1 (by have := hB1.size; omega) (by simp; omega) ?_); intro v6 W6 R6 hb6 hg6 _)
  refine bodyPost_ret (results_tmp rfl _ _ _) rfl ?_
  exact ⟨_, rfl, R6, hb6⟩
end Go.Proofs.Ytgdmjpehofdnpaa.LClone
end
section
namespace Go.Proofs.Ytgdmjpehofdnpaa.LClos
open Go Go.RowKit Go.Shelf Go.Maps Go.Proofs.YtgdmjpehofdnpaaW.PrintWords Go.Proofs.YtgdmjpehofdnpaaW.PrintLast Go.Proofs.Ytgdmjpehofdnpaa.Round Go.Proofs.Ytgdmjpehofdnpaa.RangeG Go.Proofs.Ytgdmjpehofdnpaa.RangeH Go.Proofs.Ytgdmjpehofdnpaa.Fl Go.Proofs.Ytgdmjpehofdnpaa.Grow Go.Proofs.Ytgdmjpehofdnpaa.Deri Go.Proofs.Ytgdmjpehofdnpaa.Seqs Go.Proofs.Ytgdmjpehofdnpaa.LrK Go.Proofs.Ytgdmjpehofdnpaa.GMap Go.Proofs.Ytgdmjpehofdnpaa.LSeq Go.Proofs.Ytgdmjpehofdnpaa.LLex Go.Proofs.Ytgdmjpehofdnpaa.LKeys Go.Proofs.Ytgdmjpehofdnpaa.LClone Go.Proofs.Ytgdmjpehofdnpaa.LSort Go.Proofs.Ytgdmjpehofdnpaa.LFlat Go.Proofs.Ytgdmjpehofdnpaa.LLooks
attribute [local go_sem] Oper.semAt_some
set_option linter.unusedVariables false
set_option linter.unusedSimpArgs false
theorem start_round {P : Program} {ops : Array Oper} {Q : Exit → Act → World → Prop} {S : World → Prop} {ds : List Nat} {l0 m id n : Nat} {a : Act} {w : World} (l : Array Bool) (hm : P.follows .mixedOrders = true) (hd : deferless ops = true) (hn : ops.size = n) (hl : Array.replicate n false = l) (hS : S w.drew)
  (h : S w.drew → wpAnyLast P .any ops (Qn Q) S ds n l a w.drew) : (Code.region id ops true).wpIn (Fence.wide.inRound l0) m P Q a w := by
 subst hn
 subst hl
 exact wpIn_region_round hm hd (wpAny_of_last _ _ _ _ (h hS))
theorem looks_calls (sb : Nat) (x : Lr) (w : World) : Calls Try.prog 32 #[.pointer (some ⟨sb, 0, none⟩), lrV x] w fun e w' => e = .returned (.func (.func 42) #[] #[.pointer (some ⟨w.heap.size, 0, none⟩), .pointer (some ⟨w.heap.size + 1, 0, none⟩)]) ∧ (w.alloc (.cells #[.pointer (some ⟨sb, 0, none⟩)] 47)).alloc (.cells #[.int .i64 x.1, .int .i64 x.2.1, .int .i64 x.2.2] TL) = w' := by
 simp only [lrV, lrA]
 go_enter Try.func32, Try.ntmps32
 go_wp2
 go_ret
 exact ⟨rfl, rfl⟩
theorem atLr {w : World} {A : Option Addr} {n : Nat} {xs : List Lr} (h : Kd.C kLr w A n xs) (k : Nat) (hk : k < n) :
  ∃ ad x, A = some ad ∧ xs[k]? = some x ∧ w.cell? (ad.add (k * 3)) = some (.int .i64 x.1) ∧ w.cell? ⟨(ad.add (k * 3)).block, (ad.add (k * 3)).off + 1, none⟩ = some (.int .i64 x.2.1) ∧ w.cell? ⟨(ad.add (k * 3)).block, (ad.add (k * 3)).off + 2, none⟩ = some (.int .i64 x.2.2) := by
 obtain ⟨h1, h2, h3⟩ := h
 obtain ⟨ad, e, hc⟩ := h3 (by omega)
 have hk' : k < xs.length := by omega
 obtain ⟨c, hl, hK, hcell⟩ := hc k _ (List.getElem?_eq_getElem hk')
 obtain ⟨_, _, rfl, rfl, ⟨_, _, rfl, rfl, rfl⟩⟩ := hK
 have hc0 : ∀ j u, [Value.int .i64 (xs[k]).1, .int .i64 (xs[k]).2.1, .int .i64 (xs[k]).2.2][j]? = some u → w.cell? (ad.add (k * 3 + j)) = some u := hcell
 exact ⟨ad, xs[k], e, List.getElem?_eq_getElem hk', hc0 0 _ rfl, by rw [← zbr _ _ 1 (by omega)]; exact hc0 1 _ rfl, by rw [← zbr _ _ 2 (by omega)]; exact hc0 2 _ rfl⟩
def rowsV (ps : List P) (s : Int) (looks : List Int) : List Lr := looks.flatMap fun t => (ofV ps s).map fun p => (p, 0, t)
def newV (n0 : Nat) (ps : List P) (S : List Lr) (x : Lr) : Bool := !decide (x ∈ S) && fitV n0 ps x
def putS (n0 : Nat) (ps : List P) (S : List Lr) (x : Lr) : List Lr := if newV n0 ps S x = true then S ++ [x] else S
def pushV (n0 : Nat) (ps : List P) (em : List Bool) (Ss : List (List Int)) (S : List Lr) (x : Lr) : List Lr :=
 if newV n0 ps S x = true then
  match nextV n0 ps x with
  | none => []
  | some s => if s < n0 then [] else rowsV ps s (looksV em Ss x.2.2 ((rightV n0 ps x.1).drop (x.2.1.toNat + 1)))
 else []
def closV (n0 : Nat) (ps : List P) (em : List Bool) (Ss : List (List Int)) : Nat → List Lr → List Lr → Option (List Lr)
 | 0, _, _ => none
 | k + 1, S, T => if T.length + S.length ≤ 1000000000 then (match T.getLast? with | none => some S | some x => closV n0 ps em Ss k (putS n0 ps S x) (T.dropLast ++ pushV n0 ps em Ss S x)) else none
theorem closV_step {n0 : Nat} {ps : List P} {em : List Bool} {Ss : List (List Int)} {k : Nat} {S T0 r : List Lr} {x : Lr} (h : closV n0 ps em Ss k S (T0 ++ [x]) = some r) :
  ∃ m, k = m + 1 ∧ (T0 ++ [x]).length ≤ 1000000000 ∧ closV n0 ps em Ss m (putS n0 ps S x) (T0 ++ pushV n0 ps em Ss S x) = some r := by
 cases k with
 | zero => cases h
 | succ m =>
  unfold closV at h
  split at h
  ·rename_i h1
   simp only [List.getLast?_concat, List.dropLast_concat] at h
   exact ⟨m, rfl, by omega, h⟩
  ·cases h
theorem closV_nil {n0 : Nat} {ps : List P} {em : List Bool} {Ss : List (List Int)} {k : Nat} {S r : List Lr} (h : closV n0 ps em Ss k S [] = some r) : r = S ∧ S.length ≤ 1000000000 := by
 cases k with
 | zero => cases h
 | succ m =>
  unfold closV at h
  split at h
  ·rename_i h1
   exact ⟨(Option.some.inj h).symm, by omega⟩
  ·cases h
theorem closV_len {n0 : Nat} {ps : List P} {em : List Bool} {Ss : List (List Int)} {k : Nat} {S T r : List Lr} (h : closV n0 ps em Ss k S T = some r) : T.length ≤ 1000000000 := by
 cases k with
 | zero => cases h
 | succ m =>
  unfold closV at h
  split at h
  ·omega
  ·cases h
theorem closV_len2 {n0 : Nat} {ps : List P} {em : List Bool} {Ss : List (List Int)} {k : Nat} {S T r : List Lr} (h : closV n0 ps em Ss k S T = some r) : S.length ≤ 1000000000 := by
 cases k with
 | zero => cases h
 | succ m =>
  unfold closV at h
  split at h
  ·omega
  ·cases h
theorem look_true (S : List Lr) (x : Lr) : GMap.look (S.map fun x => (x, Value.bool true)) x = if x ∈ S then some (Value.bool true) else none := by
 induction S with
 | nil => rfl
 | cons a t ih =>
  simp only [List.map_cons, GMap.look, ih, List.mem_cons]
  by_cases h : a = x
  ·rw [if_pos h, if_pos (.inl h.symm)]
  ·rw [if_neg h]
   by_cases h2 : x ∈ t
   ·rw [if_pos h2, if_pos (.inr h2)]
   ·rw [if_neg h2, if_neg (fun g => g.elim (fun e => h e.symm) h2)]
theorem put_true (S : List Lr) (x : Lr) (h : x ∉ S) : putM (S.map fun x => (x, Value.bool true)) x (.bool true) = (S ++ [x]).map fun x => (x, Value.bool true) := by
 induction S with
 | nil => rfl
 | cons a t ih =>
  simp only [List.mem_cons, not_or] at h
  simp only [List.map_cons, putM, List.cons_append]
  rw [if_neg (fun e => h.1 e.symm), ih h.2]
theorem fit_ok {n0 : Nat} {ps : List P} {x : Lr} (h : fitV n0 ps x = true) (h1 : ps.length ≤ 1000000) (h2 : n0 ≤ 1000000) (h3 : (rightV n0 ps x.1).length ≤ 1000000) : lrOk x := by
 obtain ⟨a, b, c, d, e, f⟩ := fitV_iff.1 h
 refine ⟨?_, ?_, ?_⟩ <;> (simp [Lit.wf, IntKind.min, IntKind.max, IntKind.bits, IntKind.signed]; omega)
theorem flat_take : ∀ (l : List Lr) (m : Nat), flatL (l.take m) = (flatL l).take (m * 3)
 | [], m => by simp [flatL]
 | a :: t, 0 => by simp [flatL]
 | a :: t, q + 1 => by
  have ih := flat_take t q
  rw [List.take_succ_cons]
  show (lrA a).toList ++ flatL (t.take q) = ((lrA a).toList ++ flatL t).take ((q + 1) * 3)
  rw [ih, show (q + 1) * 3 = q * 3 + 1 + 1 + 1 by omega]
  simp only [lrA, List.cons_append, List.nil_append, List.take_succ_cons]
theorem own_pre {w : World} {base n m c : Nat} {A : Option Addr} {l : List Lr} (h : w.ownsRow base TL 3 (.slice A n c) n (flatL l)) (hm : m ≤ n) (hA : A ≠ none) : w.ownsRow base TL 3 (.slice A m c) m (flatL (l.take m)) := by
 have hfl := flatL_len l
 have hl : n = l.length := by have := h.1; omega
 subst hl
 refine ⟨by rw [flatL_len, List.length_take]; omega, ?_⟩
 rcases h.2 with ⟨hv, _⟩ | ⟨g, cap, cur, hv, hg, hh, h1, h2, h3, h4⟩
 ·injection hv with e; exact absurd e hA
 ·injection hv with e1 e2 e3
  refine .inr ⟨g, cap, cur, by rw [e1, e3], hg, hh, by omega, h2, h3, ?_⟩
  rw [flat_take, ← h4, List.take_take]
  congr 1
  omega
theorem snoc {α : Type} (T : List α) : T = [] ∨ ∃ T0 x, T = T0 ++ [x] := by
 rcases List.eq_nil_or_concat T with h | ⟨a, b, h⟩
 ·exact .inl h
 ·exact .inr ⟨a, b, by rw [h, List.concat_eq_append]⟩
def insL (x : Lr) : List Lr → List Lr
 | [] => [x]
 | a :: t => if bef x a then x :: a :: t else a :: insL x t
def srtL : List Lr → List Lr
 | [] => []
 | a :: t => insL a (srtL t)
theorem insL_mem (x y : Lr) : ∀ l : List Lr, y ∈ insL x l ↔ y = x ∨ y ∈ l
 | [] => by simp [insL]
 | a :: t => by
  have ih := insL_mem x y t
  unfold insL
  split
  ·simp
  ·rw [List.mem_cons, ih, List.mem_cons]
   constructor
   ·rintro (h | h | h)
    ·exact .inr (.inl h)
    ·exact .inl h
    ·exact .inr (.inr h)
   ·rintro (h | h | h)
    ·exact .inr (.inl h)
    ·exact .inl h
    ·exact .inr (.inr h)
theorem insL_len (x : Lr) : ∀ l : List Lr, (insL x l).length = l.length + 1
 | [] => rfl
 | a :: t => by
  have ih := insL_len x t
  unfold insL
  split
  ·rfl
  ·rw [List.length_cons, ih, List.length_cons]
theorem insL_rises (x : Lr) : ∀ {l : List Lr}, RisesL l → x ∉ l → RisesL (insL x l)
 | [], _, _ => List.pairwise_singleton _ _
 | a :: t, h, hx => by
  obtain ⟨h1, h2⟩ := List.pairwise_cons.1 h
  unfold insL
  split
  ·rename_i c
   refine List.pairwise_cons.2 ⟨fun y hy => ?_, h⟩
   rcases List.mem_cons.1 hy with rfl | hy
   ·exact c
   ·exact bef_trans c (h1 y hy)
  ·rename_i c
   refine List.pairwise_cons.2 ⟨fun y hy => ?_, insL_rises x h2 (fun hm => hx (by simp [hm]))⟩
   rcases (insL_mem x y t).1 hy with rfl | hy
   ·exact Decidable.not_not.1 fun g => hx (by rw [bef_tri c g]; simp)
   ·exact h1 y hy
theorem srtL_mem (y : Lr) : ∀ l : List Lr, y ∈ srtL l ↔ y ∈ l
 | [] => by simp [srtL]
 | a :: t => by rw [srtL, insL_mem, srtL_mem y t, List.mem_cons]
theorem srtL_len : ∀ l : List Lr, (srtL l).length = l.length
 | [] => rfl
 | a :: t => by rw [srtL, insL_len, srtL_len t, List.length_cons]
theorem srtL_rises : ∀ {l : List Lr}, l.Nodup → RisesL (srtL l)
 | [], _ => List.Pairwise.nil
 | a :: t, h => by
  obtain ⟨h1, h2⟩ := List.nodup_cons.1 h
  exact insL_rises a (srtL_rises h2) (fun hm => h1 ((srtL_mem a t).1 hm))
structure CS (G : SG) (w : World) (mb b6 : Nat) (S T : List Lr) (X : World) : Prop where
 below : Below w.heap.size w X
 bx : X.heap[w.heap.size]? = some (.cells #[.pointer (some ⟨G.sb, 0, none⟩)] 47 (0, 0))
 map : MapAt keyL mb (S.map fun x => (x, Value.bool true)) X
 todo : ∃ A c, Boxed X b6 33 (.slice A T.length c) ∧ X.ownsRow w.heap.size TL 3 (.slice A T.length c) T.length (flatL T)
 tok : ∀ x ∈ T, lrOk x
theorem CS.turn {G : SG} {w : World} {mb b6 : Nat} {S T : List Lr} {X X' : World} {L : Nat} (h : CS G w mb b6 S T X) (ht : Turn L (fun _ => False) X X') (hL : mb < L) (hw : w.heap.size ≤ L) : CS G w mb b6 S T X' := by
 obtain ⟨A, c, h1, h2⟩ := h.todo
 obtain ⟨es, cl, ho⟩ := h.map.block
 exact ⟨zb0 h.below ht (Nat.le_refl _) hw (fun k hk => hk.elim), zcb h.bx ht (fun h => h), h.map.keep ((ht.same mb _ ho (fun h => h) (.inl hL)).trans ho.symm), ⟨A, c, Boxed.turn h1 ht (fun h => h), row_turn h2 ht (fun _ _ h => h)⟩, h.tok⟩
theorem CS.keep {G : SG} {w : World} {mb b6 : Nat} {S T : List Lr} {X X' : World} (h : CS G w mb b6 S T X) (hb : Below X.heap.size X X') : CS G w mb b6 S T X' := by
 obtain ⟨A, c, h1, h2⟩ := h.todo
 exact ⟨h.below.trans (hb.mono h.below.size), zaq h.bx hb, h.map.keep (hb.block _ h.map.lt), ⟨A, c, zaq h1 hb, row_turn h2 (Turn.below (L := 0) (T := fun _ => False) hb) (fun _ _ h => h)⟩, h.tok⟩
theorem map_apart {w X : World} {mb base n m : Nat} {e : TypeId} {v : Value} {xs : List Value} (h : X.ownsRow base e n v m xs) {o : Obj} (ho : X.heap[mb]? = some o) (hc : o.isCells = false) : v.ownBlock ≠ some mb := by
 intro e'
 rcases h.2 with ⟨rfl, _⟩ | ⟨g, cap, cur, rfl, _, hh, _⟩
 ·simp [Value.ownBlock] at e'
 ·obtain rfl : g = mb := by simpa [Value.ownBlock] using e'
  rw [hh] at ho
  cases ho
  cases hc
theorem CS.mapped {G : SG} {w : World} {mb b6 : Nat} {S S' T : List Lr} {X X' : World} (h : CS G w mb b6 S T X) (hm : w.heap.size < mb) (hm6 : mb < b6) (hg : X.grownBy X' (some mb)) (hmap : MapAt keyL mb (S'.map fun x => (x, Value.bool true)) X') : CS G w mb b6 S' T X' := by
 obtain ⟨A, c, h1, h2⟩ := h.todo
 obtain ⟨es, cl, ho⟩ := h.map.block
 exact ⟨h.below.grown hg h.below.size (fun k hk => by cases hk; omega), (hg.block _ (zaw h.bx) (fun e => by injection e with e; omega)).trans h.bx, hmap,
  ⟨A, c, h1.kept hg (fun e => by injection e with e; omega), h2.kept hg (.inr (map_apart (w := w) h2 ho rfl))⟩, h.tok⟩
structure RS (G : SG) (w : World) (mb b6 b2 b8 n9 : Nat) (s : Int) (Ds : List Nat) (S T : List Lr) (X : World) : Prop where
 cs : CS G w mb b6 S T X
 ap : ∃ v, Boxed X b6 33 v ∧ v.ownBlock ≠ some b2
 sym : Boxed X b8 3 (.int .i64 s)
 ds : ∀ D ∈ Ds, X.heap[D]? = some (.deferred (some []))
 sz : n9 ≤ X.heap.size
theorem RS.turn {G : SG} {w : World} {mb b6 b2 b8 n9 : Nat} {s : Int} {Ds : List Nat} {S T : List Lr} {X X' : World} {L : Nat} (h : RS G w mb b6 b2 b8 n9 s Ds S T X) (ht : Turn L (fun _ => False) X X') (hL : mb < L) (hw : w.heap.size ≤ L) (hD : ∀ D ∈ Ds, D < L) : RS G w mb b6 b2 b8 n9 s Ds S T X' := by
 obtain ⟨v, h1, h2⟩ := h.ap
 exact ⟨h.cs.turn ht hL hw, ⟨v, Boxed.turn h1 ht (fun h => h), h2⟩, Boxed.turn h.sym ht (fun h => h), fun D hd => ht.same D _ (h.ds D hd) (fun h => h) (.inl (hD D hd)), Nat.le_trans h.sz ht.size⟩
theorem RS.keep {G : SG} {w : World} {mb b6 b2 b8 n9 : Nat} {s : Int} {Ds : List Nat} {S T : List Lr} {X X' : World} (h : RS G w mb b6 b2 b8 n9 s Ds S T X) (hb : Below X.heap.size X X') : RS G w mb b6 b2 b8 n9 s Ds S T X' := by
 obtain ⟨v, h1, h2⟩ := h.ap
 exact ⟨h.cs.keep hb, ⟨v, zaq h1 hb, h2⟩, zaq h.sym hb, fun D hd => zaq (h.ds D hd) hb, Nat.le_trans h.sz hb.size⟩
theorem RS.push {G : SG} {w : World} {mb b6 b2 b8 n9 : Nat} {s : Int} {Ds : List Nat} {S T : List Lr} {X w1 : World} {A : Option Addr} {c : Nat} {z : Lr} {v' : Value} (h : RS G w mb b6 b2 b8 n9 s Ds S T X) (hbx : Boxed X b6 33 (.slice A T.length c)) (hrow : X.ownsRow w.heap.size TL 3 (.slice A T.length c) T.length (flatL T))
  (hown' : w1.ownsRow w.heap.size TL 3 v' (T.length + 1) (flatL T ++ [.int .i64 z.1, .int .i64 z.2.1, .int .i64 z.2.2])) (hg : (X.alloc (.cells #[.int .i64 z.1, .int .i64 z.2.1, .int .i64 z.2.2] TL)).grownBy w1 (Value.slice A T.length c).ownBlock)
  (hat : v'.ownBlock = (Value.slice A T.length c).ownBlock ∨ v'.ownBlock = some (X.alloc (.cells #[.int .i64 z.1, .int .i64 z.2.1, .int .i64 z.2.2] TL)).heap.size) (hm : w.heap.size < mb) (hm6 : mb < b6) (h26 : b2 ≠ b6) (h2 : b2 < X.heap.size) (hz : lrOk z) :
  Boxed w1 b6 33 (.slice A T.length c) ∧ RS G w mb b6 b2 b8 n9 s Ds S (T ++ [z]) (w1.setCell ⟨b6, 0, none⟩ v') ∧ KeepsFrom 0 X (w1.setCell ⟨b6, 0, none⟩ v') ∧ KeepQ w.heap.size b2 X (w1.setCell ⟨b6, 0, none⟩ v') := by
 obtain ⟨v, g1, g2⟩ := h.ap
 obtain rfl : v = .slice A T.length c := by
  have := g1.symm.trans hbx
  injection this with this
  injection this with this
  simpa using this
 have hwX := h.cs.below.size
 obtain ⟨tmp, htmp⟩ : ∃ o, Obj.cells #[.int .i64 z.1, .int .i64 z.2.1, .int .i64 z.2.2] TL (0, 0) = o := ⟨_, rfl⟩
 rw [htmp] at hg hat
 have hX1 : (X.alloc tmp).heap.size = X.heap.size + 1 := by simp
 have hn6 : some b6 ≠ (Value.slice A T.length c).ownBlock := own_ne hrow hbx (by decide)
 have hb1 : Boxed w1 b6 33 (.slice A T.length c) := (hbx.alloc tmp).kept hg hn6
 have hn6' : v'.ownBlock ≠ some b6 := fun e => own_ne hown' hb1 (by decide) e.symm
 have hsetB := grownBy_setCell' w1 b6 v'
 obtain ⟨W', hW'⟩ : ∃ X, w1.setCell ⟨b6, 0, none⟩ v' = X := ⟨_, rfl⟩
 have hsame : ∀ (j : Nat) (o : Obj), X.heap[j]? = some o → j ≠ b6 → some j ≠ (Value.slice A T.length c).ownBlock → W'.heap[j]? = some o := by
  intro j o hj h6 ho
  have k1 := zah hj tmp
  have k2 := (hg.block j (Array.getElem?_eq_some_iff.1 k1).1 ho).trans k1
  rw [← hW']
  exact (Below.heap_setCell w1 ⟨b6, 0, none⟩ v' j h6).trans k2
 have hrowb : ∀ j, (Value.slice A T.length c).ownBlock = some j → w.heap.size ≤ j ∧ ∃ cs, X.heap[j]? = some (.cells cs TL (0, 0)) := by
  intro j hj
  rcases hrow.2 with ⟨hv, _⟩ | ⟨g, cap, cur, hv, hb, hh, _⟩
  ·rw [hv] at hj; simp [Value.ownBlock] at hj
  ·rw [hv] at hj
   obtain rfl : g = j := by simpa [Value.ownBlock] using hj
   exact ⟨hb, cur, hh⟩
 have hnc : ∀ (j : Nat) (o : Obj), X.heap[j]? = some o → o.isCells = false → W'.heap[j]? = some o := fun j o hj hc => hsame j o hj (fun e => by subst e; rw [hbx] at hj; cases hj; cases hc) (fun e => by obtain ⟨_, cs, hh⟩ := hrowb j e.symm; rw [hj] at hh; cases hh; cases hc)
 have hct : ∀ (j : Nat) cs t fr, X.heap[j]? = some (.cells cs t fr) → t ≠ TL → t ≠ 33 → W'.heap[j]? = some (.cells cs t fr) := fun j cs t fr hj h1 h2 => hsame j _ hj (fun e => by subst e; rw [hbx] at hj; cases hj; exact h2 rfl) (fun e => by obtain ⟨_, cs', hh⟩ := hrowb j e.symm; rw [hj] at hh; cases hh; exact h1 rfl)
 have hsz : X.heap.size ≤ W'.heap.size := by
  rw [← hW']
  have := hg.size
  simp at this ⊢
  omega
 have hbw : Below w.heap.size X W' := by
  rw [← hW']
  refine Below.setCell (p := ⟨b6, 0, none⟩) ?_ (by show w.heap.size ≤ b6; omega) _
  exact ((Below.refl w.heap.size X).alloc hwX tmp).grown hg (by omega) (fun k hk => (hrowb k hk).1)
 obtain ⟨es, cl, hmo⟩ := h.cs.map.block
 have hb' : Boxed W' b6 33 v' := by rw [← hW']; exact hb1.set v'
 have ho' : W'.ownsRow w.heap.size TL 3 v' (T.length + 1) (flatL T ++ [.int .i64 z.1, .int .i64 z.2.1, .int .i64 z.2.2]) := by rw [← hW']; exact hown'.kept hsetB (.inr hn6')
 have hap' : v'.ownBlock ≠ some b2 := by
  rcases hat with e | e
  ·rw [e]; exact g2
  ·rw [e]; intro e'; injection e' with e'; omega
 obtain ⟨g', c', rfl⟩ := ownsRow_succ ho'
 have hl : (T ++ [z]).length = T.length + 1 := by simp
 rw [hW']
 refine ⟨hb1, ⟨⟨h.cs.below.trans hbw, hct _ _ _ _ h.cs.bx (by decide) (by decide), h.cs.map.keep ((hnc mb _ hmo rfl).trans hmo.symm), ⟨_, c', by rw [hl]; exact hb', by rw [hl, flatL_app]; exact ho'⟩, fun y hy => ?_⟩, ⟨_, hb', hap'⟩, hct _ _ _ _ h.sym (by decide) (by decide), fun D hD => hnc D _ (h.ds D hD) rfl, Nat.le_trans h.sz hsz⟩,
  ⟨hsz, fun j o _ hj hc => hnc j o hj hc⟩, ⟨⟨hbw, fun b hb hlt => ?_⟩, hct⟩⟩
 ·rcases List.mem_append.1 hy with hy | hy
  ·exact h.cs.tok y hy
  ·obtain rfl := List.mem_singleton.1 hy
   exact hz
 ·obtain rfl := List.mem_singleton.1 hb
  exact (hsame b _ (Array.getElem?_eq_getElem hlt) h26 (fun e => g2 e.symm)).trans (Array.getElem?_eq_getElem hlt).symm
theorem own_lt {w : World} {base n k m : Nat} {e : TypeId} {v : Value} {xs : List Value} (h : w.ownsRow base e n v m xs) (hk : v.ownBlock = some k) : k < w.heap.size := by
 rcases h.2 with ⟨hv, _⟩ | ⟨g, cap, cur, hv, _, hh, _⟩
 ·rw [hv] at hk; simp [Value.ownBlock] at hk
 ·rw [hv] at hk
  obtain rfl : g = k := by simpa [Value.ownBlock] using hk
  exact zaw hh
theorem rowsV_len (ps : List P) (s : Int) (l : List Int) : (rowsV ps s l).length = l.length * (ofV ps s).length := by
 induction l with
 | nil => simp [rowsV]
 | cons a t ih =>
  simp only [rowsV, List.flatMap_cons, List.length_append, List.length_map, List.length_cons] at *
  rw [ih, Nat.succ_mul, Nat.add_comm]
theorem rowsV_snoc (ps : List P) (s : Int) (l : List Int) (t : Int) : rowsV ps s (l ++ [t]) = rowsV ps s l ++ (ofV ps s).map fun p => (p, 0, t) := by simp [rowsV, List.flatMap_append]
theorem ofF_mem (s : Int) : ∀ (i : Nat) (l : List P) (p : Int), p ∈ ofF s i l → 0 ≤ p ∧ p < (i + l.length : Nat)
 | _, [], p, h => by cases h
 | i, q :: t, p, h => by
  have ih := ofF_mem s (i + 1) t p
  unfold ofF at h
  split at h
  ·rcases List.mem_cons.1 h with rfl | h
   ·simp; omega
   ·have := ih h; simp at this ⊢; omega
  ·have := ih h; simp at this ⊢; omega
theorem atInt {w : World} {A : Option Addr} {n : Nat} {l : List Int} (h : Kd.C (Kd.int .i64) w A n l) (k : Nat) (hk : k < n) : ∃ ad x, A = some ad ∧ l[k]? = some x ∧ w.cell? (ad.add k) = some (.int .i64 x) := by
 obtain ⟨h1, h2, h3⟩ := h
 obtain ⟨ad, e, hc⟩ := h3 (by omega)
 have hk' : k < l.length := by omega
 obtain ⟨c, _, rfl, hcell⟩ := hc k _ (List.getElem?_eq_getElem hk')
 have := hcell 0 _ rfl
 rw [show k * (Kd.int .i64).sz + 0 = k from Nat.mul_one k] at this
 exact ⟨ad, _, e, List.getElem?_eq_getElem hk', this⟩
variable {n : Nat} {P : Program}
theorem rangeG1 {α : Type} {g : Operand} {p q : Tmp} {assign body : Code} {Q : Exit → Act → World → Prop} {a : Act} {w : World}
  {gf : Nat} {lb : Array Value} (hg : a.eval g = .func (.func gf) #[] lb) (eg : ∀ args w, (callFunc gf args).run P w = .ok (.enter gf args) w)
  {enc1 : α → Value} {Kp : World → World → Prop} {S Sp : List α → Prop} {N : Nat} (hseq : SeqG (n - 1) P gf lb (fun x => #[enc1 x]) Kp (fun _ => False) S Sp N w)
  (hKr : ∀ A, Kp A A) (hKt : ∀ {A B C : World}, Kp A B → Kp B C → Kp A C) (hKb : ∀ (W : World) (l : Nat) (o o' : Obj), w.heap.size ≤ l → W.heap[l]? = some o → o.isCells = false → o.isWalk = false → Kp W (W.putObj l o'))
  (I : List α → World → Prop) (hI : Abid w.heap.size (fun _ => False) I) (h0 : I [] w)
  (hassign : ∀ (l : Nat) (x : α) (W : World) (K : Act → World → Prop), K { tmps := (a.tmps.setIfInBounds p (enc1 x)).setIfInBounds q (enc1 x), defers := [] } W → assign.wpIn (Fence.wide.inRound l) (n - 1 - 1) P (Exit.then K (fun _ _ _ => False)) { tmps := a.tmps.setIfInBounds p (enc1 x), defers := [] } W)
  (hbody : ∀ (l : Nat) (pre : List α) (x : α) (W : World), w.heap.size ≤ l → I pre W → pre.length < N → body.wpIn (Fence.wide.inRound l) (n - 1 - 1) P (ownPostG w.heap.size Kp I (fun _ _ _ => False) (pre ++ [x]) W) { tmps := (a.tmps.setIfInBounds p (enc1 x)).setIfInBounds q (enc1 x), defers := [] } W)
  (hdone : ∀ (D : Nat) (xs : List α) (W : World), w.heap.size ≤ D → S xs → I xs W → W.heap[D]? = some (.deferred (some [])) → Q .normal { a with defers := { target := .collected D, args := #[] } :: a.defers } W) :
  (Code.rangeFunc g #[p] assign body).wpIn Fence.wide n P Q a w := by
 refine rangeG hg eg hseq (fun k hk => hk.elim) hKt hKb (Turn.refl _ _ _) (fun _ => rfl) I (fun _ _ _ => False) hI (fun c s W W' h _ => h) h0
  (fun x a' _ => a' = { tmps := (a.tmps.setIfInBounds p (enc1 x)).setIfInBounds q (enc1 x), defers := [] }) (fun x a' s W W' h _ => h) ?_ ?_ hdone (fun D c pre W _ _ h _ => h.elim)
 ·intro l pre x W K hi hK
  have e : (#[p].zip #[enc1 x]).foldl (fun t (pv : Tmp × Value) => t.setIfInBounds pv.1 pv.2) a.tmps = a.tmps.setIfInBounds p (enc1 x) := by simp
  have := hassign l x W K (hK _ _ (KeepsFrom.refl _ _) (hKr _) hi rfl)
  rw [← e] at this
  exact this
 ·rintro l pre x a' W hl _ hi rfl hN
  exact hbody l pre x W hl hi hN
def frameL (G : SG) (w : World) (b6 : Nat) (l : List Lr) (A : Option Addr) (c : Nat) (A1 : Option Addr) (c1 : Nat) (y : Nat → Value) : Array Value := #[.pointer (some ⟨G.sb, 0, none⟩), .slice A l.length c, .pointer (some ⟨w.heap.size, 0, none⟩), undef, .slice none 0 0, .map (some (w.heap.size + 1)), .pointer (some ⟨b6, 0, none⟩), y 7, y 8, y 9, y 10, y 11, y 12, .map (some (w.heap.size + 1)), .slice A l.length c, .slice A1 l.length c1, y 16, y 17, y 18, y 19, y 20, y 21, y 22, y 23, y 24, y 25, y 26, y 27, y 28, y 29, y 30, y 31, y 32, y 33, y 34, y 35, y 36, y 37, y 38, y 39, y 40, y 41, y 42, y 43, y 44, y 45, y 46, y 47, y 48, y 49, y 50, y 51, y 52, y 53, y 54, y 55, y 56, y 57, y 58, y 59, y 60, y 61, y 62, y 63, y 64, y 65, y 66, y 67, y 68, y 69, y 70, y 71, y 72, y 73, y 74, y 75, y 76, y 77, y 78, y 79, y 80, y 81, y 82, y 83, y 84, y 85, y 86, undef, undef, undef]
def LI (G : SG) (em : List Bool) (Ss : List (List Int)) (w : World) (b6 : Nat) (l : List Lr) (A : Option Addr) (c : Nat) (A1 : Option Addr) (c1 : Nat) (r : List Lr) (k : Nat) (a : Act) (W : World) : Prop :=
 ∃ (S T : List Lr) (Ds : List Nat) (x : Nat → Value),
  a = Act.mk (frameL G w b6 l A c A1 c1 x) (Ds.map Grow.mark) ∧
  CS G w (w.heap.size + 1) b6 S T W ∧ closV G.F.ts.length G.F.ps em Ss k S T = some r ∧ Ds.Nodup ∧ (∀ D ∈ Ds, b6 < D ∧ W.heap[D]? = some (.deferred (some []))) ∧ b6 < W.heap.size
theorem LI.of {G : SG} {em : List Bool} {Ss : List (List Int)} {w : World} {b6 : Nat} {l : List Lr} {A : Option Addr} {c : Nat} {A1 : Option Addr} {c1 : Nat} {r : List Lr} {k : Nat} {t : Array Value} {ds : List Deferred} {W : World} (S T : List Lr) (Ds : List Nat)
  (ht : t = frameL G w b6 l A c A1 c1 (fun i => t.getD i undef)) (hd : ds = Ds.map Grow.mark) (hcs : CS G w (w.heap.size + 1) b6 S T W) (hc : closV G.F.ts.length G.F.ps em Ss k S T = some r) (hn : Ds.Nodup) (hD : ∀ D ∈ Ds, b6 < D ∧ W.heap[D]? = some (.deferred (some []))) (hsz : b6 < W.heap.size) :
  LI G em Ss w b6 l A c A1 c1 r k (Act.mk t ds) W := ⟨S, T, Ds, fun i => t.getD i undef, by rw [hd, ← ht], hcs, hc, hn, hD, hsz⟩
set_option maxRecDepth 100000 in
set_option maxHeartbeats 8000000 in
theorem closure_calls (G : SG) (em : List Bool) (Ss : List (List Int)) (l : List Lr) (A : Option Addr) (c : Nat) (w : World) (hG : G.At em Ss w) (hC : Kd.C kLr w A l.length l) (hok : ∀ x ∈ l, lrOk x) (k : Nat) (r : List Lr) (h : closV G.F.ts.length G.F.ps em Ss k [] l = some r) :
  Calls Try.prog 22 #[.pointer (some ⟨G.sb, 0, none⟩), .slice A l.length c] w fun e w' => ∃ v, e = .returned v ∧ Kd.R kLr TL w' w.heap.size (fun _ => True) v (srtL r) ∧ Below w.heap.size w w' := by
 have hll := closV_len h
 refine (callsIn_wide (n := 3)).1 ?_
 refine callsIn_of_wp_marks Try.func22 rfl trivial ?_ rfl
 simp only [Try.ntmps22, List.size_toArray, List.length_cons, List.length_nil, Nat.reduceAdd, Nat.reduceSub, Array.replicate_succ, Array.replicate_zero, List.push_toArray, List.append_toArray, List.nil_append, List.cons_append]
 obtain ⟨W0, hW0⟩ : ∃ W0, (w.alloc (.cells #[.pointer (some ⟨G.sb, 0, none⟩)] 47)).alloc (.map #[] 0) = W0 := ⟨_, rfl⟩
 have b00 : W0.heap[w.heap.size]? = some (.cells #[.pointer (some ⟨G.sb, 0, none⟩)] 47 (0, 0)) := by rw [← hW0]; exact zah (zbe w _) _
 have m00 : MapAt keyL (w.heap.size + 1) [] W0 := by
  rw [← hW0]
  have := MapAt.new (K := keyL) (w.alloc (.cells #[.pointer (some ⟨G.sb, 0, none⟩)] 47))
  simpa using this
 have B00 : Below w.heap.size w W0 := by rw [← hW0]; exact ((Below.refl _ _).alloc (Nat.le_refl _) _).alloc (by simp) _
 have sz00 : W0.heap.size = w.heap.size + 2 := by rw [← hW0]; simp
 have hfn : ∀ f, Fence.wide.fn f := fun _ => trivial
 have hmm := @run_makeMap Try.prog
 have hcl := cloneL_calls A l.length c l W0 (Kd.zay hC B00) (by omega)
 have h30 : Fence.wide.fn 30 := trivial
 gi_wp2_with (gi_at_call 30; refine (callsIn_wide.2 hcl).mono ?_; rintro e W1 ⟨v1, rfl, R1, B1⟩; obtain ⟨A1, c1, rfl⟩ := Kd.zbv R1)
 have b01 := zaq b00 B1
 have m01 := m00.keep (B1.block _ m00.lt)
 have B01 := B00.trans (B1.mono B00.size)
 have ho1 := own_weaken (R3_own R1) (show w.heap.size ≤ W0.heap.size by omega)
 have hmb : w.heap.size + 1 < W1.heap.size := m01.lt
 obtain ⟨W2, hW2⟩ : ∃ W2, W1.alloc (.cells #[.slice A1 l.length c1] 33) = W2 := ⟨_, rfl⟩
 have hb6 : W2.heap.size = W1.heap.size + 1 := by rw [← hW2]; simp
 have cs2 : CS G w (w.heap.size + 1) W1.heap.size [] l W2 := by
  rw [← hW2]
  exact ⟨B01.alloc B01.size _, zah b01 _, m01.keep ((Below.refl W1.heap.size W1).alloc (Nat.le_refl _) (.cells #[.slice A1 l.length c1] 33) |>.block _ m01.lt), ⟨A1, c1, Boxed.new W1 _ _, ho1.alloc _⟩, hok⟩
 obtain ⟨b6, hb6'⟩ : ∃ b, W1.heap.size = b := ⟨_, rfl⟩
 rw [hW2]
 rw [hb6'] at cs2 hb6 hmb
 rw [hb6']
 have HC := Lib.hid h
 clear hW2 ho1 B01 m01 b01 R1 B1 hcl h hb6' b00 m00 B00 sz00 hW0 W0 W1
 have hmbb : w.heap.size + 1 < b6 := hmb
 refine loopIn (LI G em Ss w b6 l A c A1 c1 r) k ?_ ?_
 ·exact LI.of [] l [] (by rfl) rfl cs2 HC.out List.nodup_nil (fun _ h => nomatch h) (by omega)
 clear cs2 hb6 HC hmb
 intro k a W hi
 obtain ⟨S, T, Ds, y, rfl, cs, hcl, hnd, hDs, hsz⟩ := hi
 unfold frameL
 obtain ⟨A3, c3, hbx, hrow⟩ := cs.todo
 have cv := hbx.cell
 rcases snoc T with rfl | ⟨T0, x, rfl⟩
 ·obtain ⟨rfl, hrlen⟩ := closV_nil hcl
  have h34 : Fence.wide.fn 34 := trivial
  have h33 : Fence.wide.fn 33 := trivial
  have hk := keysL_calls (some (w.heap.size + 1)) W
  obtain ⟨W1, hW1⟩ : ∃ W1, W.alloc (.cells #[.map (some (w.heap.size + 1))] TM) = W1 := ⟨_, rfl⟩
  have hb1 : Below W.heap.size W W1 := by rw [← hW1]; exact (Below.refl _ _).alloc (Nat.le_refl _) _
  have hB1 : W1.heap[W.heap.size]? = some (.cells #[.map (some (w.heap.size + 1))] TM (0, 0)) := by rw [← hW1]; exact zbe _ _
  have hmk : MapAt keyL (w.heap.size + 1) (r.map fun x => (x, Value.bool true)) W1 := cs.map.keep (hb1.block _ cs.map.lt)
  have hrl : (r.map fun x => (x, Value.bool true)).length ≤ 1000000000000 := by
   rw [List.length_map]
   omega
  have hs := sortedL_calls 45 #[.pointer (some ⟨W.heap.size, 0, none⟩)] (enters_of Try.func45 (by kernel_rfl) rfl) W1 _ _ _ hrl
   (SeqH.of (Kq := KeepU W1.heap.size) (keysL_stops 2 W.heap.size (w.heap.size + 1) (by omega) _ W1.heap.size [] W1 hmk.lt hmk hB1) (fun l A B h => h.1) (fun xs h => h) (fun _ h => h))
  rw [hW1] at hk
  have HB1 := Lib.hid hb1
  have HD := Lib.hid hDs
  have hds : ∀ D ∈ Ds, b6 < D ∧ W1.heap[D]? = some (.deferred (some [])) := fun D hD => ⟨(hDs D hD).1, (hb1.block D (zaw (hDs D hD).2)).trans (hDs D hD).2⟩
  have HDS := Lib.hid hds
  clear hW1 hDs hds hmk hrl hB1 hb1
  gi_wp2_with (first
   | (gi_at_call 34; refine (callsIn_wide.2 hk).mono ?_; rintro e X ⟨rfl, rfl⟩)
   | (gi_at_call 33; refine (callsIn_wide.2 hs).mono ?_; rintro e W2 ⟨v2, xs, rfl, ⟨h1, h2⟩, h3, h4, h5⟩))
  have hb2 : Below w.heap.size w W2 := cs.below.trans ((HB1.out.trans (h5.mono HB1.out.size)).mono cs.below.size)
  have hrn : r.Nodup := by
   have := cs.map.1
   rw [List.map_map] at this
   simpa [Function.comp_def] using this
  have hse : sortO (valsL xs) = srtL r := by
   refine risesL_one (sortO_rises h1) (srtL_rises hrn) (fun z => ?_)
   rw [sortO_mem, srtL_mem, h2 z]
   simp
  rw [hse] at h4
  refine leaves_marks (L := b6) Ds W2 hnd (fun D hD => ⟨by have := (HDS.out D hD).1; omega, (h5.block D (zaw (HDS.out D hD).2)).trans (HDS.out D hD).2⟩) (fun w' ht' => ⟨_, results_tmp rfl _ _ _, v2, rfl, ?_, zb0 hb2 ht' (Nat.le_refl _) (by omega) (fun k hk => hk.elim)⟩)
  exact own_R3 (by rw [srtL_len] ; have := row_turn (own_weaken (R3_own h4) (show w.heap.size ≤ W1.heap.size by have := HB1.out.size; omega)) ht' (fun _ _ h => h); rwa [srtL_len] at this) (fun _ _ => trivial)
 ·obtain ⟨m, rfl, hlen, hcl'⟩ := closV_step hcl
  obtain ⟨n, hn⟩ : ∃ n, T0.length = n := ⟨_, rfl⟩
  have hln : (T0 ++ [x]).length = n + 1 := by simp [hn]
  rw [hln] at hbx hrow cv hlen
  have hr3 := own_R3 (ok := fun _ => True) (by rw [hln]; exact hrow) (fun _ _ => trivial)
  obtain ⟨A4, c4, e4, hc4, hC4⟩ := Kd.R_reads hr3
  obtain ⟨rfl, rfl⟩ : A3 = A4 ∧ c3 = c4 := by injection e4 with e5 e6 e7; exact ⟨e5, e7⟩
  rw [hln] at hC4 hc4
  obtain ⟨ad, x', rfl, hx, f0, f1, f2⟩ := atLr hC4 n (by omega)
  obtain rfl : x = x' := by rw [← hn, List.getElem?_concat_length] at hx; exact Option.some.inj hx
  have hrow' := own_pre hrow (show n ≤ n + 1 by omega) (by simp)
  have etk : (T0 ++ [x]).take n = T0 := by rw [← hn, List.take_left]
  rw [etk] at hrow'
  have hxok : lrOk x := cs.tok x (by simp)
  have hsl : ∀ W : World, (Instr.slice 33 (.slice (some ad) (n + 1) c3) none (some (.int .i64 (n : Int))) none).run Try.prog W = .ok (.slice (some ad) n c3) W := by
   have := cut_to (P := Try.prog) 33 TL .i64 Try.underlying33 (info_parts infoLr).choose_spec.1 (some ad) (n + 1) c3 (n : Int) (by omega) (by omega) hc4
   simpa using this
  have hwr : IntKind.i64.wrap ((n : Int) + 1 - 1) = (n : Int) := by rw [IntKind.wrap_i64]; omega
  obtain ⟨b7, hb7⟩ : ∃ b, W.heap.size = b := ⟨_, rfl⟩
  have hbx2 := hbx.alloc (.cells #[.int .i64 x.1, .int .i64 x.2.1, .int .i64 x.2.2] 39)
  have cv2 := hbx2.cell
  have fv2 := hbx2.frozen
  have bx7 := zbe W (.cells #[.int .i64 x.1, .int .i64 x.2.1, .int .i64 x.2.2] 39)
  obtain ⟨W2, hW2⟩ : ∃ X, W.alloc (.cells #[.int .i64 x.1, .int .i64 x.2.1, .int .i64 x.2.2] 39) = X := ⟨_, rfl⟩
  obtain ⟨W3, hW3⟩ : ∃ X, W2.setCell ⟨b6, 0, none⟩ (.slice (some ad) n c3) = X := ⟨_, rfl⟩
  have hB2 : Below W.heap.size W W2 := by rw [← hW2]; exact (Below.refl _ _).alloc (Nat.le_refl _) _
  have csb := cs.below
  have csm := cs.map
  have e23 : ∀ j, j ≠ b6 → W3.heap[j]? = W2.heap[j]? := fun j hj => by rw [← hW3]; exact Below.heap_setCell W2 ⟨b6, 0, none⟩ _ j hj
  have hm2 : W2.heap[w.heap.size + 1]? = W.heap[w.heap.size + 1]? := hB2.block _ csm.lt
  rw [hW2] at hbx2 cv2 fv2 bx7
  have hown3 : W3.ownsRow w.heap.size TL 3 (.slice (some ad) n c3) n (flatL T0) := by
   rw [← hW3]
   have h2 : W2.ownsRow w.heap.size TL 3 (.slice (some ad) n c3) n (flatL T0) := by rw [← hW2]; exact hrow'.alloc _
   exact h2.kept (grownBy_setCell' W2 b6 _) (.inr (fun e => own_ne h2 hbx2 (by decide) e.symm))
  have cs3 : CS G w (w.heap.size + 1) b6 S T0 W3 := by
   refine ⟨?_, (e23 _ (by omega)).trans (zaq cs.bx hB2), csm.keep ((e23 _ (by omega)).trans hm2), ⟨some ad, c3, ?_, ?_⟩, fun z hz => cs.tok z (by simp [hz])⟩
   ·rw [← hW3]
    exact (csb.trans (hB2.mono csb.size)).setCell (p := ⟨b6, 0, none⟩) (by show w.heap.size ≤ b6; omega) _
   ·rw [← hW3, hn]; exact hbx2.set _
   ·rw [hn]; exact hown3
  rw [hb7] at bx7
  have bx3 : W3.heap[b7]? = some (.cells #[.int .i64 x.1, .int .i64 x.2.1, .int .i64 x.2.2] TL (0, 0)) := (e23 b7 (by omega)).trans bx7
  have hd3 : ∀ D ∈ Ds, b6 < D ∧ W3.heap[D]? = some (.deferred (some [])) := fun D hD => ⟨(hDs D hD).1, (e23 D (by have := (hDs D hD).1; omega)).trans ((hB2.block D (zaw (hDs D hD).2)).trans (hDs D hD).2)⟩
  have sz3 : b7 < W3.heap.size := zaw bx3
  have hsz7 : b6 < b7 := by omega
  clear hcl etk hr3 e4 hC4 hx csb csm hm2 hbx hrow hrow' hDs e23 bx7 hown3 cs hc4 hB2
  gi_wp2
  rename_i K6 hK6
  (try rw [hW2])
  (try rw [hW3])
  (try rw [hb7])
  clear hbx2 hW2 hW3 W2 cv2 fv2 f0 f1 f2 hsl hwr hsz cv hb7 W
  have hb3 := cs3.below
  have hGd := hG.below (zbb hb3)
  have hz : (zeroValue 4).run Try.prog W3.drew = .ok (.bool false) W3.drew := by rfl
  have hlk := MapAt.look (cs3.map.keep (W' := W3.drew) rfl) Try.underlying69 hz hxok
  rw [look_true] at hlk
  have hHeld : (fun X => X.cell? ⟨w.heap.size, 0, none⟩ = some (.pointer (some ⟨G.sb, 0, none⟩)) ∧ X.cell? ⟨G.sb, 0, none⟩ = some (.slice G.F.A0 G.F.ts.length G.F.c0) ∧ X.cell? ⟨G.sb, 1, none⟩ = some (.slice G.F.A1 G.F.ns.length G.F.c1) ∧ X.cell? ⟨G.sb, 2, none⟩ = some (.slice G.F.A2 G.F.ps.length G.F.c2) ∧ X.cell? ⟨b7, 0, none⟩ = some (.int .i64 x.1) ∧ X.cell? ⟨b7, 1, none⟩ = some (.int .i64 x.2.1) ∧ X.cell? ⟨b7, 2, none⟩ = some (.int .i64 x.2.2)) W3.drew := ⟨zab (zae cs3.bx) 0, zab hGd.blk 0, zab hGd.blk 1, zab hGd.blk 2, zab (zae bx3) 0, zab (zae bx3) 1, zab (zae bx3) 2⟩
  have keep6 : ∀ X Y : World, Below X.heap.size X Y → (fun X => X.cell? ⟨w.heap.size, 0, none⟩ = some (.pointer (some ⟨G.sb, 0, none⟩)) ∧ X.cell? ⟨G.sb, 0, none⟩ = some (.slice G.F.A0 G.F.ts.length G.F.c0) ∧ X.cell? ⟨G.sb, 1, none⟩ = some (.slice G.F.A1 G.F.ns.length G.F.c1) ∧ X.cell? ⟨G.sb, 2, none⟩ = some (.slice G.F.A2 G.F.ps.length G.F.c2) ∧ X.cell? ⟨b7, 0, none⟩ = some (.int .i64 x.1) ∧ X.cell? ⟨b7, 1, none⟩ = some (.int .i64 x.2.1) ∧ X.cell? ⟨b7, 2, none⟩ = some (.int .i64 x.2.2)) X → (fun X => X.cell? ⟨w.heap.size, 0, none⟩ = some (.pointer (some ⟨G.sb, 0, none⟩)) ∧ X.cell? ⟨G.sb, 0, none⟩ = some (.slice G.F.A0 G.F.ts.length G.F.c0) ∧ X.cell? ⟨G.sb, 1, none⟩ = some (.slice G.F.A1 G.F.ns.length G.F.c1) ∧ X.cell? ⟨G.sb, 2, none⟩ = some (.slice G.F.A2 G.F.ps.length G.F.c2) ∧ X.cell? ⟨b7, 0, none⟩ = some (.int .i64 x.1) ∧ X.cell? ⟨b7, 1, none⟩ = some (.int .i64 x.2.1) ∧ X.cell? ⟨b7, 2, none⟩ = some (.int .i64 x.2.2)) Y := fun X Y h hh => ⟨zar h hh.1, zar h hh.2.1, zar h hh.2.2.1, zar h hh.2.2.2.1, zar h hh.2.2.2.2.1, zar h hh.2.2.2.2.2.1, zar h hh.2.2.2.2.2.2⟩
  by_cases hm : x ∈ S
  ·rw [if_pos hm] at hlk
   have hlk' : (Instr.lookup 69 (.map (some (w.heap.size + 1))) (.agg #[.int .i64 x.1, .int .i64 x.2.1, .int .i64 x.2.2]) false).run Try.prog W3.drew = .ok (.bool true) W3.drew := hlk
   refine wpIn_wide.2 (Ahd.wp_qz (zbs (S := (fun X => X.cell? ⟨w.heap.size, 0, none⟩ = some (.pointer (some ⟨G.sb, 0, none⟩)) ∧ X.cell? ⟨G.sb, 0, none⟩ = some (.slice G.F.A0 G.F.ts.length G.F.c0) ∧ X.cell? ⟨G.sb, 1, none⟩ = some (.slice G.F.A1 G.F.ns.length G.F.c1) ∧ X.cell? ⟨G.sb, 2, none⟩ = some (.slice G.F.A2 G.F.ps.length G.F.c2) ∧ X.cell? ⟨b7, 0, none⟩ = some (.int .i64 x.1) ∧ X.cell? ⟨b7, 1, none⟩ = some (.int .i64 x.2.1) ∧ X.cell? ⟨b7, 2, none⟩ = some (.int .i64 x.2.2))) (ds := []) #[Nf,Nf,Nf,Nf,Nf,Nf,Nf,Nf,Nf,Nf,Nf,Nf] (by kernel_rfl) rfl rfl hHeld (fun h0_ => ?_)))
   clear h0_
   refine pure_ (i := 0) (N := (some 30)) (v := ?_) (a' := ?_) #[Yt,Nf,Nf,Nf,Nf,Nf,Nf,Nf,Nf,Nf,Nf,Nf] rfl rfl (by kernel_rfl) (fun _ _ _ h => h) (Or.inl ⟨by rfl, ?_⟩) ?_ ?_
   rotate_left
   ·intro w'
    go_simp
    with_reducible rfl
   rotate_left
   ·simp only [Act.put, Y1, Y2, Y3]
    rfl
   refine take_ (i := 1) (N := (some 31)) (v := ?_) (a' := ?_) #[Yt,Yt,Nf,Nf,Nf,Nf,Nf,Nf,Nf,Nf,Nf,Nf] rfl rfl (by kernel_rfl) (fun _ _ _ h => h) (Or.inl ⟨by rfl, ?_⟩) hHeld ?_ ?_
   rotate_left
   ·rintro w' ⟨s0, s1, s2, s3, s4, s5, s6⟩
    go_simp
    with_reducible rfl
   rotate_left
   ·simp only [Act.put, Y1, Y2, Y3]
    rfl
   refine one_ (i := 2) (N := (some 32)) #[Yt,Yt,Yt,Nf,Nf,Nf,Nf,Nf,Nf,Nf,Nf,Nf] rfl rfl (by kernel_rfl) (by decide) (fun K hK => ?_)
   refine zb3 (w1 := W3.drew) (v := .bool true) (by rfl) rfl ?_ ?_
   ·go_simp
   refine hK.out _ _ hHeld (fun h0_ => ?_)
   clear hK K h0_
   refine norm_ (a' := ?_) ?_ ?_
   rotate_left
   ·show Act.put _ (some 32) _ = _
    simp only [Act.put, Y1, Y2, Y3]
    rfl
   refine pure_ (i := 3) (N := (some 33)) (v := ?_) (a' := ?_) #[Yt,Yt,Yt,Yt,Nf,Nf,Nf,Nf,Nf,Nf,Nf,Nf] rfl rfl (by kernel_rfl) (fun _ _ _ h => h) (Or.inl ⟨by rfl, ?_⟩) ?_ ?_
   rotate_left
   ·intro w'
    go_simp
    with_reducible rfl
   rotate_left
   ·simp only [Act.put, Y1, Y2, Y3]
    rfl
   refine pure_ (i := 4) (N := (some 34)) (v := undef) (a' := ?_) #[Yt,Yt,Yt,Yt,Yt,Nf,Nf,Nf,Nf,Nf,Nf,Nf] rfl rfl (by kernel_rfl) (fun _ _ _ h => h) (Or.inr ⟨by rfl, rfl⟩) ?_ ?_
   rotate_left
   ·simp only [Act.put, Y1, Y2, Y3]
    rfl
   refine pure_ (i := 5) (N := (some 35)) (v := undef) (a' := ?_) #[Yt,Yt,Yt,Yt,Yt,Yt,Nf,Nf,Nf,Nf,Nf,Nf] rfl rfl (by kernel_rfl) (fun _ _ _ h => h) (Or.inr ⟨by rfl, rfl⟩) ?_ ?_
   rotate_left
   ·simp only [Act.put, Y1, Y2, Y3]
    rfl
   refine pure_ (i := 6) (N := (some 36)) (v := undef) (a' := ?_) #[Yt,Yt,Yt,Yt,Yt,Yt,Yt,Nf,Nf,Nf,Nf,Nf] rfl rfl (by kernel_rfl) (fun _ _ _ h => h) (Or.inr ⟨by rfl, rfl⟩) ?_ ?_
   rotate_left
   ·simp only [Act.put, Y1, Y2, Y3]
    rfl
   refine pure_ (i := 7) (N := (some 37)) (v := undef) (a' := ?_) #[Yt,Yt,Yt,Yt,Yt,Yt,Yt,Yt,Nf,Nf,Nf,Nf] rfl rfl (by kernel_rfl) (fun _ _ _ h => h) (Or.inr ⟨by rfl, rfl⟩) ?_ ?_
   rotate_left
   ·simp only [Act.put, Y1, Y2, Y3]
    rfl
   refine pure_ (i := 8) (N := (some 38)) (v := undef) (a' := ?_) #[Yt,Yt,Yt,Yt,Yt,Yt,Yt,Yt,Yt,Nf,Nf,Nf] rfl rfl (by kernel_rfl) (fun _ _ _ h => h) (Or.inr ⟨by rfl, rfl⟩) ?_ ?_
   rotate_left
   ·simp only [Act.put, Y1, Y2, Y3]
    rfl
   refine pure_ (i := 9) (N := (some 39)) (v := undef) (a' := ?_) #[Yt,Yt,Yt,Yt,Yt,Yt,Yt,Yt,Yt,Yt,Nf,Nf] rfl rfl (by kernel_rfl) (fun _ _ _ h => h) (Or.inr ⟨by rfl, rfl⟩) ?_ ?_
   rotate_left
   ·simp only [Act.put, Y1, Y2, Y3]
    rfl
   refine pure_ (i := 10) (N := (some 40)) (v := undef) (a' := ?_) #[Yt,Yt,Yt,Yt,Yt,Yt,Yt,Yt,Yt,Yt,Yt,Nf] rfl rfl (by kernel_rfl) (fun _ _ _ h => h) (Or.inr ⟨by rfl, rfl⟩) ?_ ?_
   rotate_left
   ·simp only [Act.put, Y1, Y2, Y3]
    rfl
   refine pure_ (i := 11) (N := (some 41)) (v := ?_) (a' := ?_) #[Yt,Yt,Yt,Yt,Yt,Yt,Yt,Yt,Yt,Yt,Yt,Yt] rfl rfl (by kernel_rfl) (fun _ _ _ h => h) (Or.inl ⟨by rfl, ?_⟩) ?_ ?_
   rotate_left
   ·intro w'
    go_simp
    with_reducible rfl
   rotate_left
   ·simp only [Act.put, Y1, Y2, Y3]
    rfl
   refine done_ (by kernel_rfl) ?_
   refine hK6 _ _ ?_
   have hc' : closV G.F.ts.length G.F.ps em Ss m S T0 = some r := by
    have e1 : newV G.F.ts.length G.F.ps S x = false := by simp [newV, hm]
    have := hcl'
    unfold putS pushV at this
    rw [e1] at this
    simpa using this
   have cs4 : CS G w (w.heap.size + 1) b6 S T0 W3.drew := cs3.keep (zbb (Below.refl _ _))
   have HC' := Lib.hid hc'
   have HD' := Lib.hid hd3
   clear hc' hcl' hd3 hK6 keep6 hHeld hlk hlk'
   gi_wp2
   exact ⟨m, by omega, LI.of S T0 Ds (by rfl) rfl cs4 HC'.out hnd (fun D hD => HD'.out D hD) (by show b6 < W3.heap.size; omega)⟩
  ·rw [if_neg hm] at hlk
   have hlk' : (Instr.lookup 69 (.map (some (w.heap.size + 1))) (.agg #[.int .i64 x.1, .int .i64 x.2.1, .int .i64 x.2.2]) false).run Try.prog W3.drew = .ok (.bool false) W3.drew := hlk
   refine wpIn_wide.2 (Ahd.wp_qz (zbs (S := (fun X => X.cell? ⟨w.heap.size, 0, none⟩ = some (.pointer (some ⟨G.sb, 0, none⟩)) ∧ X.cell? ⟨G.sb, 0, none⟩ = some (.slice G.F.A0 G.F.ts.length G.F.c0) ∧ X.cell? ⟨G.sb, 1, none⟩ = some (.slice G.F.A1 G.F.ns.length G.F.c1) ∧ X.cell? ⟨G.sb, 2, none⟩ = some (.slice G.F.A2 G.F.ps.length G.F.c2) ∧ X.cell? ⟨b7, 0, none⟩ = some (.int .i64 x.1) ∧ X.cell? ⟨b7, 1, none⟩ = some (.int .i64 x.2.1) ∧ X.cell? ⟨b7, 2, none⟩ = some (.int .i64 x.2.2))) (ds := []) #[Nf,Nf,Nf,Nf,Nf,Nf,Nf,Nf,Nf,Nf,Nf,Nf] (by kernel_rfl) rfl rfl hHeld (fun h0_ => ?_)))
   clear h0_
   refine pure_ (i := 0) (N := (some 30)) (v := ?_) (a' := ?_) #[Yt,Nf,Nf,Nf,Nf,Nf,Nf,Nf,Nf,Nf,Nf,Nf] rfl rfl (by kernel_rfl) (fun _ _ _ h => h) (Or.inl ⟨by rfl, ?_⟩) ?_ ?_
   rotate_left
   ·intro w'
    go_simp
    with_reducible rfl
   rotate_left
   ·simp only [Act.put, Y1, Y2, Y3]
    rfl
   refine take_ (i := 1) (N := (some 31)) (v := ?_) (a' := ?_) #[Yt,Yt,Nf,Nf,Nf,Nf,Nf,Nf,Nf,Nf,Nf,Nf] rfl rfl (by kernel_rfl) (fun _ _ _ h => h) (Or.inl ⟨by rfl, ?_⟩) hHeld ?_ ?_
   rotate_left
   ·rintro w' ⟨s0, s1, s2, s3, s4, s5, s6⟩
    go_simp
    with_reducible rfl
   rotate_left
   ·simp only [Act.put, Y1, Y2, Y3]
    rfl
   refine one_ (i := 2) (N := (some 32)) #[Yt,Yt,Yt,Nf,Nf,Nf,Nf,Nf,Nf,Nf,Nf,Nf] rfl rfl (by kernel_rfl) (by decide) (fun K hK => ?_)
   refine zb3 (w1 := W3.drew) (v := .bool false) (by rfl) rfl ?_ ?_
   ·go_simp
   refine hK.out _ _ hHeld (fun h0_ => ?_)
   clear hK K h0_
   refine norm_ (a' := ?_) ?_ ?_
   rotate_left
   ·show Act.put _ (some 32) _ = _
    simp only [Act.put, Y1, Y2, Y3]
    rfl
   refine pure_ (i := 3) (N := (some 33)) (v := ?_) (a' := ?_) #[Yt,Yt,Yt,Yt,Nf,Nf,Nf,Nf,Nf,Nf,Nf,Nf] rfl rfl (by kernel_rfl) (fun _ _ _ h => h) (Or.inl ⟨by rfl, ?_⟩) ?_ ?_
   rotate_left
   ·intro w'
    go_simp
    with_reducible rfl
   rotate_left
   ·simp only [Act.put, Y1, Y2, Y3]
    rfl
   refine take_ (i := 4) (N := (some 34)) (v := ?_) (a' := ?_) #[Yt,Yt,Yt,Yt,Yt,Nf,Nf,Nf,Nf,Nf,Nf,Nf] rfl rfl (by kernel_rfl) (fun _ _ _ h => h) (Or.inl ⟨by rfl, ?_⟩) hHeld ?_ ?_
   rotate_left
   ·rintro w' ⟨s0, s1, s2, s3, s4, s5, s6⟩
    go_simp
    with_reducible rfl
   rotate_left
   ·simp only [Act.put, Y1, Y2, Y3]
    rfl
   refine pure_ (i := 5) (N := (some 35)) (v := ?_) (a' := ?_) #[Yt,Yt,Yt,Yt,Yt,Yt,Nf,Nf,Nf,Nf,Nf,Nf] rfl rfl (by kernel_rfl) (fun _ _ _ h => h) (Or.inl ⟨by rfl, ?_⟩) ?_ ?_
   rotate_left
   ·intro w'
    go_simp
    with_reducible rfl
   rotate_left
   ·simp only [Act.put, Y1, Y2, Y3]
    rfl
   refine pure_ (i := 6) (N := (some 36)) (v := ?_) (a' := ?_) #[Yt,Yt,Yt,Yt,Yt,Yt,Yt,Nf,Nf,Nf,Nf,Nf] rfl rfl (by kernel_rfl) (fun _ _ _ h => h) (Or.inl ⟨by rfl, ?_⟩) ?_ ?_
   rotate_left
   ·intro w'
    go_simp
    with_reducible rfl
   rotate_left
   ·simp only [Act.put, Y1, Y2, Y3]
    rfl
   refine take_ (i := 7) (N := (some 37)) (v := ?_) (a' := ?_) #[Yt,Yt,Yt,Yt,Yt,Yt,Yt,Yt,Nf,Nf,Nf,Nf] rfl rfl (by kernel_rfl) (fun _ _ _ h => h) (Or.inl ⟨by rfl, ?_⟩) hHeld ?_ ?_
   rotate_left
   ·rintro w' ⟨s0, s1, s2, s3, s4, s5, s6⟩
    go_simp
    with_reducible rfl
   rotate_left
   ·simp only [Act.put, Y1, Y2, Y3]
    rfl
   refine take_ (i := 8) (N := (some 38)) (v := ?_) (a' := ?_) #[Yt,Yt,Yt,Yt,Yt,Yt,Yt,Yt,Yt,Nf,Nf,Nf] rfl rfl (by kernel_rfl) (fun _ _ _ h => h) (Or.inl ⟨by rfl, ?_⟩) hHeld ?_ ?_
   rotate_left
   ·rintro w' ⟨s0, s1, s2, s3, s4, s5, s6⟩
    go_simp
    with_reducible rfl
   rotate_left
   ·simp only [Act.put, Y1, Y2, Y3]
    rfl
   refine one_ (i := 9) (N := (some 39)) #[Yt,Yt,Yt,Yt,Yt,Yt,Yt,Yt,Yt,Yt,Nf,Nf] rfl rfl (by kernel_rfl) (by decide) (fun K hK => ?_)
   refine goes_ Try.func31 (by kernel_rfl) rfl #[.agg #[.slice G.F.A0 G.F.ts.length G.F.c0, .slice G.F.A1 G.F.ns.length G.F.c1, .slice G.F.A2 G.F.ps.length G.F.c2], .agg #[.int .i64 x.1, .int .i64 x.2.1, .int .i64 x.2.2]] (by rfl) rfl rfl (by first | rfl | (simp [Act.eval]; done) | (simp [go_sem]; done)) ?_
   refine (fit_calls G.F x W3.drew hGd.K).mono ?_
   rintro e W4 ⟨rfl, hB4⟩
   refine ⟨_, rfl, ?_⟩
   have hh4 := keep6 _ _ hB4 hHeld
   refine hK.out _ _ hh4 (fun h0_ => ?_)
   clear hK K h0_
   refine pure_ (i := 10) (N := (some 40)) (v := ?_) (a' := ?_) #[Yt,Yt,Yt,Yt,Yt,Yt,Yt,Yt,Yt,Yt,Yt,Nf] rfl rfl (by kernel_rfl) (fun _ _ _ h => h) (Or.inl ⟨by rfl, ?_⟩) ?_ ?_
   rotate_left
   ·intro w'
    go_simp
    with_reducible rfl
   rotate_left
   ·simp only [Act.put, Y1, Y2, Y3]
    rfl
   refine pure_ (i := 11) (N := (some 41)) (v := ?_) (a' := ?_) #[Yt,Yt,Yt,Yt,Yt,Yt,Yt,Yt,Yt,Yt,Yt,Yt] rfl rfl (by kernel_rfl) (fun _ _ _ h => h) (Or.inl ⟨by rfl, ?_⟩) ?_ ?_
   rotate_left
   ·intro w'
    go_simp
    with_reducible rfl
   rotate_left
   ·simp only [Act.put, Y1, Y2, Y3]
    rfl
   refine done_ (by kernel_rfl) ?_
   refine hK6 _ _ ?_
   have hB34 : Below W3.heap.size W3 W4 := (zbb (Below.refl W3.heap.size W3)).trans hB4
   have cs4 : CS G w (w.heap.size + 1) b6 S T0 W4 := cs3.keep hB34
   have bx4 := zaq bx3 hB34
   have hd4 : ∀ D ∈ Ds, b6 < D ∧ W4.heap[D]? = some (.deferred (some [])) := fun D hD => ⟨(hd3 D hD).1, zaq (hd3 D hD).2 hB34⟩
   have sz4 : b7 < W4.heap.size := zaw bx4
   obtain ⟨fv, hfv⟩ : ∃ fv, fitV G.F.ts.length G.F.ps x = fv := ⟨_, rfl⟩
   rw [hfv]
   clear hHeld keep6 hh4 hlk hlk' hd3 hK6 hGd hB34 hB4 bx3 cs3 sz3 hz hb3 W3
   cases fv with
   | false =>
    have hc' : closV G.F.ts.length G.F.ps em Ss m S T0 = some r := by
     have e1 : newV G.F.ts.length G.F.ps S x = false := by simp [newV, hfv]
     have := hcl'
     unfold putS pushV at this
     rw [e1] at this
     simpa using this
    have HC' := Lib.hid hc'
    have HD' := Lib.hid hd4
    clear hc' hcl' hd4 hfv
    gi_wp2
    exact ⟨m, by omega, LI.of S T0 Ds (by rfl) rfl cs4 HC'.out hnd (fun D hD => HD'.out D hD) (by omega)⟩
   | true =>
    have e1 : newV G.F.ts.length G.F.ps S x = true := by simp [newV, hfv, hm]
    unfold putS pushV at hcl'
    rw [if_pos e1, if_pos e1] at hcl'
    have hsl9 : S.length < maxLen := by
     have := closV_len2 hcl'
     simp [maxLen] at this ⊢
     omega
    obtain ⟨W5, hup, hmap5, hg5⟩ := MapAt.put cs4.map Try.underlying69 (by rw [List.length_map]; exact hsl9) hxok (.bool true)
    have hup' : (Instr.mapUpdate 69 (.map (some (w.heap.size + 1))) (.agg #[.int .i64 x.1, .int .i64 x.2.1, .int .i64 x.2.2]) (.bool true)).run Try.prog W4 = .ok () W5 := hup
    rw [put_true S x hm] at hmap5
    have cs5 : CS G w (w.heap.size + 1) b6 (S ++ [x]) T0 W5 := cs4.mapped (by omega) hmbb hg5 hmap5
    have bx5 : W5.heap[b7]? = some (.cells #[.int .i64 x.1, .int .i64 x.2.1, .int .i64 x.2.2] TL (0, 0)) := (hg5.block b7 sz4 (fun e => by injection e with e; omega)).trans bx4
    have hd5 : ∀ D ∈ Ds, b6 < D ∧ W5.heap[D]? = some (.deferred (some [])) := fun D hD => ⟨(hd4 D hD).1, (hg5.block D (zaw (hd4 D hD).2) (fun e => by injection e with e; have := (hd4 D hD).1; omega)).trans (hd4 D hD).2⟩
    have i0 : W4.cell? ⟨b7, 0, none⟩ = some (.int .i64 x.1) := zab bx4 0
    have i1 : W4.cell? ⟨b7, 1, none⟩ = some (.int .i64 x.2.1) := zab bx4 1
    have i2 : W4.cell? ⟨b7, 2, none⟩ = some (.int .i64 x.2.2) := zab bx4 2
    have hGd5 := hG.below (zbb cs5.below)
    have hHeld8 : (fun X => X.cell? ⟨w.heap.size, 0, none⟩ = some (.pointer (some ⟨G.sb, 0, none⟩)) ∧ X.cell? ⟨G.sb, 0, none⟩ = some (.slice G.F.A0 G.F.ts.length G.F.c0) ∧ X.cell? ⟨G.sb, 1, none⟩ = some (.slice G.F.A1 G.F.ns.length G.F.c1) ∧ X.cell? ⟨G.sb, 2, none⟩ = some (.slice G.F.A2 G.F.ps.length G.F.c2) ∧ X.cell? ⟨b7, 0, none⟩ = some (.int .i64 x.1) ∧ X.cell? ⟨b7, 1, none⟩ = some (.int .i64 x.2.1) ∧ X.cell? ⟨b7, 2, none⟩ = some (.int .i64 x.2.2)) W5.drew := ⟨zab (zae cs5.bx) 0, zab hGd5.blk 0, zab hGd5.blk 1, zab hGd5.blk 2, zab (zae bx5) 0, zab (zae bx5) 1, zab (zae bx5) 2⟩
    have keep8 : ∀ X Y : World, Below X.heap.size X Y → (fun X => X.cell? ⟨w.heap.size, 0, none⟩ = some (.pointer (some ⟨G.sb, 0, none⟩)) ∧ X.cell? ⟨G.sb, 0, none⟩ = some (.slice G.F.A0 G.F.ts.length G.F.c0) ∧ X.cell? ⟨G.sb, 1, none⟩ = some (.slice G.F.A1 G.F.ns.length G.F.c1) ∧ X.cell? ⟨G.sb, 2, none⟩ = some (.slice G.F.A2 G.F.ps.length G.F.c2) ∧ X.cell? ⟨b7, 0, none⟩ = some (.int .i64 x.1) ∧ X.cell? ⟨b7, 1, none⟩ = some (.int .i64 x.2.1) ∧ X.cell? ⟨b7, 2, none⟩ = some (.int .i64 x.2.2)) X → (fun X => X.cell? ⟨w.heap.size, 0, none⟩ = some (.pointer (some ⟨G.sb, 0, none⟩)) ∧ X.cell? ⟨G.sb, 0, none⟩ = some (.slice G.F.A0 G.F.ts.length G.F.c0) ∧ X.cell? ⟨G.sb, 1, none⟩ = some (.slice G.F.A1 G.F.ns.length G.F.c1) ∧ X.cell? ⟨G.sb, 2, none⟩ = some (.slice G.F.A2 G.F.ps.length G.F.c2) ∧ X.cell? ⟨b7, 0, none⟩ = some (.int .i64 x.1) ∧ X.cell? ⟨b7, 1, none⟩ = some (.int .i64 x.2.1) ∧ X.cell? ⟨b7, 2, none⟩ = some (.int .i64 x.2.2)) Y := fun X Y h hh => ⟨zar h hh.1, zar h hh.2.1, zar h hh.2.2.1, zar h hh.2.2.2.1, zar h hh.2.2.2.2.1, zar h hh.2.2.2.2.2.1, zar h hh.2.2.2.2.2.2⟩
    have sz5 : b7 < W5.heap.size := zaw bx5
    clear hup hmap5 hg5 hd4 cs4 bx4 sz4 e1 hsl9
    gi_wp2
    rename_i K8 hK8
    clear hup' i0 i1 i2
    refine wpIn_wide.2 (Ahd.wp_qz (zbs (S := (fun X => X.cell? ⟨w.heap.size, 0, none⟩ = some (.pointer (some ⟨G.sb, 0, none⟩)) ∧ X.cell? ⟨G.sb, 0, none⟩ = some (.slice G.F.A0 G.F.ts.length G.F.c0) ∧ X.cell? ⟨G.sb, 1, none⟩ = some (.slice G.F.A1 G.F.ns.length G.F.c1) ∧ X.cell? ⟨G.sb, 2, none⟩ = some (.slice G.F.A2 G.F.ps.length G.F.c2) ∧ X.cell? ⟨b7, 0, none⟩ = some (.int .i64 x.1) ∧ X.cell? ⟨b7, 1, none⟩ = some (.int .i64 x.2.1) ∧ X.cell? ⟨b7, 2, none⟩ = some (.int .i64 x.2.2))) (ds := []) #[Nf,Nf,Nf,Nf,Nf,Nf,Nf,Nf,Nf,Nf,Nf,Nf] (by kernel_rfl) rfl rfl hHeld8 (fun h0_ => ?_)))
    clear h0_
    refine take_ (i := 0) (N := (some 45)) (v := ?_) (a' := ?_) #[Yt,Nf,Nf,Nf,Nf,Nf,Nf,Nf,Nf,Nf,Nf,Nf] rfl rfl (by kernel_rfl) (fun _ _ _ h => h) (Or.inl ⟨by rfl, ?_⟩) hHeld8 ?_ ?_
    rotate_left
    ·rintro w' ⟨s0, s1, s2, s3, s4, s5, s6⟩
     go_simp
     with_reducible rfl
    rotate_left
    ·simp only [Act.put, Y1, Y2, Y3]
     rfl
    refine pure_ (i := 1) (N := (some 46)) (v := ?_) (a' := ?_) #[Yt,Yt,Nf,Nf,Nf,Nf,Nf,Nf,Nf,Nf,Nf,Nf] rfl rfl (by kernel_rfl) (fun _ _ _ h => h) (Or.inl ⟨by rfl, ?_⟩) ?_ ?_
    rotate_left
    ·intro w'
     go_simp
     with_reducible rfl
    rotate_left
    ·simp only [Act.put, Y1, Y2, Y3]
     rfl
    refine pure_ (i := 2) (N := (some 47)) (v := ?_) (a' := ?_) #[Yt,Yt,Yt,Nf,Nf,Nf,Nf,Nf,Nf,Nf,Nf,Nf] rfl rfl (by kernel_rfl) (fun _ _ _ h => h) (Or.inl ⟨by rfl, ?_⟩) ?_ ?_
    rotate_left
    ·intro w'
     go_simp
     with_reducible rfl
    rotate_left
    ·simp only [Act.put, Y1, Y2, Y3]
     rfl
    refine take_ (i := 3) (N := (some 48)) (v := ?_) (a' := ?_) #[Yt,Yt,Yt,Yt,Nf,Nf,Nf,Nf,Nf,Nf,Nf,Nf] rfl rfl (by kernel_rfl) (fun _ _ _ h => h) (Or.inl ⟨by rfl, ?_⟩) hHeld8 ?_ ?_
    rotate_left
    ·rintro w' ⟨s0, s1, s2, s3, s4, s5, s6⟩
     go_simp
     with_reducible rfl
    rotate_left
    ·simp only [Act.put, Y1, Y2, Y3]
     rfl
    refine take_ (i := 4) (N := (some 49)) (v := ?_) (a' := ?_) #[Yt,Yt,Yt,Yt,Yt,Nf,Nf,Nf,Nf,Nf,Nf,Nf] rfl rfl (by kernel_rfl) (fun _ _ _ h => h) (Or.inl ⟨by rfl, ?_⟩) hHeld8 ?_ ?_
    rotate_left
    ·rintro w' ⟨s0, s1, s2, s3, s4, s5, s6⟩
     go_simp
     with_reducible rfl
    rotate_left
    ·simp only [Act.put, Y1, Y2, Y3]
     rfl
    refine join_ (σ := Nat) 2 #[Yt,Yt,Yt,Yt,Yt,Yt,Yt,Yt,Yt,Yt,Nf,Nf] (fun s => [(50, .tuple #[.int .i64 ((nextV G.F.ts.length G.F.ps x).getD 0), .bool (nextV G.F.ts.length G.F.ps x).isSome]), (44, .tuple #[.int .i64 ((nextV G.F.ts.length G.F.ps x).getD 0), .bool (nextV G.F.ts.length G.F.ps x).isSome]), (51, .int .i64 ((nextV G.F.ts.length G.F.ps x).getD 0)), (52, .bool (nextV G.F.ts.length G.F.ps x).isSome), (8, .pointer (some ⟨s, 0, none⟩))]) (fun s w' => Below W5.drew.heap.size W5.drew w' ∧ w'.heap[s]? = some (.cells #[.int .i64 0] 3 (0, 0)) ∧ W5.drew.heap.size ≤ s ∧ (fun X => X.cell? ⟨w.heap.size, 0, none⟩ = some (.pointer (some ⟨G.sb, 0, none⟩)) ∧ X.cell? ⟨G.sb, 0, none⟩ = some (.slice G.F.A0 G.F.ts.length G.F.c0) ∧ X.cell? ⟨G.sb, 1, none⟩ = some (.slice G.F.A1 G.F.ns.length G.F.c1) ∧ X.cell? ⟨G.sb, 2, none⟩ = some (.slice G.F.A2 G.F.ps.length G.F.c2) ∧ X.cell? ⟨b7, 0, none⟩ = some (.int .i64 x.1) ∧ X.cell? ⟨b7, 1, none⟩ = some (.int .i64 x.2.1) ∧ X.cell? ⟨b7, 2, none⟩ = some (.int .i64 x.2.2)) w') ?_ ?_
    rotate_left
    ·intro hCont
     refine two_ (i := 5) (j := 9) (Ni := (some 50)) (Nj := (some 8)) #[Yt,Yt,Yt,Yt,Yt,Yt,Nf,Nf,Nf,Nf,Nf,Nf] #[Yt,Yt,Yt,Yt,Yt,Nf,Nf,Nf,Nf,Yt,Nf,Nf] rfl rfl rfl rfl (by kernel_rfl) (by decide) (by decide) (fun K hK => ?_) (fun K hK => ?_)
     ·skip
      refine goes_ Try.func28 (by kernel_rfl) rfl #[.agg #[.slice G.F.A0 G.F.ts.length G.F.c0, .slice G.F.A1 G.F.ns.length G.F.c1, .slice G.F.A2 G.F.ps.length G.F.c2], .agg #[.int .i64 x.1, .int .i64 x.2.1, .int .i64 x.2.2]] (by rfl) rfl rfl (by first | rfl | (simp [Act.eval]; done) | (simp [go_sem]; done)) ?_
      refine (next_calls G.F x W5.drew hGd5.K).mono ?_
      rintro e W6 ⟨rfl, hB6⟩
      refine ⟨_, rfl, ?_⟩
      have hh6 := keep8 _ _ hB6 hHeld8
      refine hK.out _ _ hh6 (fun h0_ => ?_)
      clear hK K h0_
      refine norm_ (a' := ?_) ?_ ?_
      rotate_left
      ·show Act.put _ (some 50) _ = _
       simp only [Act.put, Y1, Y2, Y3]
       rfl
      refine pure_ (i := 6) (N := (some 44)) (v := ?_) (a' := ?_) #[Yt,Yt,Yt,Yt,Yt,Yt,Yt,Nf,Nf,Nf,Nf,Nf] rfl rfl (by kernel_rfl) (fun _ _ _ h => h) (Or.inl ⟨by rfl, ?_⟩) ?_ ?_
      rotate_left
      ·intro w'
       go_simp
       with_reducible rfl
      rotate_left
      ·simp only [Act.put, Y1, Y2, Y3]
       rfl
      refine pure_ (i := 7) (N := (some 51)) (v := ?_) (a' := ?_) #[Yt,Yt,Yt,Yt,Yt,Yt,Yt,Yt,Nf,Nf,Nf,Nf] rfl rfl (by kernel_rfl) (fun _ _ _ h => h) (Or.inl ⟨by rfl, ?_⟩) ?_ ?_
      rotate_left
      ·intro w'
       go_simp
       with_reducible rfl
      rotate_left
      ·simp only [Act.put, Y1, Y2, Y3]
       rfl
      refine pure_ (i := 8) (N := (some 52)) (v := ?_) (a' := ?_) #[Yt,Yt,Yt,Yt,Yt,Yt,Yt,Yt,Yt,Nf,Nf,Nf] rfl rfl (by kernel_rfl) (fun _ _ _ h => h) (Or.inl ⟨by rfl, ?_⟩) ?_ ?_
      rotate_left
      ·intro w'
       go_simp
       with_reducible rfl
      rotate_left
      ·simp only [Act.put, Y1, Y2, Y3]
       rfl
      refine one_ (i := 9) (N := (some 8)) #[Yt,Yt,Yt,Yt,Yt,Yt,Yt,Yt,Yt,Yt,Nf,Nf] rfl rfl (by kernel_rfl) (by decide) (fun K hK => ?_)
      refine zb3 (w1 := W6.alloc (.cells #[.int .i64 0] 3)) (v := .pointer (some ⟨W6.heap.size, 0, none⟩)) (by rfl) rfl ?_ ?_
      ·go_simp
      have hBa : Below W6.heap.size W6 (W6.alloc (.cells #[.int .i64 0] 3)) := (Below.refl _ _).alloc (Nat.le_refl _) _
      have hhA := keep8 _ _ hBa hh6
      refine hK.out _ _ hhA (fun h0_ => ?_)
      clear hK K h0_
      refine norm_ (a' := ?_) ?_ ?_
      rotate_left
      ·show Act.put _ (some 8) _ = _
       simp only [Act.put, Y1, Y2, Y3]
       rfl
      exact norm_ (by first | (simp only [putAll, Act.put, Y1, Y2, Y3]; done) | (simp only [putAll, Act.put, Y1, Y2, Y3]; rfl)) (hCont W6.heap.size _ ⟨hB6.trans (hBa.mono hB6.size), zbe W6 _, hB6.size, hhA⟩)
     ·skip
      refine zb3 (w1 := W5.drew.alloc (.cells #[.int .i64 0] 3)) (v := .pointer (some ⟨W5.drew.heap.size, 0, none⟩)) (by rfl) rfl ?_ ?_
      ·go_simp
      have hBa : Below W5.drew.heap.size W5.drew (W5.drew.alloc (.cells #[.int .i64 0] 3)) := (Below.refl _ _).alloc (Nat.le_refl _) _
      have hhA := keep8 _ _ hBa hHeld8
      refine hK.out _ _ hhA (fun h0_ => ?_)
      clear hK K h0_
      refine norm_ (a' := ?_) ?_ ?_
      rotate_left
      ·show Act.put _ (some 8) _ = _
       simp only [Act.put, Y1, Y2, Y3]
       rfl
      refine one_ (i := 5) (N := (some 50)) #[Yt,Yt,Yt,Yt,Yt,Yt,Nf,Nf,Nf,Yt,Nf,Nf] rfl rfl (by kernel_rfl) (by decide) (fun K hK => ?_)
      refine goes_ Try.func28 (by kernel_rfl) rfl #[.agg #[.slice G.F.A0 G.F.ts.length G.F.c0, .slice G.F.A1 G.F.ns.length G.F.c1, .slice G.F.A2 G.F.ps.length G.F.c2], .agg #[.int .i64 x.1, .int .i64 x.2.1, .int .i64 x.2.2]] (by rfl) rfl rfl (by first | rfl | (simp [Act.eval]; done) | (simp [go_sem]; done)) ?_
      refine (next_calls G.F x (W5.drew.alloc (.cells #[.int .i64 0] 3)) (hGd5.K.below hBa)).mono ?_
      rintro e W6 ⟨rfl, hB6⟩
      refine ⟨_, rfl, ?_⟩
      have hh6 := keep8 _ _ hB6 hhA
      refine hK.out _ _ hh6 (fun h0_ => ?_)
      clear hK K h0_
      refine norm_ (a' := ?_) ?_ ?_
      rotate_left
      ·show Act.put _ (some 50) _ = _
       simp only [Act.put, Y1, Y2, Y3]
       rfl
      refine pure_ (i := 6) (N := (some 44)) (v := ?_) (a' := ?_) #[Yt,Yt,Yt,Yt,Yt,Yt,Yt,Nf,Nf,Yt,Nf,Nf] rfl rfl (by kernel_rfl) (fun _ _ _ h => h) (Or.inl ⟨by rfl, ?_⟩) ?_ ?_
      rotate_left
      ·intro w'
       go_simp
       with_reducible rfl
      rotate_left
      ·simp only [Act.put, Y1, Y2, Y3]
       rfl
      refine pure_ (i := 7) (N := (some 51)) (v := ?_) (a' := ?_) #[Yt,Yt,Yt,Yt,Yt,Yt,Yt,Yt,Nf,Yt,Nf,Nf] rfl rfl (by kernel_rfl) (fun _ _ _ h => h) (Or.inl ⟨by rfl, ?_⟩) ?_ ?_
      rotate_left
      ·intro w'
       go_simp
       with_reducible rfl
      rotate_left
      ·simp only [Act.put, Y1, Y2, Y3]
       rfl
      refine pure_ (i := 8) (N := (some 52)) (v := ?_) (a' := ?_) #[Yt,Yt,Yt,Yt,Yt,Yt,Yt,Yt,Yt,Yt,Nf,Nf] rfl rfl (by kernel_rfl) (fun _ _ _ h => h) (Or.inl ⟨by rfl, ?_⟩) ?_ ?_
      rotate_left
      ·intro w'
       go_simp
       with_reducible rfl
      rotate_left
      ·simp only [Act.put, Y1, Y2, Y3]
       rfl
      exact norm_ (by first | (simp only [putAll, Act.put, Y1, Y2, Y3]; done) | (simp only [putAll, Act.put, Y1, Y2, Y3]; rfl)) (hCont W5.drew.heap.size _ ⟨hBa.trans (hB6.mono hBa.size), zaq (zbe W5.drew _) hB6, Nat.le_refl _, hh6⟩)
    rintro b8 W7 ⟨hB7, hb8, hge8, hh7⟩
    have hfz8 := zak hb8 0
    have hc8 := zab hb8 0
    refine norm_ (a' := ?_) ?_ ?_
    rotate_left
    ·simp only [putAll, Act.put, Y1, Y2, Y3]
     rfl
    refine one_ (i := 10) (N := none) #[Yt,Yt,Yt,Yt,Yt,Yt,Yt,Yt,Yt,Yt,Yt,Nf] rfl rfl (by kernel_rfl) (by decide) (fun K hK => ?_)
    refine skip_ (w1 := W7.setCell ⟨b8, 0, none⟩ (.int .i64 ((nextV G.F.ts.length G.F.ps x).getD 0))) (by rfl) rfl ?_ ?_
    ·go_simp
    have hh8 : (fun X => X.cell? ⟨w.heap.size, 0, none⟩ = some (.pointer (some ⟨G.sb, 0, none⟩)) ∧ X.cell? ⟨G.sb, 0, none⟩ = some (.slice G.F.A0 G.F.ts.length G.F.c0) ∧ X.cell? ⟨G.sb, 1, none⟩ = some (.slice G.F.A1 G.F.ns.length G.F.c1) ∧ X.cell? ⟨G.sb, 2, none⟩ = some (.slice G.F.A2 G.F.ps.length G.F.c2) ∧ X.cell? ⟨b7, 0, none⟩ = some (.int .i64 x.1) ∧ X.cell? ⟨b7, 1, none⟩ = some (.int .i64 x.2.1) ∧ X.cell? ⟨b7, 2, none⟩ = some (.int .i64 x.2.2)) (W7.setCell ⟨b8, 0, none⟩ (.int .i64 ((nextV G.F.ts.length G.F.ps x).getD 0))) := keep8 W5.drew _ (hB7.setCell (p := ⟨b8, 0, none⟩) hge8 _) hHeld8
    refine hK.out _ _ hh8 (fun h0_ => ?_)
    clear hK K h0_
    refine pure_ (i := 11) (N := (some 9)) (v := ?_) (a' := ?_) #[Yt,Yt,Yt,Yt,Yt,Yt,Yt,Yt,Yt,Yt,Yt,Yt] rfl rfl (by kernel_rfl) (fun _ _ _ h => h) (Or.inl ⟨by rfl, ?_⟩) ?_ ?_
    rotate_left
    ·intro w'
     go_simp
     with_reducible rfl
    rotate_left
    ·simp only [Act.put, Y1, Y2, Y3]
     rfl
    refine done_ (by kernel_rfl) ?_
    refine hK8 _ _ ?_
    have bq8 : Boxed W7 b8 3 (.int .i64 0) := hb8
    have hB58 : Below W5.heap.size W5 (W7.setCell ⟨b8, 0, none⟩ (.int .i64 ((nextV G.F.ts.length G.F.ps x).getD 0))) := (((zbb (Below.refl W5.heap.size W5)).trans hB7)).setCell (p := ⟨b8, 0, none⟩) hge8 _
    have bs8 := bq8.set (.int .i64 ((nextV G.F.ts.length G.F.ps x).getD 0))
    obtain ⟨nv, hnv⟩ : ∃ nv, nextV G.F.ts.length G.F.ps x = nv := ⟨_, rfl⟩
    rw [hnv] at hB58 bs8 hcl'
    rw [hnv]
    obtain ⟨W8, hW8⟩ : ∃ X, W7.setCell ⟨b8, 0, none⟩ (.int .i64 (nv.getD 0)) = X := ⟨_, rfl⟩
    rw [hW8] at hB58 bs8
    rw [hW8]
    have cs8 : CS G w (w.heap.size + 1) b6 (S ++ [x]) T0 W8 := cs5.keep hB58
    have bx8 := zaq bx5 hB58
    have hd8 : ∀ D ∈ Ds, b6 < D ∧ W8.heap[D]? = some (.deferred (some [])) := fun D hD => ⟨(hd5 D hD).1, zaq (hd5 D hD).2 hB58⟩
    have sz8 : b6 < W8.heap.size := by have := zaw bx8; omega
    have hG8 := hG.below cs8.below
    have HGG := Lib.hid hG
    have h8 : b8 < W8.heap.size := zaw bs8
    clear hK8 keep8 hHeld8 hh7 hh8 hb8 hge8 hfz8 hc8 bq8 hB7 hW8 hB58 hG hGd5 cs5 bx5 hd5 sz5 W7 W5
    gi_wp2
    rename_i K9 hK9
    cases nv with
    | none =>
     simp only [Option.isSome_none, Option.getD_none] at bs8 ⊢
     have hHeld : (fun X => X.cell? ⟨w.heap.size, 0, none⟩ = some (.pointer (some ⟨G.sb, 0, none⟩)) ∧ X.cell? ⟨G.sb, 0, none⟩ = some (.slice G.F.A0 G.F.ts.length G.F.c0)) W8.drew := ⟨zab (zae cs8.bx) 0, zab (zae hG8.blk) 0⟩
     refine wpIn_wide.2 (Ahd.wp_qz (zbs (S := (fun X => X.cell? ⟨w.heap.size, 0, none⟩ = some (.pointer (some ⟨G.sb, 0, none⟩)) ∧ X.cell? ⟨G.sb, 0, none⟩ = some (.slice G.F.A0 G.F.ts.length G.F.c0))) (ds := []) #[Nf,Nf,Nf,Nf,Nf,Nf,Nf,Nf,Nf,Nf,Nf,Nf] (by kernel_rfl) rfl rfl hHeld (fun h0_ => ?_)))
     clear h0_
     refine pure_ (i := 0) (N := (some 53)) (v := ?_) (a' := ?_) #[Yt,Nf,Nf,Nf,Nf,Nf,Nf,Nf,Nf,Nf,Nf,Nf] rfl rfl (by kernel_rfl) (fun _ _ _ h => h) (Or.inl ⟨by rfl, ?_⟩) ?_ ?_
     rotate_left
     ·intro w'
      go_simp
      with_reducible rfl
     rotate_left
     ·simp only [Act.put, Y1, Y2, Y3]
      rfl
     refine pure_ (i := 1) (N := (some 54)) (v := ?_) (a' := ?_) #[Yt,Yt,Nf,Nf,Nf,Nf,Nf,Nf,Nf,Nf,Nf,Nf] rfl rfl (by kernel_rfl) (fun _ _ _ h => h) (Or.inl ⟨by rfl, ?_⟩) ?_ ?_
     rotate_left
     ·intro w'
      go_simp
      with_reducible rfl
     rotate_left
     ·simp only [Act.put, Y1, Y2, Y3]
      rfl
     refine pure_ (i := 2) (N := (some 55)) (v := ?_) (a' := ?_) #[Yt,Yt,Yt,Nf,Nf,Nf,Nf,Nf,Nf,Nf,Nf,Nf] rfl rfl (by kernel_rfl) (fun _ _ _ h => h) (Or.inl ⟨by rfl, ?_⟩) ?_ ?_
     rotate_left
     ·intro w'
      go_simp
      with_reducible rfl
     rotate_left
     ·simp only [Act.put, Y1, Y2, Y3]
      rfl
     refine pure_ (i := 3) (N := (some 56)) (v := undef) (a' := ?_) #[Yt,Yt,Yt,Yt,Nf,Nf,Nf,Nf,Nf,Nf,Nf,Nf] rfl rfl (by kernel_rfl) (fun _ _ _ h => h) (Or.inr ⟨by rfl, rfl⟩) ?_ ?_
     rotate_left
     ·simp only [Act.put, Y1, Y2, Y3]
      rfl
     refine pure_ (i := 4) (N := (some 57)) (v := undef) (a' := ?_) #[Yt,Yt,Yt,Yt,Yt,Nf,Nf,Nf,Nf,Nf,Nf,Nf] rfl rfl (by kernel_rfl) (fun _ _ _ h => h) (Or.inr ⟨by rfl, rfl⟩) ?_ ?_
     rotate_left
     ·simp only [Act.put, Y1, Y2, Y3]
      rfl
     refine pure_ (i := 5) (N := (some 58)) (v := undef) (a' := ?_) #[Yt,Yt,Yt,Yt,Yt,Yt,Nf,Nf,Nf,Nf,Nf,Nf] rfl rfl (by kernel_rfl) (fun _ _ _ h => h) (Or.inr ⟨by rfl, rfl⟩) ?_ ?_
     rotate_left
     ·simp only [Act.put, Y1, Y2, Y3]
      rfl
     refine pure_ (i := 6) (N := (some 59)) (v := undef) (a' := ?_) #[Yt,Yt,Yt,Yt,Yt,Yt,Yt,Nf,Nf,Nf,Nf,Nf] rfl rfl (by kernel_rfl) (fun _ _ _ h => h) (Or.inr ⟨by rfl, rfl⟩) ?_ ?_
     rotate_left
     ·simp only [Act.put, Y1, Y2, Y3]
      rfl
     refine pure_ (i := 7) (N := (some 60)) (v := undef) (a' := ?_) #[Yt,Yt,Yt,Yt,Yt,Yt,Yt,Yt,Nf,Nf,Nf,Nf] rfl rfl (by kernel_rfl) (fun _ _ _ h => h) (Or.inr ⟨by rfl, rfl⟩) ?_ ?_
     rotate_left
     ·simp only [Act.put, Y1, Y2, Y3]
      rfl
     refine pure_ (i := 8) (N := (some 61)) (v := undef) (a' := ?_) #[Yt,Yt,Yt,Yt,Yt,Yt,Yt,Yt,Yt,Nf,Nf,Nf] rfl rfl (by kernel_rfl) (fun _ _ _ h => h) (Or.inr ⟨by rfl, rfl⟩) ?_ ?_
     rotate_left
     ·simp only [Act.put, Y1, Y2, Y3]
      rfl
     refine pure_ (i := 9) (N := (some 62)) (v := undef) (a' := ?_) #[Yt,Yt,Yt,Yt,Yt,Yt,Yt,Yt,Yt,Yt,Nf,Nf] rfl rfl (by kernel_rfl) (fun _ _ _ h => h) (Or.inr ⟨by rfl, rfl⟩) ?_ ?_
     rotate_left
     ·simp only [Act.put, Y1, Y2, Y3]
      rfl
     refine pure_ (i := 10) (N := (some 63)) (v := undef) (a' := ?_) #[Yt,Yt,Yt,Yt,Yt,Yt,Yt,Yt,Yt,Yt,Yt,Nf] rfl rfl (by kernel_rfl) (fun _ _ _ h => h) (Or.inr ⟨by rfl, rfl⟩) ?_ ?_
     rotate_left
     ·simp only [Act.put, Y1, Y2, Y3]
      rfl
     refine pure_ (i := 11) (N := (some 64)) (v := ?_) (a' := ?_) #[Yt,Yt,Yt,Yt,Yt,Yt,Yt,Yt,Yt,Yt,Yt,Yt] rfl rfl (by kernel_rfl) (fun _ _ _ h => h) (Or.inl ⟨by rfl, ?_⟩) ?_ ?_
     rotate_left
     ·intro w'
      go_simp
      with_reducible rfl
     rotate_left
     ·simp only [Act.put, Y1, Y2, Y3]
      rfl
     refine done_ (by kernel_rfl) ?_
     refine hK9 _ _ ?_
     have cs9 : CS G w (w.heap.size + 1) b6 (S ++ [x]) T0 W8.drew := cs8.keep (zbb (Below.refl _ _))
     simp only [List.append_nil] at hcl'
     have HC' := Lib.hid hcl'
     have HD' := Lib.hid hd8
     clear hcl' hd8 hHeld hK9 hnv
     gi_wp2
     exact ⟨m, by omega, LI.of (S ++ [x]) T0 Ds (by rfl) rfl cs9 HC'.out hnd (fun D hD => HD'.out D hD) (by show b6 < W8.heap.size; omega)⟩
    | some s =>
     simp only [Option.isSome_some, Option.getD_some] at bs8 ⊢
     have hHeld : (fun X => X.cell? ⟨w.heap.size, 0, none⟩ = some (.pointer (some ⟨G.sb, 0, none⟩)) ∧ X.cell? ⟨G.sb, 0, none⟩ = some (.slice G.F.A0 G.F.ts.length G.F.c0) ∧ X.cell? ⟨b8, 0, none⟩ = some (.int .i64 s)) W8.drew := ⟨zab (zae cs8.bx) 0, zab (zae hG8.blk) 0, zab (zae (show W8.heap[b8]? = some (.cells #[.int .i64 s] 3 (0, 0)) from bs8)) 0⟩
     refine wpIn_wide.2 (Ahd.wp_qz (zbs (S := (fun X => X.cell? ⟨w.heap.size, 0, none⟩ = some (.pointer (some ⟨G.sb, 0, none⟩)) ∧ X.cell? ⟨G.sb, 0, none⟩ = some (.slice G.F.A0 G.F.ts.length G.F.c0) ∧ X.cell? ⟨b8, 0, none⟩ = some (.int .i64 s))) (ds := []) #[Nf,Nf,Nf,Nf,Nf,Nf,Nf,Nf,Nf,Nf,Nf,Nf] (by kernel_rfl) rfl rfl hHeld (fun h0_ => ?_)))
     clear h0_
     refine pure_ (i := 0) (N := (some 53)) (v := ?_) (a' := ?_) #[Yt,Nf,Nf,Nf,Nf,Nf,Nf,Nf,Nf,Nf,Nf,Nf] rfl rfl (by kernel_rfl) (fun _ _ _ h => h) (Or.inl ⟨by rfl, ?_⟩) ?_ ?_
     rotate_left
     ·intro w'
      go_simp
      with_reducible rfl
     rotate_left
     ·simp only [Act.put, Y1, Y2, Y3]
      rfl
     refine pure_ (i := 1) (N := (some 54)) (v := ?_) (a' := ?_) #[Yt,Yt,Nf,Nf,Nf,Nf,Nf,Nf,Nf,Nf,Nf,Nf] rfl rfl (by kernel_rfl) (fun _ _ _ h => h) (Or.inl ⟨by rfl, ?_⟩) ?_ ?_
     rotate_left
     ·intro w'
      go_simp
      with_reducible rfl
     rotate_left
     ·simp only [Act.put, Y1, Y2, Y3]
      rfl
     refine pure_ (i := 2) (N := (some 55)) (v := ?_) (a' := ?_) #[Yt,Yt,Yt,Nf,Nf,Nf,Nf,Nf,Nf,Nf,Nf,Nf] rfl rfl (by kernel_rfl) (fun _ _ _ h => h) (Or.inl ⟨by rfl, ?_⟩) ?_ ?_
     rotate_left
     ·intro w'
      go_simp
      with_reducible rfl
     rotate_left
     ·simp only [Act.put, Y1, Y2, Y3]
      rfl
     refine take_ (i := 3) (N := (some 56)) (v := ?_) (a' := ?_) #[Yt,Yt,Yt,Yt,Nf,Nf,Nf,Nf,Nf,Nf,Nf,Nf] rfl rfl (by kernel_rfl) (fun _ _ _ h => h) (Or.inl ⟨by rfl, ?_⟩) hHeld ?_ ?_
     rotate_left
     ·rintro w' ⟨s0, s1, s2⟩
      go_simp
      with_reducible rfl
     rotate_left
     ·simp only [Act.put, Y1, Y2, Y3]
      rfl
     refine take_ (i := 4) (N := (some 57)) (v := ?_) (a' := ?_) #[Yt,Yt,Yt,Yt,Yt,Nf,Nf,Nf,Nf,Nf,Nf,Nf] rfl rfl (by kernel_rfl) (fun _ _ _ h => h) (Or.inl ⟨by rfl, ?_⟩) hHeld ?_ ?_
     rotate_left
     ·rintro w' ⟨s0, s1, s2⟩
      go_simp
      with_reducible rfl
     rotate_left
     ·simp only [Act.put, Y1, Y2, Y3]
      rfl
     refine pure_ (i := 5) (N := (some 58)) (v := ?_) (a' := ?_) #[Yt,Yt,Yt,Yt,Yt,Yt,Nf,Nf,Nf,Nf,Nf,Nf] rfl rfl (by kernel_rfl) (fun _ _ _ h => h) (Or.inl ⟨by rfl, ?_⟩) ?_ ?_
     rotate_left
     ·intro w'
      go_simp
      with_reducible rfl
     rotate_left
     ·simp only [Act.put, Y1, Y2, Y3]
      rfl
     refine pure_ (i := 6) (N := (some 59)) (v := ?_) (a' := ?_) #[Yt,Yt,Yt,Yt,Yt,Yt,Yt,Nf,Nf,Nf,Nf,Nf] rfl rfl (by kernel_rfl) (fun _ _ _ h => h) (Or.inl ⟨by rfl, ?_⟩) ?_ ?_
     rotate_left
     ·intro w'
      go_simp
      with_reducible rfl
     rotate_left
     ·simp only [Act.put, Y1, Y2, Y3]
      rfl
     refine pure_ (i := 7) (N := (some 60)) (v := ?_) (a' := ?_) #[Yt,Yt,Yt,Yt,Yt,Yt,Yt,Yt,Nf,Nf,Nf,Nf] rfl rfl (by kernel_rfl) (fun _ _ _ h => h) (Or.inl ⟨by rfl, ?_⟩) ?_ ?_
     rotate_left
     ·intro w'
      go_simp
      with_reducible rfl
     rotate_left
     ·simp only [Act.put, Y1, Y2, Y3]
      rfl
     refine take_ (i := 8) (N := (some 61)) (v := ?_) (a' := ?_) #[Yt,Yt,Yt,Yt,Yt,Yt,Yt,Yt,Yt,Nf,Nf,Nf] rfl rfl (by kernel_rfl) (fun _ _ _ h => h) (Or.inl ⟨by rfl, ?_⟩) hHeld ?_ ?_
     rotate_left
     ·rintro w' ⟨s0, s1, s2⟩
      go_simp
      with_reducible rfl
     rotate_left
     ·simp only [Act.put, Y1, Y2, Y3]
      rfl
     refine pure_ (i := 9) (N := (some 62)) (v := ?_) (a' := ?_) #[Yt,Yt,Yt,Yt,Yt,Yt,Yt,Yt,Yt,Yt,Nf,Nf] rfl rfl (by kernel_rfl) (fun _ _ _ h => h) (Or.inl ⟨by rfl, ?_⟩) ?_ ?_
     rotate_left
     ·intro w'
      go_simp
      with_reducible rfl
     rotate_left
     ·simp only [Act.put, Y1, Y2, Y3]
      rfl
     refine pure_ (i := 10) (N := (some 63)) (v := ?_) (a' := ?_) #[Yt,Yt,Yt,Yt,Yt,Yt,Yt,Yt,Yt,Yt,Yt,Nf] rfl rfl (by kernel_rfl) (fun _ _ _ h => h) (Or.inl ⟨by rfl, ?_⟩) ?_ ?_
     rotate_left
     ·intro w'
      go_simp
      with_reducible rfl
     rotate_left
     ·simp only [Act.put, Y1, Y2, Y3]
      rfl
     refine pure_ (i := 11) (N := (some 64)) (v := ?_) (a' := ?_) #[Yt,Yt,Yt,Yt,Yt,Yt,Yt,Yt,Yt,Yt,Yt,Yt] rfl rfl (by kernel_rfl) (fun _ _ _ h => h) (Or.inl ⟨by rfl, ?_⟩) ?_ ?_
     rotate_left
     ·intro w'
      go_simp
      with_reducible rfl
     rotate_left
     ·simp only [Act.put, Y1, Y2, Y3]
      rfl
     refine done_ (by kernel_rfl) ?_
     refine hK9 _ _ ?_
     by_cases hlt : s < (G.F.ts.length : Int)
     ·have cs9 : CS G w (w.heap.size + 1) b6 (S ++ [x]) T0 W8.drew := cs8.keep (zbb (Below.refl _ _))
      simp only [if_pos hlt, List.append_nil] at hcl'
      have HC' := Lib.hid hcl'
      have HD' := Lib.hid hd8
      clear hcl' hd8 hHeld hK9 hnv
      gi_wp2
      exact ⟨m, by omega, LI.of (S ++ [x]) T0 Ds (by rfl) rfl cs9 HC'.out hnd (fun D hD => HD'.out D hD) (by show b6 < W8.heap.size; omega)⟩
     ·simp only [if_neg hlt] at hcl'
      have h32 : Fence.wide.fn 32 := trivial
      have i0 : W8.drew.cell? ⟨b7, 0, none⟩ = some (.int .i64 x.1) := zab (zae bx8) 0
      have i1 : W8.drew.cell? ⟨b7, 1, none⟩ = some (.int .i64 x.2.1) := zab (zae bx8) 1
      have i2 : W8.drew.cell? ⟨b7, 2, none⟩ = some (.int .i64 x.2.2) := zab (zae bx8) 2
      have i3 : W8.drew.cell? ⟨w.heap.size, 0, none⟩ = some (.pointer (some ⟨G.sb, 0, none⟩)) := zab (zae cs8.bx) 0
      have hlk := looks_calls G.sb x W8.drew
      have HC' := Lib.hid hcl'
      have HD' := Lib.hid hd8
      clear hcl' hd8 hHeld hK9 hG8
      gi_wp2_with (gi_at_call 32; refine (callsIn_wide.2 hlk).mono ?_; rintro e X9 ⟨rfl, hX9⟩)
      have hG := HGG.out
      obtain ⟨hf1, hf2, hf3, hf4, hf5, hf6⟩ := fitV_iff.1 hfv
      have hx3 : x.2.1 < ((rightV G.F.ts.length G.F.ps x.1).length : Int) := by
       unfold nextV at hnv
       rw [if_pos hfv] at hnv
       by_cases hlt' : x.2.1.toNat < (rightV G.F.ts.length G.F.ps x.1).length
       ·omega
       ·rw [List.getElem?_eq_none (by omega)] at hnv
        cases hnv
      have hsN : s < (G.N : Int) := by
       unfold nextV at hnv
       rw [if_pos hfv] at hnv
       obtain ⟨i, hi1, rfl⟩ := Option.map_eq_some_iff.1 hnv
       have hmi := List.mem_of_getElem? hi1
       unfold rightV at hmi
       have hnn := hG.nn
       have hn1 := hG.n1
       split at hmi
       ·simp at hmi; subst hmi; show (G.F.ts.length : Int) < _; omega
       ·rename_i hx0
        have hm' : G.F.ps.getD x.1.toNat dP ∈ G.F.ps := by
         rw [List.getD_eq_getElem?_getD, List.getElem?_eq_getElem (by omega)]
         exact List.getElem_mem _
        exact ((hG.prs _ hm').1.2.2 i hmi).2
      obtain ⟨b1, hb1⟩ : ∃ b, W8.drew.heap.size = b := ⟨_, rfl⟩
      have hb1' : W8.heap.size = b1 := hb1
      have hB89 : Below W8.heap.size W8 X9 := by rw [← hX9]; exact ((zbb (Below.refl W8.heap.size W8)).alloc (Nat.le_refl _) _).alloc (by simp) _
      have h91 : X9.heap[b1]? = some (.cells #[.pointer (some ⟨G.sb, 0, none⟩)] 47 (0, 0)) := by rw [← hX9, ← hb1]; exact zah (zbe W8.drew _) _
      have h92 : X9.heap[b1 + 1]? = some (.cells #[.int .i64 x.1, .int .i64 x.2.1, .int .i64 x.2.2] TL (0, 0)) := by
       rw [← hX9, ← hb1]
       have := zbe (W8.drew.alloc (.cells #[.pointer (some ⟨G.sb, 0, none⟩)] 47)) (.cells #[.int .i64 x.1, .int .i64 x.2.1, .int .i64 x.2.2] TL)
       simpa using this
      have sz9 : X9.heap.size = b1 + 2 := by rw [← hX9, ← hb1]; simp
      (try rw [hb1])
      (try rw [hb1'])
      obtain ⟨LK, hLK⟩ : ∃ LK, looksV em Ss x.2.2 ((rightV G.F.ts.length G.F.ps x.1).drop (x.2.1.toNat + 1)) = LK := ⟨_, rfl⟩
      have hseq := looks_stops G em Ss x w X9 b1 (b1 + 1) hG (cs8.below.trans (hB89.mono cs8.below.size)) h91 h92 hf2 hf3 hx3 hxok.2.2
      rw [hLK] at hseq HC'
      have hTl : T0.length + LK.length * (ofV G.F.ps s).length ≤ 1000000000 := by
       have := closV_len HC'.out
       rw [List.length_append, rowsV_len] at this
       exact this
      obtain ⟨A8, c8, hbx8, hrow8⟩ := cs8.todo
      have rs9 : RS G w (w.heap.size + 1) b6 (b1 + 1) b8 (b1 + 2) s Ds (S ++ [x]) (T0 ++ rowsV G.F.ps s (vals [])) X9 := by
       have e : T0 ++ rowsV G.F.ps s (vals []) = T0 := by simp [vals, rowsV]
       rw [e]
       exact ⟨cs8.keep hB89, ⟨_, zaq hbx8 hB89, fun e' => by have := own_lt hrow8 e'; omega⟩, zaq bs8 hB89, fun D hD => zaq (HD'.out D hD).2 hB89, by omega⟩
      have hDl : ∀ D ∈ Ds, D < b1 := fun D hD => by have := zaw (HD'.out D hD).2; omega
      have hDn : ∀ D ∈ Ds, b6 < D := fun D hD => (HD'.out D hD).1
      have hof : ∀ p ∈ ofV G.F.ps s, 0 ≤ p ∧ p < 1000000 := fun p hp => by have := ofF_mem s 0 G.F.ps p hp; have := hG.psl; omega
      have HSQ := Lib.hid hseq
      have hw8 := cs8.below.size
      clear hlk hX9 HD' i0 i1 i2 i3 hbx8 hrow8 hLK hnv hf1 hf3 hf4 hf5 hf6 hfv h91 h92 hseq cs8 bx8 bs8 hB89 hb1 hln hn hlen hx3
      refine rangeG1 (gf := 42) (lb := #[.pointer (some ⟨b1, 0, none⟩), .pointer (some ⟨b1 + 1, 0, none⟩)]) (enc1 := fun z : I64 => .int .i64 z.1) (q := 10) rfl (enters_of Try.func42 (by kernel_rfl) rfl) HSQ.out (keepQ_refl _ _) keepQ_t (keepQ_b (by omega) (by omega))
       (fun pre X => RS G w (w.heap.size + 1) b6 (b1 + 1) b8 (b1 + 2) s Ds (S ++ [x]) (T0 ++ rowsV G.F.ps s (vals pre)) X)
       (fun pre X X' hs ht => hs.turn ht (by omega) (by omega) (fun D hD => by have := hDl D hD; omega)) rs9 ?assign ?body ?done
      case assign =>
       intro l z X K hK
       simp only [Y1, Y2, Y3] at hK ⊢
       gi_wp2
       exact hK
      case body =>
       intro l pre z X hX9 hi hpN
       simp only [Y1, Y2, Y3]
       gi_wp2
       rename_i K12 hK12
       obtain ⟨M, hM, hMs⟩ := hG.map
       obtain ⟨Ao, co, hlo, hCo⟩ := hMs s hlt hsN
       have hbX : Below w.heap.size w X.drew := zbb hi.cs.below
       have hGx := hG.below hbX
       have hswf : (Lit.int .i64 s).wf = true := by have := hG.few; simp [Lit.wf, IntKind.min, IntKind.max, IntKind.bits, IntKind.signed]; omega
       have hz2 : (zeroValue 50).run Try.prog X.drew = .ok (.slice none 0 0) X.drew := by rfl
       have hlk0 := MapAt.look (hM.keep (W' := X.drew) (hbX.block _ hM.lt)) Try.underlying62 hz2 hswf
       rw [hlo] at hlk0
       have hlk : (Instr.lookup 62 (.map (some G.ob)) (.int .i64 s) false).run Try.prog X.drew = .ok (.slice Ao (ofV G.F.ps s).length co) X.drew := hlk0
       have hHeld : (fun X => X.cell? ⟨w.heap.size, 0, none⟩ = some (.pointer (some ⟨G.sb, 0, none⟩)) ∧ X.cell? ⟨G.sb, 5, none⟩ = some (.map (some G.ob)) ∧ X.cell? ⟨b8, 0, none⟩ = some (.int .i64 s)) X.drew := ⟨zab (zae hi.cs.bx) 0, zab hGx.blk 5, zab (zae (show X.heap[b8]? = some (.cells #[.int .i64 s] 3 (0, 0)) from hi.sym)) 0⟩
       clear hlk0 hz2 hMs hM hlo hGx
       refine start_round (S := (fun X => X.cell? ⟨w.heap.size, 0, none⟩ = some (.pointer (some ⟨G.sb, 0, none⟩)) ∧ X.cell? ⟨G.sb, 5, none⟩ = some (.map (some G.ob)) ∧ X.cell? ⟨b8, 0, none⟩ = some (.int .i64 s))) (ds := []) #[Nf,Nf,Nf,Nf,Nf,Nf,Nf,Nf] (by kernel_rfl) (by kernel_rfl) rfl rfl hHeld (fun h0_ => ?_)
       clear h0_
       refine take_ (i := 0) (N := (some 69)) (v := ?_) (a' := ?_) #[Yt,Nf,Nf,Nf,Nf,Nf,Nf,Nf] rfl rfl (by kernel_rfl) (fun _ _ _ h => h) (Or.inl ⟨by rfl, ?_⟩) hHeld ?_ ?_
       rotate_left
       ·rintro w' ⟨s0, s1, s2⟩
        go_simp
        with_reducible rfl
       rotate_left
       ·simp only [Act.put, Y1, Y2, Y3]
        rfl
       refine pure_ (i := 1) (N := (some 70)) (v := ?_) (a' := ?_) #[Yt,Yt,Nf,Nf,Nf,Nf,Nf,Nf] rfl rfl (by kernel_rfl) (fun _ _ _ h => h) (Or.inl ⟨by rfl, ?_⟩) ?_ ?_
       rotate_left
       ·intro w'
        go_simp
        with_reducible rfl
       rotate_left
       ·simp only [Act.put, Y1, Y2, Y3]
        rfl
       refine pure_ (i := 2) (N := (some 71)) (v := ?_) (a' := ?_) #[Yt,Yt,Yt,Nf,Nf,Nf,Nf,Nf] rfl rfl (by kernel_rfl) (fun _ _ _ h => h) (Or.inl ⟨by rfl, ?_⟩) ?_ ?_
       rotate_left
       ·intro w'
        go_simp
        with_reducible rfl
       rotate_left
       ·simp only [Act.put, Y1, Y2, Y3]
        rfl
       refine take_ (i := 3) (N := (some 72)) (v := ?_) (a' := ?_) #[Yt,Yt,Yt,Yt,Nf,Nf,Nf,Nf] rfl rfl (by kernel_rfl) (fun _ _ _ h => h) (Or.inl ⟨by rfl, ?_⟩) hHeld ?_ ?_
       rotate_left
       ·rintro w' ⟨s0, s1, s2⟩
        go_simp
        with_reducible rfl
       rotate_left
       ·simp only [Act.put, Y1, Y2, Y3]
        rfl
       refine take_ (i := 4) (N := (some 73)) (v := ?_) (a' := ?_) #[Yt,Yt,Yt,Yt,Yt,Nf,Nf,Nf] rfl rfl (by kernel_rfl) (fun _ _ _ h => h) (Or.inl ⟨by rfl, ?_⟩) hHeld ?_ ?_
       rotate_left
       ·rintro w' ⟨s0, s1, s2⟩
        go_simp
        with_reducible rfl
       rotate_left
       ·simp only [Act.put, Y1, Y2, Y3]
        rfl
       refine pure_ (i := 7) (N := (some 76)) (v := ?_) (a' := ?_) #[Yt,Yt,Yt,Yt,Yt,Nf,Nf,Yt] rfl rfl (by kernel_rfl) (fun _ _ _ h => h) (Or.inl ⟨by rfl, ?_⟩) ?_ ?_
       rotate_left
       ·intro w'
        go_simp
        with_reducible rfl
       rotate_left
       ·simp only [Act.put, Y1, Y2, Y3]
        rfl
       refine one_ (i := 5) (N := (some 74)) #[Yt,Yt,Yt,Yt,Yt,Yt,Nf,Yt] rfl rfl (by kernel_rfl) (by decide) (fun K hK => ?_)
       refine zb3 (w1 := X.drew) (v := .slice Ao (ofV G.F.ps s).length co) (by rfl) rfl ?_ ?_
       ·go_simp
       refine hK.out _ _ hHeld (fun h0_ => ?_)
       clear hK K h0_
       refine norm_ (a' := ?_) ?_ ?_
       rotate_left
       ·show Act.put _ (some 74) _ = _
        simp only [Act.put, Y1, Y2, Y3]
        rfl
       refine pure_ (i := 6) (N := (some 75)) (v := ?_) (a' := ?_) #[Yt,Yt,Yt,Yt,Yt,Yt,Yt,Yt] rfl rfl (by kernel_rfl) (fun _ _ _ h => h) (Or.inl ⟨by rfl, ?_⟩) ?_ ?_
       rotate_left
       ·intro w'
        go_simp
        with_reducible rfl
       rotate_left
       ·simp only [Act.put, Y1, Y2, Y3]
        rfl
       refine done_ (by kernel_rfl) ?_
       refine hK12 _ _ ?_
       have rs0 : RS G w (w.heap.size + 1) b6 (b1 + 1) b8 (b1 + 2) s Ds (S ++ [x]) (T0 ++ rowsV G.F.ps s (vals pre)) X.drew := hi.keep (zbb (Below.refl _ _))
       obtain ⟨T1, hT1⟩ : ∃ T1, T0 ++ rowsV G.F.ps s (vals pre) = T1 := ⟨_, rfl⟩
       have hT1l : T1.length = T0.length + pre.length * (ofV G.F.ps s).length := by rw [← hT1, List.length_append, rowsV_len]; simp [vals]
       have hmul : (pre.length + 1) * (ofV G.F.ps s).length ≤ LK.length * (ofV G.F.ps s).length := Nat.mul_le_mul_right _ hpN
       rw [Nat.succ_mul] at hmul
       have hTb : T1.length + (ofV G.F.ps s).length ≤ 1000000000 := by omega
       have HT1 := Lib.hid hT1
       rw [hT1] at rs0
       obtain ⟨OF, hOF⟩ : ∃ OF, ofV G.F.ps s = OF := ⟨_, rfl⟩
       have HOF := Lib.hid hOF
       rw [hOF] at hTb hof hCo
       rw [hOF]
       have hOFl : OF.length ≤ 9223372036854775807 := by omega
       have hzw : (Lit.int .i64 z.1).wf = true := z.2
       have K1 : KeepsFrom 0 X X.drew := ⟨Nat.le_refl _, fun _ _ _ h _ => h⟩
       have K2 : KeepQ w.heap.size (b1 + 1) X X.drew := ⟨⟨zbb (Below.refl _ _), fun _ _ _ => rfl⟩, fun _ _ _ _ h _ _ => h⟩
       obtain ⟨i0, hi0, hz0, hz1, hz2⟩ := info_parts infoLr
       clear hHeld hlk hK12 hi hT1 hmul hOF hT1l hTl hpN
       gi_wp2
       gi_loopw [76] (fun i wr => ∃ q : Nat, i = .int .i64 (q : Int) ∧ q ≤ OF.length ∧ RS G w (w.heap.size + 1) b6 (b1 + 1) b8 (b1 + 2) s Ds (S ++ [x]) (T1 ++ (OF.take q).map fun p => (p, 0, z.1)) wr ∧ KeepsFrom 0 X wr ∧ KeepQ w.heap.size (b1 + 1) X wr) (fun i _ => OF.length - (Go.RowKit.intOf i).toNat)
       case atStart => exact ⟨0, rfl, Nat.zero_le _, by simpa using rs0, K1, K2⟩
       case round =>
        clear rs0 K1 K2
        obtain ⟨q, rfl, hq, hrs, hk1, hk2⟩ := hrel
        by_cases hqt : q < OF.length
        ·obtain ⟨ado, pq, rfl, hpq, f0'⟩ := atInt hCo q hqt
         have f0 := zar hrs.cs.below f0'
         obtain ⟨A5, c5, hbx5, hrow5⟩ := hrs.cs.todo
         have hp5 := hof pq (List.mem_of_getElem? hpq)
         have cv5 := hbx5.cell
         have htk := zch hpq
         have htl : (T1 ++ (OF.take q).map fun p => ((p, 0, z.1) : Lr)).length = T1.length + q := by rw [List.length_append, List.length_map, List.length_take]; omega
         obtain ⟨T5, hT5⟩ : ∃ T5, (T1 ++ (OF.take q).map fun p => ((p, 0, z.1) : Lr)) = T5 := ⟨_, rfl⟩
         have hnext : T1 ++ (OF.take (q + 1)).map (fun p => ((p, 0, z.1) : Lr)) = T5 ++ [((pq, 0, z.1) : Lr)] := by rw [htk, List.map_append, ← List.append_assoc, hT5]; rfl
         rw [hT5] at htl hrs hbx5 hrow5 cv5
         have one : ∀ u ∈ [Value.int .i64 pq, .int .i64 0, .int .i64 z.1], u.oneCell' = true := by
          intro u hu
          simp at hu
          rcases hu with rfl | rfl | rfl <;> rfl
         have H1 := Lib.hid one
         have HN := Lib.hid hnext
         have maxl : maxLen = 9223372036854775807 := rfl
         have HM := Lib.hid maxl
         have hwr5 := hrs.cs.below.size
         have hszr := hrs.sz
         have hlz : lrOk ((pq, 0, z.1) : Lr) := ⟨by simp [Lit.wf, IntKind.min, IntKind.max, IntKind.bits, IntKind.signed]; omega, by show (Lit.int .i64 0).wf = true; decide, hzw⟩
         have HTL := Lib.hid htl
         clear one maxl htk hnext hT5 f0' hpq htl
         gi_wp2_with (gi_at_builtin; refine wpListIn_append_own_at _ rfl _ _ 33 rfl w.heap.size TL i0 (.agg #[.int .i64 0, .int .i64 0, .int .i64 0]) 3 24 Try.underlying33 hi0 hz0 hz1 hz2 rfl (by decide) _ _ _ rfl (hrow5.alloc _) ⟨wr.heap.size, 0, none⟩ 1 1 [.int .i64 pq, .int .i64 0, .int .i64 z.1] rfl rfl (cell_three _ _ _ _) H1.out (by have := HM.out; have := HTL.out; omega) (by have := HTL.out; omega) (by simp; omega) ?_; intro v' w1 hown' hgrow _ hat; obtain ⟨g', cap', rfl⟩ := ownsRow_succ hown'; obtain ⟨hv1, hr2, hk3, hk4⟩ := RS.push hrs hbx5 hrow5 hown' hgrow hat (by omega) hmbb (by omega) (by omega) hlz; have hc1 := hv1.cell; have hf1 := hv1.frozen)
         go_roundw
         case rel => exact ⟨q + 1, by first | rfl | go_num, by omega, by rw [HN.out]; exact hr2, hk1.trans hk3, keepQ_t hk2 hk4⟩
         case measure => simp [Go.RowKit.intOf]; omega
        ·obtain rfl : q = OF.length := by omega
         rw [List.take_length] at hrs
         gi_wp2
         refine ⟨⟨hk1.size, fun j o _ hj hc => hk1.same j o (Nat.zero_le _) hj hc⟩, hk2, ?_⟩
         have e : vals (pre ++ [z]) = vals pre ++ [z.1] := vals_app1 _ _
         show RS _ _ _ _ _ _ _ _ _ _ _ _
         rw [e, rowsV_snoc, ← List.append_assoc, HT1.out, HOF.out]
         exact hrs
      case done =>
       intro D xs X hD hxs hi hDd
       rw [hxs] at hi
       have hnd' : (D :: Ds).Nodup := List.nodup_cons.2 ⟨fun h => by have := hDl D h; omega, hnd⟩
       have hDs' : ∀ E ∈ D :: Ds, b6 < E ∧ X.heap[E]? = some (.deferred (some [])) := by
        intro E hE
        rcases List.mem_cons.1 hE with rfl | hE
        ·exact ⟨by omega, hDd⟩
        ·exact ⟨hDn E hE, hi.ds E hE⟩
       have HH := Lib.hid (And.intro hnd' hDs')
       have hszX := hi.sz
       clear hnd' hDs' hDd hxs hDl hDn
       gi_wp2
       exact ⟨m, by omega, LI.of (S ++ [x]) (T0 ++ rowsV G.F.ps s LK) (D :: Ds) (by rfl) rfl hi.cs HC'.out HH.out.1 HH.out.2 (by omega)⟩
end Go.Proofs.Ytgdmjpehofdnpaa.LClos
end
section
namespace Go.Proofs.Ytgdmjpehofdnpaa.LLay
open Go Go.RowKit Go.Shelf Go.Maps Go.Proofs.YtgdmjpehofdnpaaW.PrintWords Go.Proofs.YtgdmjpehofdnpaaW.PrintLast Go.Proofs.Ytgdmjpehofdnpaa.Round Go.Proofs.Ytgdmjpehofdnpaa.RangeG Go.Proofs.Ytgdmjpehofdnpaa.Fl Go.Proofs.Ytgdmjpehofdnpaa.Grow Go.Proofs.Ytgdmjpehofdnpaa.Deri Go.Proofs.Ytgdmjpehofdnpaa.Begin Go.Proofs.Ytgdmjpehofdnpaa.Begun Go.Proofs.Ytgdmjpehofdnpaa.Seqs Go.Proofs.Ytgdmjpehofdnpaa.LrK Go.Proofs.Ytgdmjpehofdnpaa.GMap Go.Proofs.Ytgdmjpehofdnpaa.LFlat Go.Proofs.Ytgdmjpehofdnpaa.LLooks
set_option linter.unusedVariables false
set_option linter.unusedSimpArgs false
def OfAt (F : FG) (base ob j : Nat) (W : World) : Prop := ∃ M, MapAt keyI ob M W ∧ M.length ≤ j ∧ ∀ i : Nat, i < j → ∃ A c, GMap.look M ((F.ts.length : Int) + (i : Int)) = some (.slice A (ofV F.ps ((F.ts.length : Int) + (i : Int))).length c) ∧ Kd.R (Kd.int .i64) TI W base (fun _ => True) (.slice A (ofV F.ps ((F.ts.length : Int) + (i : Int))).length c) (ofV F.ps ((F.ts.length : Int) + (i : Int)))
theorem R_map {α : Type} {d : Kd α} {e base b : Nat} {W W' : World} {v : Value} {xs : List α} (h : d.R e W base (fun _ => True) v xs) {es : Array MapEntry} {cl : Nat} (hb : W.heap[b]? = some (.map es cl)) (hg : W.grownBy W' (some b)) : d.R e W' base (fun _ => True) v xs :=
 Kd.zbn (Kd.R_grown (Kd.zcf h) hg (fun k hk e' => by
  obtain ⟨_, _, _, q, _, cs, hc⟩ := hk
  injection e' with e'
  rw [e', hb] at hc
  cases hc)) (fun _ _ => trivial)
theorem zcg {W W' : World} {b k : Nat} {cs : Array Value} {t : TypeId} {fr : Nat × Nat} (h : W.heap[k]? = some (.cells cs t fr)) {es : Array MapEntry} {cl : Nat} (hb : W.heap[b]? = some (.map es cl)) (hg : W.grownBy W' (some b)) : W'.heap[k]? = some (.cells cs t fr) :=
 (hg.block k (zaw h) (fun e' => by injection e' with e'; rw [← e', h] at hb; cases hb)).trans h
set_option maxRecDepth 100000 in
set_option maxHeartbeats 8000000 in
theorem lay_calls (F : FG) (w : World) (hFK : F.K w) (N : Nat) (hN : F.ts.length + F.ns.length = N) (hN6 : N ≤ 999999) (hn1 : 1 ≤ F.ns.length) (hpl : F.ps.length ≤ 1000000) (hps : ∀ p ∈ F.ps, PrOk N p ∧ p.2.1.length ≤ 1000)
  (k0 : Nat) (em : List Bool) (hem : growV stepD F.ps k0 (List.replicate N false) = some em) (k1 : Nat) (Ss : List (List Int)) (hSs : growV (stepF N em) F.ps k1 (initV N F.ts.length) = some Ss) (hSl : Ss.length = N) (hfok : ∀ S ∈ Ss, S.length ≤ 1000000 ∧ ∀ z ∈ S, (Lit.int .i64 z).wf = true) :
  Calls Try.prog 16 #[F.val] w fun e w' => ∃ G : SG, e = .returned (.pointer (some ⟨G.sb, 0, none⟩)) ∧ G.F = F ∧ G.N = N ∧ G.At em Ss w' ∧ Below w.heap.size w w' := by
 have hfirst := fun W (hb : Below w.heap.size w W) => Sorts.first_calls W F.A0 F.A1 F.A2 F.ts.length F.ns.length F.c0 F.c1 F.c2 N hN (by omega) F.ps (Kd.zay hFK.h2 hb) (by omega) hps k0 em hem k1 Ss hSs
 have hempty := fun W (hb : Below w.heap.size w W) => empty_calls W F.A0 F.A1 F.A2 F.ts.length F.ns.length F.c0 F.c1 F.c2 N hN F.ps (Kd.zay hFK.h2 hb) (by omega) (fun p hp => (hps p hp).1) k0 em hem
 simp only [FG.val, FG.row]
 have HPS := Lib.hid hps
 have HFO := Lib.hid hfok
 have HEM := Lib.hid hem
 have hmm := @run_makeMap Try.prog
 have hl0 : F.ts.length ≤ 999999 := by omega
 have hl1 : F.ns.length ≤ 999999 := by omega
 clear hps hfok hem hSs
 obtain ⟨W1, hW1⟩ : ∃ W1, w.alloc (.cells #[.slice F.A0 F.ts.length F.c0, .slice F.A1 F.ns.length F.c1, .slice F.A2 F.ps.length F.c2] 25) = W1 := ⟨_, rfl⟩
 have bf : W1.heap[w.heap.size]? = some (.cells #[.slice F.A0 F.ts.length F.c0, .slice F.A1 F.ns.length F.c1, .slice F.A2 F.ps.length F.c2] 25 (0, 0)) := by rw [← hW1]; exact zbe w _
 have hb1 : Below w.heap.size w W1 := by rw [← hW1]; exact (Below.refl _ _).alloc (Nat.le_refl _) _
 go_enter Try.func16, Try.ntmps16
 go_wp2
 rename_i K1 hK1
 (try rw [hW1])
 obtain ⟨Wd, hWd⟩ : ∃ X, W1.drew = X := ⟨_, rfl⟩
 have hbd : Below w.heap.size w Wd := by rw [← hWd]; exact zbb hb1
 have bfd : Wd.heap[w.heap.size]? = some (.cells #[.slice F.A0 F.ts.length F.c0, .slice F.A1 F.ns.length F.c1, .slice F.A2 F.ps.length F.c2] 25 (0, 0)) := by rw [← hWd]; exact zae bf
 have hhd : (fun X => X.cell? ⟨w.heap.size, 0, none⟩ = some (.slice F.A0 F.ts.length F.c0) ∧ X.cell? ⟨w.heap.size, 1, none⟩ = some (.slice F.A1 F.ns.length F.c1) ∧ X.cell? ⟨w.heap.size, 2, none⟩ = some (.slice F.A2 F.ps.length F.c2)) Wd := ⟨zab bfd 0, zab bfd 1, zab bfd 2⟩
 have keep1 : ∀ X Y : World, Below X.heap.size X Y → (fun X => X.cell? ⟨w.heap.size, 0, none⟩ = some (.slice F.A0 F.ts.length F.c0) ∧ X.cell? ⟨w.heap.size, 1, none⟩ = some (.slice F.A1 F.ns.length F.c1) ∧ X.cell? ⟨w.heap.size, 2, none⟩ = some (.slice F.A2 F.ps.length F.c2)) X → (fun X => X.cell? ⟨w.heap.size, 0, none⟩ = some (.slice F.A0 F.ts.length F.c0) ∧ X.cell? ⟨w.heap.size, 1, none⟩ = some (.slice F.A1 F.ns.length F.c1) ∧ X.cell? ⟨w.heap.size, 2, none⟩ = some (.slice F.A2 F.ps.length F.c2)) Y := fun X Y h hh => ⟨zar h hh.1, zar h hh.2.1, zar h hh.2.2⟩
 refine Ahd.wp_qz (zbs (S := (fun X => X.cell? ⟨w.heap.size, 0, none⟩ = some (.slice F.A0 F.ts.length F.c0) ∧ X.cell? ⟨w.heap.size, 1, none⟩ = some (.slice F.A1 F.ns.length F.c1) ∧ X.cell? ⟨w.heap.size, 2, none⟩ = some (.slice F.A2 F.ps.length F.c2))) (ds := []) #[Nf,Nf,Nf,Nf,Nf,Nf,Nf,Nf,Nf] (by kernel_rfl) rfl rfl (by rw [hWd]; exact hhd) (fun h0_ => ?_))
 rw [hWd]
 clear h0_
 refine take_ (i := 0) (N := (some 5)) (v := ?_) (a' := ?_) #[Yt,Nf,Nf,Nf,Nf,Nf,Nf,Nf,Nf] rfl rfl (by kernel_rfl) (fun _ _ _ h => h) (Or.inl ⟨by rfl, ?_⟩) hhd ?_ ?_
 rotate_left
 ·rintro w' ⟨s0, s1, s2⟩
  go_simp
  with_reducible rfl
 rotate_left
 ·simp only [Act.put, Y1, Y2, Y3]
  rfl
 refine take_ (i := 1) (N := (some 6)) (v := ?_) (a' := ?_) #[Yt,Yt,Nf,Nf,Nf,Nf,Nf,Nf,Nf] rfl rfl (by kernel_rfl) (fun _ _ _ h => h) (Or.inl ⟨by rfl, ?_⟩) hhd ?_ ?_
 rotate_left
 ·rintro w' ⟨s0, s1, s2⟩
  go_simp
  with_reducible rfl
 rotate_left
 ·simp only [Act.put, Y1, Y2, Y3]
  rfl
 refine take_ (i := 3) (N := (some 8)) (v := ?_) (a' := ?_) #[Yt,Yt,Nf,Yt,Nf,Nf,Nf,Nf,Nf] rfl rfl (by kernel_rfl) (fun _ _ _ h => h) (Or.inl ⟨by rfl, ?_⟩) hhd ?_ ?_
 rotate_left
 ·rintro w' ⟨s0, s1, s2⟩
  go_simp
  with_reducible rfl
 rotate_left
 ·simp only [Act.put, Y1, Y2, Y3]
  rfl
 refine join_ (σ := Option Addr × Nat × Nat × Nat) 3 #[Yt,Yt,Yt,Yt,Yt,Yt,Nf,Nf,Nf] (fun s => [(7, .slice s.1 Ss.length s.2.1), (9, .slice (some ⟨s.2.2.1, 0, none⟩) N N), (10, .map (some s.2.2.2))]) (fun s w' => w'.heap[w.heap.size]? = some (.cells #[.slice F.A0 F.ts.length F.c0, .slice F.A1 F.ns.length F.c1, .slice F.A2 F.ps.length F.c2] 25 (0, 0)) ∧ Below w.heap.size w w' ∧ Kd.R (Kd.slice TI (Kd.int .i64)) 50 w' w.heap.size (fun _ => True) (.slice s.1 Ss.length s.2.1) Ss ∧ w'.heap[s.2.2.1]? = some (.cells (em.map Value.bool).toArray 4 (0, 0)) ∧ MapAt keyI s.2.2.2 [] w' ∧ w.heap.size ≤ s.2.2.2 ∧ em.length = N ∧ (fun X => X.cell? ⟨w.heap.size, 0, none⟩ = some (.slice F.A0 F.ts.length F.c0) ∧ X.cell? ⟨w.heap.size, 1, none⟩ = some (.slice F.A1 F.ns.length F.c1) ∧ X.cell? ⟨w.heap.size, 2, none⟩ = some (.slice F.A2 F.ps.length F.c2)) w') ?_ ?_
 rotate_left
 ·intro hCont
  refine two_ (i := 2) (j := 5) (Ni := (some 7)) (Nj := (some 10)) #[Yt,Yt,Yt,Yt,Nf,Nf,Nf,Nf,Nf] #[Yt,Yt,Nf,Yt,Nf,Yt,Nf,Nf,Nf] rfl rfl rfl rfl (by kernel_rfl) (by decide) (by decide) (fun K hK => ?_) (fun K hK => ?_)
  ·skip
   refine goes_ Try.func25 (by kernel_rfl) rfl #[.agg #[.slice F.A0 F.ts.length F.c0, .slice F.A1 F.ns.length F.c1, .slice F.A2 F.ps.length F.c2]] (by rfl) rfl rfl (by first | rfl | (simp [Act.eval]; done) | (simp [go_sem]; done)) ?_
   refine (hfirst Wd hbd).mono ?_
   rintro e W3 ⟨v3, rfl, hR3, hB3⟩
   obtain ⟨A3, c3, rfl⟩ := Kd.zbv hR3
   refine ⟨_, rfl, ?_⟩
   have hb3 := hbd.trans (hB3.mono hbd.size)
   have hh3 := keep1 _ _ hB3 hhd
   refine hK.out _ _ hh3 (fun h0_ => ?_)
   clear hK K h0_
   refine norm_ (a' := ?_) ?_ ?_
   rotate_left
   ·show Act.put _ (some 7) _ = _
    simp only [Act.put, Y1, Y2, Y3]
    rfl
   refine two_ (i := 4) (j := 5) (Ni := (some 9)) (Nj := (some 10)) #[Yt,Yt,Yt,Yt,Yt,Nf,Nf,Nf,Nf] #[Yt,Yt,Yt,Yt,Nf,Yt,Nf,Nf,Nf] rfl rfl rfl rfl (by kernel_rfl) (by decide) (by decide) (fun K hK => ?_) (fun K hK => ?_)
   ·skip
    refine goes_ Try.func26 (by kernel_rfl) rfl #[.agg #[.slice F.A0 F.ts.length F.c0, .slice F.A1 F.ns.length F.c1, .slice F.A2 F.ps.length F.c2]] (by rfl) rfl rfl (by first | rfl | (simp [Act.eval]; done) | (simp [go_sem]; done)) ?_
    refine (hempty W3 hb3).mono ?_
    rintro e W4 ⟨g4, rfl, hl4, hg4, hh4_, hB4⟩
    refine ⟨_, rfl, ?_⟩
    have hb4 := hb3.trans (hB4.mono hb3.size)
    have hh4 := keep1 _ _ hB4 hh3
    refine hK.out _ _ hh4 (fun h0_ => ?_)
    clear hK K h0_
    refine norm_ (a' := ?_) ?_ ?_
    rotate_left
    ·show Act.put _ (some 9) _ = _
     simp only [Act.put, Y1, Y2, Y3]
     rfl
    refine one_ (i := 5) (N := (some 10)) #[Yt,Yt,Yt,Yt,Yt,Yt,Nf,Nf,Nf] rfl rfl (by kernel_rfl) (by decide) (fun K hK => ?_)
    refine zb3 (w1 := W4.alloc (.map #[] 0)) (v := .map (some W4.heap.size)) (by rfl) rfl ?_ ?_
    ·go_simp
    obtain ⟨W5, hW5⟩ : ∃ X, W4.alloc (.map #[] 0) = X := ⟨_, rfl⟩
    have ho5 : W5.heap[W4.heap.size]? = some (.map #[] 0) := by rw [← hW5]; exact zbe _ _
    have hm5 : MapAt keyI W4.heap.size [] W5 := by rw [← hW5]; exact MapAt.new _
    obtain ⟨ob, hob⟩ : ∃ b, W4.heap.size = b := ⟨_, rfl⟩
    have hlt5 : w.heap.size ≤ ob := by rw [← hob]; exact hb4.size
    rw [hob] at ho5 hm5
    rw [hob]
    have hB5 : Below W4.heap.size W4 W5 := by rw [← hW5]; exact (Below.refl _ _).alloc (Nat.le_refl _) _
    rw [hW5]
    clear hW5 hob
    have hb5 := hb4.trans (hB5.mono hb4.size)
    have hh5 := keep1 _ _ hB5 hh4
    refine hK.out _ _ hh5 (fun h0_ => ?_)
    clear hK K h0_
    refine norm_ (a' := ?_) ?_ ?_
    rotate_left
    ·show Act.put _ (some 10) _ = _
     simp only [Act.put, Y1, Y2, Y3]
     rfl
    exact norm_ (by first | (simp only [putAll, Act.put, Y1, Y2, Y3]; done) | (simp only [putAll, Act.put, Y1, Y2, Y3]; rfl)) (hCont (A3, c3, g4, ob) _ ⟨(zaq (zaq (zaq bfd hB3) hB4) hB5), hb5, (Kd.zbq (Kd.zbq (Kd.zb1 hR3 hbd.size) hB4) hB5), (zaq hh4_ hB5), hm5, hlt5, hl4, hh5⟩)
   ·skip
    refine zb3 (w1 := W3.alloc (.map #[] 0)) (v := .map (some W3.heap.size)) (by rfl) rfl ?_ ?_
    ·go_simp
    obtain ⟨W5, hW5⟩ : ∃ X, W3.alloc (.map #[] 0) = X := ⟨_, rfl⟩
    have ho5 : W5.heap[W3.heap.size]? = some (.map #[] 0) := by rw [← hW5]; exact zbe _ _
    have hm5 : MapAt keyI W3.heap.size [] W5 := by rw [← hW5]; exact MapAt.new _
    obtain ⟨ob, hob⟩ : ∃ b, W3.heap.size = b := ⟨_, rfl⟩
    have hlt5 : w.heap.size ≤ ob := by rw [← hob]; exact hb3.size
    rw [hob] at ho5 hm5
    rw [hob]
    have hB5 : Below W3.heap.size W3 W5 := by rw [← hW5]; exact (Below.refl _ _).alloc (Nat.le_refl _) _
    rw [hW5]
    clear hW5 hob
    have hb5 := hb3.trans (hB5.mono hb3.size)
    have hh5 := keep1 _ _ hB5 hh3
    refine hK.out _ _ hh5 (fun h0_ => ?_)
    clear hK K h0_
    refine norm_ (a' := ?_) ?_ ?_
    rotate_left
    ·show Act.put _ (some 10) _ = _
     simp only [Act.put, Y1, Y2, Y3]
     rfl
    refine one_ (i := 4) (N := (some 9)) #[Yt,Yt,Yt,Yt,Yt,Yt,Nf,Nf,Nf] rfl rfl (by kernel_rfl) (by decide) (fun K hK => ?_)
    refine goes_ Try.func26 (by kernel_rfl) rfl #[.agg #[.slice F.A0 F.ts.length F.c0, .slice F.A1 F.ns.length F.c1, .slice F.A2 F.ps.length F.c2]] (by rfl) rfl rfl (by first | rfl | (simp [Act.eval]; done) | (simp [go_sem]; done)) ?_
    refine (hempty W5 hb5).mono ?_
    rintro e W4 ⟨g4, rfl, hl4, hg4, hh4_, hB4⟩
    refine ⟨_, rfl, ?_⟩
    have hb4 := hb5.trans (hB4.mono hb5.size)
    have hh4 := keep1 _ _ hB4 hh5
    refine hK.out _ _ hh4 (fun h0_ => ?_)
    clear hK K h0_
    refine norm_ (a' := ?_) ?_ ?_
    rotate_left
    ·show Act.put _ (some 9) _ = _
     simp only [Act.put, Y1, Y2, Y3]
     rfl
    exact norm_ (by first | (simp only [putAll, Act.put, Y1, Y2, Y3]; done) | (simp only [putAll, Act.put, Y1, Y2, Y3]; rfl)) (hCont (A3, c3, g4, ob) _ ⟨(zaq (zaq (zaq bfd hB3) hB5) hB4), hb4, (Kd.zbq (Kd.zbq (Kd.zb1 hR3 hbd.size) hB5) hB4), hh4_, (hm5.keep (hB4.block _ (hm5).lt)), hlt5, hl4, hh4⟩)
  ·skip
   refine zb3 (w1 := Wd.alloc (.map #[] 0)) (v := .map (some Wd.heap.size)) (by rfl) rfl ?_ ?_
   ·go_simp
   obtain ⟨W5, hW5⟩ : ∃ X, Wd.alloc (.map #[] 0) = X := ⟨_, rfl⟩
   have ho5 : W5.heap[Wd.heap.size]? = some (.map #[] 0) := by rw [← hW5]; exact zbe _ _
   have hm5 : MapAt keyI Wd.heap.size [] W5 := by rw [← hW5]; exact MapAt.new _
   obtain ⟨ob, hob⟩ : ∃ b, Wd.heap.size = b := ⟨_, rfl⟩
   have hlt5 : w.heap.size ≤ ob := by rw [← hob]; exact hbd.size
   rw [hob] at ho5 hm5
   rw [hob]
   have hB5 : Below Wd.heap.size Wd W5 := by rw [← hW5]; exact (Below.refl _ _).alloc (Nat.le_refl _) _
   rw [hW5]
   clear hW5 hob
   have hb5 := hbd.trans (hB5.mono hbd.size)
   have hh5 := keep1 _ _ hB5 hhd
   refine hK.out _ _ hh5 (fun h0_ => ?_)
   clear hK K h0_
   refine norm_ (a' := ?_) ?_ ?_
   rotate_left
   ·show Act.put _ (some 10) _ = _
    simp only [Act.put, Y1, Y2, Y3]
    rfl
   refine one_ (i := 2) (N := (some 7)) #[Yt,Yt,Yt,Yt,Nf,Yt,Nf,Nf,Nf] rfl rfl (by kernel_rfl) (by decide) (fun K hK => ?_)
   refine goes_ Try.func25 (by kernel_rfl) rfl #[.agg #[.slice F.A0 F.ts.length F.c0, .slice F.A1 F.ns.length F.c1, .slice F.A2 F.ps.length F.c2]] (by rfl) rfl rfl (by first | rfl | (simp [Act.eval]; done) | (simp [go_sem]; done)) ?_
   refine (hfirst W5 hb5).mono ?_
   rintro e W3 ⟨v3, rfl, hR3, hB3⟩
   obtain ⟨A3, c3, rfl⟩ := Kd.zbv hR3
   refine ⟨_, rfl, ?_⟩
   have hb3 := hb5.trans (hB3.mono hb5.size)
   have hh3 := keep1 _ _ hB3 hh5
   refine hK.out _ _ hh3 (fun h0_ => ?_)
   clear hK K h0_
   refine norm_ (a' := ?_) ?_ ?_
   rotate_left
   ·show Act.put _ (some 7) _ = _
    simp only [Act.put, Y1, Y2, Y3]
    rfl
   refine one_ (i := 4) (N := (some 9)) #[Yt,Yt,Yt,Yt,Yt,Yt,Nf,Nf,Nf] rfl rfl (by kernel_rfl) (by decide) (fun K hK => ?_)
   refine goes_ Try.func26 (by kernel_rfl) rfl #[.agg #[.slice F.A0 F.ts.length F.c0, .slice F.A1 F.ns.length F.c1, .slice F.A2 F.ps.length F.c2]] (by rfl) rfl rfl (by first | rfl | (simp [Act.eval]; done) | (simp [go_sem]; done)) ?_
   refine (hempty W3 hb3).mono ?_
   rintro e W4 ⟨g4, rfl, hl4, hg4, hh4_, hB4⟩
   refine ⟨_, rfl, ?_⟩
   have hb4 := hb3.trans (hB4.mono hb3.size)
   have hh4 := keep1 _ _ hB4 hh3
   refine hK.out _ _ hh4 (fun h0_ => ?_)
   clear hK K h0_
   refine norm_ (a' := ?_) ?_ ?_
   rotate_left
   ·show Act.put _ (some 9) _ = _
    simp only [Act.put, Y1, Y2, Y3]
    rfl
   exact norm_ (by first | (simp only [putAll, Act.put, Y1, Y2, Y3]; done) | (simp only [putAll, Act.put, Y1, Y2, Y3]; rfl)) (hCont (A3, c3, g4, ob) _ ⟨(zaq (zaq (zaq bfd hB5) hB3) hB4), hb4, (Kd.zbq (Kd.zb1 hR3 hb5.size) hB4), hh4_, ((hm5.keep (hB3.block _ (hm5).lt)).keep (hB4.block _ ((hm5.keep (hB3.block _ (hm5).lt))).lt)), hlt5, hl4, hh4⟩)
 rintro ⟨A3, c3, g4, ob⟩ W6 ⟨bf6, hb6, hR6, hg6, hm6, hlt6, heml, hh6⟩
 refine norm_ (a' := ?_) ?_ ?_
 rotate_left
 ·simp only [putAll, Act.put, Y1, Y2, Y3]
  rfl
 refine pure_ (i := 6) (N := (some 11)) (v := ?_) (a' := ?_) #[Yt,Yt,Yt,Yt,Yt,Yt,Yt,Nf,Nf] rfl rfl (by kernel_rfl) (fun _ _ _ h => h) (Or.inl ⟨by rfl, ?_⟩) ?_ ?_
 rotate_left
 ·intro w'
  go_simp
  with_reducible rfl
 rotate_left
 ·simp only [Act.put, Y1, Y2, Y3]
  rfl
 refine one_ (i := 7) (N := (some 12)) #[Yt,Yt,Yt,Yt,Yt,Yt,Yt,Yt,Nf] rfl rfl (by kernel_rfl) (by decide) (fun K hK => ?_)
 refine zb3 (w1 := W6.alloc (.cells #[.slice F.A0 F.ts.length F.c0, .slice F.A1 F.ns.length F.c1, .slice F.A2 F.ps.length F.c2, .slice A3 Ss.length c3, .slice (some ⟨g4, 0, none⟩) N N, .map (some ob)] 64)) (v := .pointer (some ⟨W6.heap.size, 0, none⟩)) (by rfl) rfl ?_ ?_
 ·go_simp
 have hB6a : Below W6.heap.size W6 (W6.alloc (.cells #[.slice F.A0 F.ts.length F.c0, .slice F.A1 F.ns.length F.c1, .slice F.A2 F.ps.length F.c2, .slice A3 Ss.length c3, .slice (some ⟨g4, 0, none⟩) N N, .map (some ob)] 64)) := (Below.refl _ _).alloc (Nat.le_refl _) _
 have hh6a := keep1 _ _ hB6a hh6
 refine hK.out _ _ hh6a (fun h0_ => ?_)
 clear hK K h0_
 refine norm_ (a' := ?_) ?_ ?_
 rotate_left
 ·show Act.put _ (some 12) _ = _
  simp only [Act.put, Y1, Y2, Y3]
  rfl
 refine pure_ (i := 8) (N := (some 3)) (v := ?_) (a' := ?_) #[Yt,Yt,Yt,Yt,Yt,Yt,Yt,Yt,Yt] rfl rfl (by kernel_rfl) (fun _ _ _ h => h) (Or.inl ⟨by rfl, ?_⟩) ?_ ?_
 rotate_left
 ·intro w'
  go_simp
  with_reducible rfl
 rotate_left
 ·simp only [Act.put, Y1, Y2, Y3]
  rfl
 refine done_ (by kernel_rfl) ?_
 refine hK1 _ _ ?_
 have bs := zbe W6 (.cells #[.slice F.A0 F.ts.length F.c0, .slice F.A1 F.ns.length F.c1, .slice F.A2 F.ps.length F.c2, .slice A3 Ss.length c3, .slice (some ⟨g4, 0, none⟩) N N, .map (some ob)] 64)
 obtain ⟨W7, hW7⟩ : ∃ X, W6.alloc (.cells #[.slice F.A0 F.ts.length F.c0, .slice F.A1 F.ns.length F.c1, .slice F.A2 F.ps.length F.c2, .slice A3 Ss.length c3, .slice (some ⟨g4, 0, none⟩) N N, .map (some ob)] 64) = X := ⟨_, rfl⟩
 obtain ⟨sb, hsb⟩ : ∃ b, W6.heap.size = b := ⟨_, rfl⟩
 rw [hW7] at bs hB6a hh6a
 rw [hsb] at bs
 rw [hW7]
 (try rw [hsb])
 have hb7 : Below w.heap.size w W7 := hb6.trans (hB6a.mono hb6.size)
 have hR7 := Kd.zbq hR6 hB6a
 have hg7 := zaq hg6 hB6a
 have hm7 : OfAt F w.heap.size ob 0 W7 := ⟨[], hm6.keep (hB6a.block _ hm6.lt), Nat.le_refl _, fun i hi => absurd hi (Nat.not_lt_zero _)⟩
 have bf7 : W7.cell? ⟨w.heap.size, 1, none⟩ = some (.slice F.A1 F.ns.length F.c1) := hh6a.2.1
 have HH7 := Lib.hid (show W7.heap[w.heap.size]? = some (.cells #[.slice F.A0 F.ts.length F.c0, .slice F.A1 F.ns.length F.c1, .slice F.A2 F.ps.length F.c2] 25 (0, 0)) by rw [← hW7]; exact zah bf6 _)
 have hob : ob ≠ sb := by
  intro e
  obtain ⟨es, cl, h⟩ := hm6.block
  exact absurd (zaw h) (by rw [e, hsb]; exact Nat.lt_irrefl _)
 have hsw : w.heap.size ≤ sb := by rw [← hsb]; exact hb6.size
 clear hK1 keep1 hhd hfirst hempty hmm hR6 hg6 hm6 hh6 hB6a hh6a hW7 hsb hWd hbd bfd bf hb1 hW1 hb6
 go_wp2
 go_loopw [16] (fun i wr => ∃ j : Nat, i = .int .i64 (j : Int) ∧ j ≤ F.ns.length ∧ OfAt F w.heap.size ob j wr ∧ Kd.R (Kd.slice TI (Kd.int .i64)) 50 wr w.heap.size (fun _ => True) (.slice A3 Ss.length c3) Ss ∧ Hid (wr.heap[g4]? = some (.cells (em.map Value.bool).toArray 4 (0, 0))) ∧ Hid (wr.heap[sb]? = some (.cells #[.slice F.A0 F.ts.length F.c0, .slice F.A1 F.ns.length F.c1, .slice F.A2 F.ps.length F.c2, .slice A3 Ss.length c3, .slice (some ⟨g4, 0, none⟩) N N, .map (some ob)] 64 (0, 0))) ∧ Hid (wr.heap[w.heap.size]? = some (.cells #[.slice F.A0 F.ts.length F.c0, .slice F.A1 F.ns.length F.c1, .slice F.A2 F.ps.length F.c2] 25 (0, 0))) ∧ Below w.heap.size w wr) (fun i _ => F.ns.length - (Go.RowKit.intOf i).toNat)
 case atStart => exact ⟨0, rfl, Nat.zero_le _, hm7, hR7, Lib.hid hg7, Lib.hid bs, HH7, hb7⟩
 case round =>
  clear hm7 hR7 hg7 bs HH7 hb7 bf7
  obtain ⟨j, rfl, hj, hO, hR, HG, HS, HH, hb⟩ := hrel
  by_cases hlt : j < F.ns.length
  ·have hwr : IntKind.i64.wrap ((F.ts.length : Int) + (j : Int)) = (F.ts.length : Int) + (j : Int) := by rw [IntKind.wrap_i64]; omega
   have hswf : (Lit.int .i64 ((F.ts.length : Int) + (j : Int))).wf = true := by simp [Lit.wf, IntKind.min, IntKind.max, IntKind.bits, IntKind.signed]; omega
   obtain ⟨M, hmap, hMl, hMs⟩ := hO
   have HM := Lib.hid hMs
   clear hMs
   go_wp2
   rename_i K5 hK5
   have hbd : Below w.heap.size w wr.drew := zbb hb
   have hmd : MapAt keyI ob M wr.drew := hmap.keep rfl
   have hHeld : (fun X => X.cell? ⟨sb, 5, none⟩ = some (.map (some ob)) ∧ X.cell? ⟨w.heap.size, 0, none⟩ = some (.slice F.A0 F.ts.length F.c0) ∧ X.cell? ⟨w.heap.size, 1, none⟩ = some (.slice F.A1 F.ns.length F.c1) ∧ X.cell? ⟨w.heap.size, 2, none⟩ = some (.slice F.A2 F.ps.length F.c2)) wr.drew := ⟨zab (zae HS.out) 5, zab (zae HH.out) 0, zab (zae HH.out) 1, zab (zae HH.out) 2⟩
   have keep5 : ∀ X Y : World, Below X.heap.size X Y → (fun X => X.cell? ⟨sb, 5, none⟩ = some (.map (some ob)) ∧ X.cell? ⟨w.heap.size, 0, none⟩ = some (.slice F.A0 F.ts.length F.c0) ∧ X.cell? ⟨w.heap.size, 1, none⟩ = some (.slice F.A1 F.ns.length F.c1) ∧ X.cell? ⟨w.heap.size, 2, none⟩ = some (.slice F.A2 F.ps.length F.c2)) X → (fun X => X.cell? ⟨sb, 5, none⟩ = some (.map (some ob)) ∧ X.cell? ⟨w.heap.size, 0, none⟩ = some (.slice F.A0 F.ts.length F.c0) ∧ X.cell? ⟨w.heap.size, 1, none⟩ = some (.slice F.A1 F.ns.length F.c1) ∧ X.cell? ⟨w.heap.size, 2, none⟩ = some (.slice F.A2 F.ps.length F.c2)) Y := fun X Y h hh => ⟨zar h hh.1, zar h hh.2.1, zar h hh.2.2.1, zar h hh.2.2.2⟩
   refine Ahd.wp_qz (zbs (S := (fun X => X.cell? ⟨sb, 5, none⟩ = some (.map (some ob)) ∧ X.cell? ⟨w.heap.size, 0, none⟩ = some (.slice F.A0 F.ts.length F.c0) ∧ X.cell? ⟨w.heap.size, 1, none⟩ = some (.slice F.A1 F.ns.length F.c1) ∧ X.cell? ⟨w.heap.size, 2, none⟩ = some (.slice F.A2 F.ps.length F.c2))) (ds := [16]) #[Nf,Nf,Nf,Nf,Nf,Nf,Nf,Nf,Nf,Nf,Nf,Nf,Nf,Nf,Nf,Nf,Nf] (by kernel_rfl) rfl rfl hHeld (fun h0_ => ?_))
   clear h0_
   refine pure_ (i := 0) (N := (some 19)) (v := ?_) (a' := ?_) #[Yt,Nf,Nf,Nf,Nf,Nf,Nf,Nf,Nf,Nf,Nf,Nf,Nf,Nf,Nf,Nf,Nf] rfl rfl (by kernel_rfl) (fun _ _ _ h => h) (Or.inl ⟨by rfl, ?_⟩) ?_ ?_
   rotate_left
   ·intro w'
    go_simp
    with_reducible rfl
   rotate_left
   ·simp only [Act.put, Y1, Y2, Y3]
    rfl
   refine pure_ (i := 1) (N := (some 20)) (v := ?_) (a' := ?_) #[Yt,Yt,Nf,Nf,Nf,Nf,Nf,Nf,Nf,Nf,Nf,Nf,Nf,Nf,Nf,Nf,Nf] rfl rfl (by kernel_rfl) (fun _ _ _ h => h) (Or.inl ⟨by rfl, ?_⟩) ?_ ?_
   rotate_left
   ·intro w'
    go_simp
    with_reducible rfl
   rotate_left
   ·simp only [Act.put, Y1, Y2, Y3]
    rfl
   refine pure_ (i := 2) (N := (some 21)) (v := ?_) (a' := ?_) #[Yt,Yt,Yt,Nf,Nf,Nf,Nf,Nf,Nf,Nf,Nf,Nf,Nf,Nf,Nf,Nf,Nf] rfl rfl (by kernel_rfl) (fun _ _ _ h => h) (Or.inl ⟨by rfl, ?_⟩) ?_ ?_
   rotate_left
   ·intro w'
    go_simp
    with_reducible rfl
   rotate_left
   ·simp only [Act.put, Y1, Y2, Y3]
    rfl
   refine take_ (i := 3) (N := (some 22)) (v := ?_) (a' := ?_) #[Yt,Yt,Yt,Yt,Nf,Nf,Nf,Nf,Nf,Nf,Nf,Nf,Nf,Nf,Nf,Nf,Nf] rfl rfl (by kernel_rfl) (fun _ _ _ h => h) (Or.inl ⟨by rfl, ?_⟩) hHeld ?_ ?_
   rotate_left
   ·rintro w' ⟨s0, s1, s2, s3⟩
    go_simp
    with_reducible rfl
   rotate_left
   ·simp only [Act.put, Y1, Y2, Y3]
    rfl
   refine pure_ (i := 4) (N := (some 23)) (v := ?_) (a' := ?_) #[Yt,Yt,Yt,Yt,Yt,Nf,Nf,Nf,Nf,Nf,Nf,Nf,Nf,Nf,Nf,Nf,Nf] rfl rfl (by kernel_rfl) (fun _ _ _ h => h) (Or.inl ⟨by rfl, ?_⟩) ?_ ?_
   rotate_left
   ·intro w'
    go_simp
    with_reducible rfl
   rotate_left
   ·simp only [Act.put, Y1, Y2, Y3]
    rfl
   refine take_ (i := 5) (N := (some 24)) (v := ?_) (a' := ?_) #[Yt,Yt,Yt,Yt,Yt,Yt,Nf,Nf,Nf,Nf,Nf,Nf,Nf,Nf,Nf,Nf,Nf] rfl rfl (by kernel_rfl) (fun _ _ _ h => h) (Or.inl ⟨by rfl, ?_⟩) hHeld ?_ ?_
   rotate_left
   ·rintro w' ⟨s0, s1, s2, s3⟩
    go_simp
    with_reducible rfl
   rotate_left
   ·simp only [Act.put, Y1, Y2, Y3]
    rfl
   refine pure_ (i := 6) (N := (some 25)) (v := ?_) (a' := ?_) #[Yt,Yt,Yt,Yt,Yt,Yt,Yt,Nf,Nf,Nf,Nf,Nf,Nf,Nf,Nf,Nf,Nf] rfl rfl (by kernel_rfl) (fun _ _ _ h => h) (Or.inl ⟨by rfl, ?_⟩) ?_ ?_
   rotate_left
   ·intro w'
    go_simp
    with_reducible rfl
   rotate_left
   ·simp only [Act.put, Y1, Y2, Y3]
    rfl
   refine pure_ (i := 7) (N := (some 26)) (v := ?_) (a' := ?_) #[Yt,Yt,Yt,Yt,Yt,Yt,Yt,Yt,Nf,Nf,Nf,Nf,Nf,Nf,Nf,Nf,Nf] rfl rfl (by kernel_rfl) (fun _ _ _ h => h) (Or.inl ⟨by rfl, ?_⟩) ?_ ?_
   rotate_left
   ·intro w'
    go_simp
    with_reducible rfl
   rotate_left
   ·simp only [Act.put, Y1, Y2, Y3]
    rfl
   refine pure_ (i := 8) (N := (some 27)) (v := ?_) (a' := ?_) #[Yt,Yt,Yt,Yt,Yt,Yt,Yt,Yt,Yt,Nf,Nf,Nf,Nf,Nf,Nf,Nf,Nf] rfl rfl (by kernel_rfl) (fun _ _ _ h => h) (Or.inl ⟨by rfl, ?_⟩) ?_ ?_
   rotate_left
   ·intro w'
    go_simp
    with_reducible rfl
   rotate_left
   ·simp only [Act.put, Y1, Y2, Y3]
    rfl
   refine take_ (i := 9) (N := (some 28)) (v := ?_) (a' := ?_) #[Yt,Yt,Yt,Yt,Yt,Yt,Yt,Yt,Yt,Yt,Nf,Nf,Nf,Nf,Nf,Nf,Nf] rfl rfl (by kernel_rfl) (fun _ _ _ h => h) (Or.inl ⟨by rfl, ?_⟩) hHeld ?_ ?_
   rotate_left
   ·rintro w' ⟨s0, s1, s2, s3⟩
    go_simp
    with_reducible rfl
   rotate_left
   ·simp only [Act.put, Y1, Y2, Y3]
    rfl
   refine pure_ (i := 10) (N := (some 29)) (v := ?_) (a' := ?_) #[Yt,Yt,Yt,Yt,Yt,Yt,Yt,Yt,Yt,Yt,Yt,Nf,Nf,Nf,Nf,Nf,Nf] rfl rfl (by kernel_rfl) (fun _ _ _ h => h) (Or.inl ⟨by rfl, ?_⟩) ?_ ?_
   rotate_left
   ·intro w'
    go_simp
    with_reducible rfl
   rotate_left
   ·simp only [Act.put, Y1, Y2, Y3]
    rfl
   refine take_ (i := 11) (N := (some 30)) (v := ?_) (a' := ?_) #[Yt,Yt,Yt,Yt,Yt,Yt,Yt,Yt,Yt,Yt,Yt,Yt,Nf,Nf,Nf,Nf,Nf] rfl rfl (by kernel_rfl) (fun _ _ _ h => h) (Or.inl ⟨by rfl, ?_⟩) hHeld ?_ ?_
   rotate_left
   ·rintro w' ⟨s0, s1, s2, s3⟩
    go_simp
    with_reducible rfl
   rotate_left
   ·simp only [Act.put, Y1, Y2, Y3]
    rfl
   refine pure_ (i := 12) (N := (some 31)) (v := ?_) (a' := ?_) #[Yt,Yt,Yt,Yt,Yt,Yt,Yt,Yt,Yt,Yt,Yt,Yt,Yt,Nf,Nf,Nf,Nf] rfl rfl (by kernel_rfl) (fun _ _ _ h => h) (Or.inl ⟨by rfl, ?_⟩) ?_ ?_
   rotate_left
   ·intro w'
    go_simp
    with_reducible rfl
   rotate_left
   ·simp only [Act.put, Y1, Y2, Y3]
    rfl
   refine pure_ (i := 13) (N := (some 32)) (v := ?_) (a' := ?_) #[Yt,Yt,Yt,Yt,Yt,Yt,Yt,Yt,Yt,Yt,Yt,Yt,Yt,Yt,Nf,Nf,Nf] rfl rfl (by kernel_rfl) (fun _ _ _ h => h) (Or.inl ⟨by rfl, ?_⟩) ?_ ?_
   rotate_left
   ·intro w'
    go_simp
    with_reducible rfl
   rotate_left
   ·simp only [Act.put, Y1, Y2, Y3]
    rfl
   refine pure_ (i := 14) (N := (some 33)) (v := ?_) (a' := ?_) #[Yt,Yt,Yt,Yt,Yt,Yt,Yt,Yt,Yt,Yt,Yt,Yt,Yt,Yt,Yt,Nf,Nf] rfl rfl (by kernel_rfl) (fun _ _ _ h => h) (Or.inl ⟨by rfl, ?_⟩) ?_ ?_
   rotate_left
   ·intro w'
    go_simp
    with_reducible rfl
   rotate_left
   ·simp only [Act.put, Y1, Y2, Y3]
    rfl
   refine one_ (i := 15) (N := (some 34)) #[Yt,Yt,Yt,Yt,Yt,Yt,Yt,Yt,Yt,Yt,Yt,Yt,Yt,Yt,Yt,Yt,Nf] rfl rfl (by kernel_rfl) (by decide) (fun K hK => ?_)
   refine goes_ Try.func27 (by kernel_rfl) rfl #[.agg #[.slice F.A0 F.ts.length F.c0, .slice F.A1 F.ns.length F.c1, .slice F.A2 F.ps.length F.c2], .int .i64 ((F.ts.length : Int) + (j : Int))] (by rfl) rfl rfl (by first | rfl | (simp [Act.eval]; done) | (simp [go_sem]; done)) ?_
   refine (of_calls F ((F.ts.length : Int) + (j : Int)) wr.drew (hFK.below hbd) (by omega)).mono ?_
   rintro e W8 ⟨v8, rfl, hR8, hB8⟩
   obtain ⟨A8, c8, rfl⟩ := Kd.zbv hR8
   refine ⟨_, rfl, ?_⟩
   have hh8 := keep5 _ _ hB8 hHeld
   have hm8 := hmd.keep (hB8.block _ hmd.lt)
   obtain ⟨W9, hup, hm9, hg9⟩ := MapAt.put hm8 Try.underlying62 (by simp [maxLen]; omega) hswf (.slice A8 (ofV F.ps ((F.ts.length : Int) + (j : Int))).length c8)
   have hup' : (Instr.mapUpdate 62 (.map (some ob)) (.int .i64 ((F.ts.length : Int) + (j : Int))) (.slice A8 (ofV F.ps ((F.ts.length : Int) + (j : Int))).length c8)).run Try.prog W8 = .ok () W9 := hup
   refine hK.out _ _ hh8 (fun h0_ => ?_)
   clear hK K h0_
   refine last_ (i := 16) (N := none) #[Yt,Yt,Yt,Yt,Yt,Yt,Yt,Yt,Yt,Yt,Yt,Yt,Yt,Yt,Yt,Yt,Yt] rfl rfl (by kernel_rfl) (by decide) (fun K hK0 => ?_)
   refine skip_ (w1 := W9) (by rfl) rfl ?_ ?_
   ·go_simp
   refine hK0.out _ _ ?_
   refine done_ (by kernel_rfl) ?_
   refine hK5 _ _ ?_
   obtain ⟨es, cl, hmo⟩ := hm8.block
   have hb8 := hbd.trans (hB8.mono hbd.size)
   have hb9 : Below w.heap.size w W9 := hb8.grown hg9 hb8.size (fun k hk => by cases hk; omega)
   have n1 := Lib.hid (zcg (zaq (zae HG.out) hB8) hmo hg9)
   have n2 := Lib.hid (zcg (zaq (zae HS.out) hB8) hmo hg9)
   have n3 := Lib.hid (zcg (zaq (zae HH.out) hB8) hmo hg9)
   have n4 := R_map (Kd.zbq (Kd.zbg hR) hB8) hmo hg9
   have n5 : OfAt F w.heap.size ob (j + 1) W9 := by
    refine ⟨_, hm9, by have := putM_le ((F.ts.length : Int) + (j : Int)) (.slice A8 (ofV F.ps ((F.ts.length : Int) + (j : Int))).length c8) M; omega, fun i hi => ?_⟩
    rw [look_put]
    by_cases he : i = j
    ·subst he
     rw [if_pos rfl]
     exact ⟨A8, c8, rfl, R_map (Kd.zb1 hR8 hbd.size) hmo hg9⟩
    ·rw [if_neg (by omega)]
     obtain ⟨A, c, e1, e2⟩ := HM.out i (by omega)
     exact ⟨A, c, e1, R_map (Kd.zbq (Kd.zbg e2) hB8) hmo hg9⟩
   clear hHeld keep5 hh8 hup hup' hm8 hm9 hg9 hR8 hmo hR HG HS HH hK5 hbd hmd hmap hB8 hb8 hb
   go_wp2
   go_roundw
   case rel => exact ⟨j + 1, by first | rfl | go_num, by omega, n5, n4, n1, n2, n3, hb9⟩
   case measure => simp [Go.RowKit.intOf]; omega
  ·obtain rfl : j = F.ns.length := by omega
   have HO := Lib.hid hO
   have HR := Lib.hid hR
   clear hO hR
   go_wp2
   go_ret
   obtain ⟨M, hmap, hMl, hMs⟩ := HO.out
   obtain ⟨_, _, hC⟩ := Kd.R_reads' HR.out
   refine ⟨⟨sb, ob, F, A3, some ⟨g4, 0, none⟩, c3, N, N⟩, rfl, rfl, rfl, ⟨by rw [← hSl]; simpa [hSl] using HS.out, hN, by show N ≤ 1000000; omega, hn1, hFK.below hb, by rw [← hSl]; exact hC, HFO.out, ?_, ⟨M, hmap, fun s h1 h2 => ?_⟩, hpl, HPS.out⟩, hb⟩
   ·refine ⟨heml, by show N ≤ 9223372036854775807; omega, fun _ => ⟨⟨g4, 0, none⟩, rfl, fun q p hq => ⟨[.bool p], rfl, rfl, fun i v hv => ?_⟩⟩⟩
    have hi0 : i = 0 := by
     cases i with
     | zero => rfl
     | succ i => simp at hv
    subst hi0
    obtain rfl : Value.bool p = v := by simpa using hv
    show wr.cell? ((⟨g4, 0, none⟩ : Addr).add (q * 1 + 0)) = _
    rw [add_plain, zab HG.out]
    simp [hq]
   ·obtain ⟨i, hi⟩ : ∃ i : Nat, s = (F.ts.length : Int) + (i : Int) := ⟨(s - F.ts.length).toNat, by have h1' : (F.ts.length : Int) ≤ s := h1; omega⟩
    subst hi
    obtain ⟨A, c, e1, e2⟩ := hMs i (by have h2' : ((F.ts.length : Int) + (i : Int)) < (N : Int) := h2; omega)
    obtain ⟨_, _, hC'⟩ := Kd.R_reads' e2
    exact ⟨A, c, e1, hC'⟩
end Go.Proofs.Ytgdmjpehofdnpaa.LLay
end
section
namespace Go.Proofs.Ytgdmjpehofdnpaa.LInv
open Go Go.RowKit Go.Shelf Go.Maps Go.Proofs.YtgdmjpehofdnpaaW.PrintWords Go.Proofs.Ytgdmjpehofdnpaa.Fl Go.Proofs.Ytgdmjpehofdnpaa.Grow Go.Proofs.Ytgdmjpehofdnpaa.Deri Go.Proofs.Ytgdmjpehofdnpaa.MSet Go.Proofs.Ytgdmjpehofdnpaa.Ahd Go.Proofs.Ytgdmjpehofdnpaa.Begin Go.Proofs.Ytgdmjpehofdnpaa.Begun Go.Proofs.Ytgdmjpehofdnpaa.Seqs Go.Proofs.Ytgdmjpehofdnpaa.LFlat Go.Proofs.Ytgdmjpehofdnpaa.LLooks
set_option linter.unusedVariables false
set_option linter.unusedSimpArgs false
structure Inv (N : Nat) (FS : List (List Int)) : Prop where
 r : ∀ S ∈ FS, Rises S
 l : FS.length = N
 d : Bd FS
theorem getD_mem {FS : List (List Int)} {i : Nat} : FS.getD i [] = [] ∨ FS.getD i [] ∈ FS := by
 rw [List.getD_eq_getElem?_getD]
 cases e : FS[i]? with
 | none => exact .inl rfl
 | some S => exact .inr (List.mem_of_getElem? e)
theorem Inv.rise {N : Nat} {FS : List (List Int)} (h : Inv N FS) (i : Nat) : Rises (FS.getD i []) := by
 rcases getD_mem (FS := FS) (i := i) with e | e
 ·rw [e]; exact List.Pairwise.nil
 ·exact h.r _ e
theorem Inv.bnd {N : Nat} {FS : List (List Int)} (h : Inv N FS) (i : Nat) : ∀ x ∈ FS.getD i [], 0 ≤ x ∧ x < 1000000 := by
 rcases getD_mem (FS := FS) (i := i) with e | e
 ·rw [e]; exact fun _ h => nomatch h
 ·exact h.d _ e
theorem Inv.len {N : Nat} {FS : List (List Int)} (h : Inv N FS) (i : Nat) : (FS.getD i []).length ≤ 1000000 := by
 rcases getD_mem (FS := FS) (i := i) with e | e
 ·rw [e]; simp
 ·exact bd_len h.d h.r _ e
theorem Inv.set {N : Nat} {FS : List (List Int)} (h : Inv N FS) (i : Nat) {X : List Int} (h1 : Rises X) (h2 : ∀ x ∈ X, 0 ≤ x ∧ x < 1000000) : Inv N (FS.set i X) := by
 refine ⟨fun S hS => ?_, by rw [List.length_set]; exact h.l, fun S hS => ?_⟩
 ·rcases List.mem_or_eq_of_mem_set hS with hS | rfl
  ·exact h.r S hS
  ·exact h1
 ·rcases List.mem_or_eq_of_mem_set hS with hS | rfl
  ·exact h.d S hS
  ·exact h2
theorem Inv.stepF {N : Nat} {em : List Bool} {FS : List (List Int)} {p : P} (h : Inv N FS) : Inv N (Begin.stepF N em FS p).1 := by
 refine ⟨fun S hS => ?_, by show (List.set _ _ _).length = _; rw [List.length_set]; exact h.l, stepF_bd h.d⟩
 rcases List.mem_or_eq_of_mem_set hS with hS | rfl
 ·exact h.r S hS
 ·exact unionV_rises _ (h.rise _)
theorem Inv.init {N n0 : Nat} (hN : N ≤ 1000000) : Inv N (initV N n0) := by
 refine ⟨fun S hS => ?_, initV_len _ _, initV_bd hN⟩
 obtain ⟨q, hq, e⟩ := List.mem_iff_getElem.1 hS
 have := initV_get (S := S) (by rw [List.getElem?_eq_getElem hq, e])
 subst this
 split
 ·exact List.pairwise_singleton _ _
 ·exact List.Pairwise.nil
theorem inv_grow {N : Nat} {em : List Bool} {ps : List P} : ∀ (k : Nat) (FS Ss : List (List Int)), Inv N FS → growV (stepF N em) ps k FS = some Ss → Inv N Ss
 | 0, _, _, _, h => nomatch h
 | k + 1, FS, Ss, hI, h => by
  have hr : ∀ (l : List P) (s : List (List Int) × Bool), Inv N s.1 → Inv N (l.foldl (roundV (stepF N em)) s).1 := by
   intro l
   induction l with
   | nil => exact fun s h => h
   | cons p t ih => exact fun s h => ih _ (Inv.stepF h)
  have h1 : Inv N (roundsV (stepF N em) ps FS).1 := hr ps (FS, false) hI
  simp only [growV] at h
  split at h
  ·exact inv_grow k _ _ h1 h
  ·cases h
   exact h1
structure Rdy (F : FG) (k : Nat) (em : List Bool) (Ss : List (List Int)) : Prop where
 n6 : F.ts.length + F.ns.length ≤ 999999
 n1 : 1 ≤ F.ns.length
 pl : F.ps.length ≤ 1000000
 ps : ∀ p ∈ F.ps, PrOk (F.ts.length + F.ns.length) p ∧ p.2.1.length ≤ 1000
 he : growV stepD F.ps k (List.replicate (F.ts.length + F.ns.length) false) = some em
 hs : growV (stepF (F.ts.length + F.ns.length) em) F.ps k (initV (F.ts.length + F.ns.length) F.ts.length) = some Ss
theorem Rdy.inv {F : FG} {k : Nat} {em : List Bool} {Ss : List (List Int)} (h : Rdy F k em Ss) : Inv (F.ts.length + F.ns.length) Ss := inv_grow k _ _ (Inv.init (by have := h.n6; omega)) h.hs
theorem layR_calls (F : FG) (w : World) (hK : F.K w) (k : Nat) (em : List Bool) (Ss : List (List Int)) (h : Rdy F k em Ss) :
  Calls Try.prog 16 #[F.val] w fun e w' => ∃ G : SG, e = .returned (.pointer (some ⟨G.sb, 0, none⟩)) ∧ G.F = F ∧ G.N = F.ts.length + F.ns.length ∧ G.At em Ss w' ∧ Below w.heap.size w w' :=
 LLay.lay_calls F w hK _ rfl h.n6 h.n1 h.pl h.ps k em h.he k Ss h.hs h.inv.l (fun S hS => ⟨bd_len h.inv.d h.inv.r S hS, fun z hz => by have := h.inv.d S hS z hz; simp [Lit.wf, IntKind.min, IntKind.max, IntKind.bits, IntKind.signed]; omega⟩)
end Go.Proofs.Ytgdmjpehofdnpaa.LInv
end
section
namespace Go.Proofs.Ytgdmjpehofdnpaa.LStep
open Go Go.RowKit Go.Shelf Go.Maps Go.Proofs.YtgdmjpehofdnpaaW.PrintWords Go.Proofs.YtgdmjpehofdnpaaW.PrintLast Go.Proofs.Ytgdmjpehofdnpaa.Round Go.Proofs.Ytgdmjpehofdnpaa.RangeG Go.Proofs.Ytgdmjpehofdnpaa.Fl Go.Proofs.Ytgdmjpehofdnpaa.Grow Go.Proofs.Ytgdmjpehofdnpaa.Deri Go.Proofs.Ytgdmjpehofdnpaa.Seqs Go.Proofs.Ytgdmjpehofdnpaa.LrK Go.Proofs.Ytgdmjpehofdnpaa.LSeq Go.Proofs.Ytgdmjpehofdnpaa.LLex Go.Proofs.Ytgdmjpehofdnpaa.LSort Go.Proofs.Ytgdmjpehofdnpaa.LFlat Go.Proofs.Ytgdmjpehofdnpaa.LLooks Go.Proofs.Ytgdmjpehofdnpaa.LClos Go.Proofs.Ytgdmjpehofdnpaa.LInv
set_option linter.unusedVariables false
set_option linter.unusedSimpArgs false
def stepV (n0 : Nat) (ps : List P) (sym : Int) : List Lr → List Lr
 | [] => []
 | x :: t => if nextV n0 ps x = some sym then (x.1, x.2.1 + 1, x.2.2) :: stepV n0 ps sym t else stepV n0 ps sym t
theorem stepV_app (n0 : Nat) (ps : List P) (sym : Int) (x : Lr) : ∀ l : List Lr, stepV n0 ps sym (l ++ [x]) = stepV n0 ps sym l ++ (if nextV n0 ps x = some sym then [(x.1, x.2.1 + 1, x.2.2)] else [])
 | [] => by simp only [List.nil_append, stepV]
 | a :: t => by
  have ih := stepV_app n0 ps sym x t
  simp only [List.cons_append, stepV, ih]
  split <;> rfl
theorem stepV_len (n0 : Nat) (ps : List P) (sym : Int) : ∀ l : List Lr, (stepV n0 ps sym l).length ≤ l.length
 | [] => Nat.le_refl _
 | a :: t => by
  have ih := stepV_len n0 ps sym t
  simp only [stepV]
  split <;> simp <;> omega
theorem stepV_mem {n0 : Nat} {ps : List P} {sym : Int} {z : Lr} : ∀ {l : List Lr}, z ∈ stepV n0 ps sym l ↔ ∃ x ∈ l, nextV n0 ps x = some sym ∧ z = (x.1, x.2.1 + 1, x.2.2)
 | [] => by simp [stepV]
 | a :: t => by
  have ih := stepV_mem (n0 := n0) (ps := ps) (sym := sym) (z := z) (l := t)
  simp only [stepV]
  split
  ·rename_i h
   rw [List.mem_cons, ih]
   constructor
   ·rintro (h1 | ⟨x, h1, h2⟩)
    ·exact ⟨a, by simp, h, h1⟩
    ·exact ⟨x, by simp [h1], h2⟩
   ·rintro ⟨x, h1, h2, h3⟩
    rcases List.mem_cons.1 h1 with rfl | h1
    ·exact .inl h3
    ·exact .inr ⟨x, h1, h2, h3⟩
  ·rename_i h
   rw [ih]
   constructor
   ·rintro ⟨x, h1, h2⟩
    exact ⟨x, by simp [h1], h2⟩
   ·rintro ⟨x, h1, h2, h3⟩
    rcases List.mem_cons.1 h1 with rfl | h1
    ·exact absurd h2 h
    ·exact ⟨x, h1, h2, h3⟩
theorem next_fit {n0 : Nat} {ps : List P} {x : Lr} {s : Int} (h : nextV n0 ps x = some s) : fitV n0 ps x = true ∧ x.2.1 < ((rightV n0 ps x.1).length : Int) := by
 unfold nextV at h
 split at h
 ·rename_i hf
  obtain ⟨_, _, h2, h3, _, _⟩ := fitV_iff.1 hf
  refine ⟨hf, ?_⟩
  by_cases hlt : x.2.1.toNat < (rightV n0 ps x.1).length
  ·omega
  ·rw [List.getElem?_eq_none (by omega)] at h
   cases h
 ·cases h
theorem next_step {n0 : Nat} {ps : List P} {x : Lr} {s : Int} (h : nextV n0 ps x = some s) : fitV n0 ps (x.1, x.2.1 + 1, x.2.2) = true := by
 obtain ⟨hf, hl⟩ := next_fit h
 obtain ⟨h0, h1, h2, h3, h4, h5⟩ := fitV_iff.1 hf
 exact fitV_iff.2 ⟨h0, h1, by show 0 ≤ x.2.1 + 1; omega, by show x.2.1 + 1 ≤ ((rightV n0 ps x.1).length : Int); omega, h4, h5⟩
theorem right_len {N n0 : Nat} {ps : List P} (h : ∀ p ∈ ps, PrOk N p ∧ p.2.1.length ≤ 1000) (prod : Int) : (rightV n0 ps prod).length ≤ 1000 := by
 unfold rightV
 split
 ·simp
 ·rw [List.getD_eq_getElem?_getD]
  cases e : ps[prod.toNat]? with
  | none => simp [dP]
  | some p => exact (h p (List.mem_of_getElem? e)).2
set_option maxRecDepth 100000 in
set_option maxHeartbeats 8000000 in
theorem step_calls (G : SG) (em : List Bool) (Ss : List (List Int)) (l : List Lr) (A : Option Addr) (c : Nat) (sym : Int) (w : World) (hG : G.At em Ss w) (hC : Kd.C kLr w A l.length l) (hll : l.length ≤ 1000000000) (k : Nat) (r : List Lr) (h : closV G.F.ts.length G.F.ps em Ss k [] (stepV G.F.ts.length G.F.ps sym l) = some r) :
  Calls Try.prog 18 #[.pointer (some ⟨G.sb, 0, none⟩), .slice A l.length c, .int .i64 sym] w fun e w' => ∃ v, e = .returned v ∧ Kd.R kLr TL w' w.heap.size (fun _ => True) v (srtL r) ∧ Below w.heap.size w w' := by
 have hok : ∀ z ∈ stepV G.F.ts.length G.F.ps sym l, lrOk z := by
  intro z hz
  obtain ⟨x, _, hn, rfl⟩ := stepV_mem.1 hz
  have := right_len (n0 := G.F.ts.length) hG.prs x.1
  exact fit_ok (next_step hn) hG.psl (by have := hG.few; have := hG.nn; omega) (by show (rightV G.F.ts.length G.F.ps x.1).length ≤ 1000000; omega)
 have HH := Lib.hid h
 have HOK := Lib.hid hok
 have HG := Lib.hid hG
 clear h hok hG
 go_enter Try.func18, Try.ntmps18
 go_wp2
 go_loopw [14, 7] (fun i o wr => ∃ j : Nat, i = .int .i64 (j : Int) ∧ j ≤ l.length ∧ Kd.R kLr TL wr w.heap.size (fun _ => True) o (stepV G.F.ts.length G.F.ps sym (l.take j)) ∧ Below w.heap.size w wr) (fun i _ _ => l.length - (Go.RowKit.intOf i).toNat)
 case atStart => exact ⟨0, rfl, Nat.zero_le _, Kd.R_nil _ _ _ _ _, Below.refl _ _⟩
 case round =>
  obtain ⟨j, rfl, hj, hR, hb⟩ := hrel
  by_cases hlt : j < l.length
  ·obtain ⟨ad, x, rfl, hx, f0', f1', f2'⟩ := atLr hC j hlt
   have f0 := zar hb f0'
   have f1 := zar hb f1'
   have f2 := zar hb f2'
   have hGr := HG.out.below hb
   obtain ⟨W1, hW1⟩ : ∃ X, wr.alloc (.cells #[.int .i64 x.1, .int .i64 x.2.1, .int .i64 x.2.2] 39) = X := ⟨_, rfl⟩
   obtain ⟨bx, hbx⟩ : ∃ b, wr.heap.size = b := ⟨_, rfl⟩
   have b1 := zbe wr (.cells #[.int .i64 x.1, .int .i64 x.2.1, .int .i64 x.2.2] 39)
   have hB1 : Below wr.heap.size wr W1 := by rw [← hW1]; exact (Below.refl _ _).alloc (Nat.le_refl _) _
   have hb1 : Below w.heap.size w W1 := hb.trans (hB1.mono hb.size)
   have hR1 := Kd.zbq (Kd.zbn (ok' := fun k => k ≠ bx) (Kd.zcf hR) (fun k hk e => by have := hk.2.2.1; omega)) hB1
   have hl7 := hb.size
   have htk := zch hx
   have hsl := stepV_len G.F.ts.length G.F.ps sym (l.take j)
   rw [List.length_take] at hsl
   rw [hW1, hbx] at b1
   rw [hbx] at hl7
   clear f0' f1' f2' hx hR
   go_wp2
   rename_i K5 hK5
   (try rw [hW1])
   (try rw [hbx])
   have hG1 := HG.out.below hb1
   have hGd := HG.out.below (zbb hb1)
   clear hW1 hB1 hGr f0 f1 f2 hbx hb
   have hHeld : (fun X => X.cell? ⟨G.sb, 0, none⟩ = some (.slice G.F.A0 G.F.ts.length G.F.c0) ∧ X.cell? ⟨G.sb, 1, none⟩ = some (.slice G.F.A1 G.F.ns.length G.F.c1) ∧ X.cell? ⟨G.sb, 2, none⟩ = some (.slice G.F.A2 G.F.ps.length G.F.c2) ∧ X.cell? ⟨bx, 0, none⟩ = some (.int .i64 x.1) ∧ X.cell? ⟨bx, 1, none⟩ = some (.int .i64 x.2.1) ∧ X.cell? ⟨bx, 2, none⟩ = some (.int .i64 x.2.2)) W1.drew := ⟨zab (zae hG1.blk) 0, zab (zae hG1.blk) 1, zab (zae hG1.blk) 2, zab (zae b1) 0, zab (zae b1) 1, zab (zae b1) 2⟩
   have keep5 : ∀ X Y : World, Below X.heap.size X Y → (fun X => X.cell? ⟨G.sb, 0, none⟩ = some (.slice G.F.A0 G.F.ts.length G.F.c0) ∧ X.cell? ⟨G.sb, 1, none⟩ = some (.slice G.F.A1 G.F.ns.length G.F.c1) ∧ X.cell? ⟨G.sb, 2, none⟩ = some (.slice G.F.A2 G.F.ps.length G.F.c2) ∧ X.cell? ⟨bx, 0, none⟩ = some (.int .i64 x.1) ∧ X.cell? ⟨bx, 1, none⟩ = some (.int .i64 x.2.1) ∧ X.cell? ⟨bx, 2, none⟩ = some (.int .i64 x.2.2)) X → (fun X => X.cell? ⟨G.sb, 0, none⟩ = some (.slice G.F.A0 G.F.ts.length G.F.c0) ∧ X.cell? ⟨G.sb, 1, none⟩ = some (.slice G.F.A1 G.F.ns.length G.F.c1) ∧ X.cell? ⟨G.sb, 2, none⟩ = some (.slice G.F.A2 G.F.ps.length G.F.c2) ∧ X.cell? ⟨bx, 0, none⟩ = some (.int .i64 x.1) ∧ X.cell? ⟨bx, 1, none⟩ = some (.int .i64 x.2.1) ∧ X.cell? ⟨bx, 2, none⟩ = some (.int .i64 x.2.2)) Y := fun X Y h hh => ⟨zar h hh.1, zar h hh.2.1, zar h hh.2.2.1, zar h hh.2.2.2.1, zar h hh.2.2.2.2.1, zar h hh.2.2.2.2.2⟩
   refine Ahd.wp_qz (zbs (S := (fun X => X.cell? ⟨G.sb, 0, none⟩ = some (.slice G.F.A0 G.F.ts.length G.F.c0) ∧ X.cell? ⟨G.sb, 1, none⟩ = some (.slice G.F.A1 G.F.ns.length G.F.c1) ∧ X.cell? ⟨G.sb, 2, none⟩ = some (.slice G.F.A2 G.F.ps.length G.F.c2) ∧ X.cell? ⟨bx, 0, none⟩ = some (.int .i64 x.1) ∧ X.cell? ⟨bx, 1, none⟩ = some (.int .i64 x.2.1) ∧ X.cell? ⟨bx, 2, none⟩ = some (.int .i64 x.2.2))) (ds := []) #[Nf,Nf,Nf,Nf,Nf,Nf,Nf,Nf,Nf,Nf,Nf] (by kernel_rfl) rfl rfl hHeld (fun h0_ => ?_))
   clear h0_
   refine pure_ (i := 0) (N := (some 19)) (v := ?_) (a' := ?_) #[Yt,Nf,Nf,Nf,Nf,Nf,Nf,Nf,Nf,Nf,Nf] rfl rfl (by kernel_rfl) (fun _ _ _ h => h) (Or.inl ⟨by rfl, ?_⟩) ?_ ?_
   rotate_left
   ·intro w'
    go_simp
    with_reducible rfl
   rotate_left
   ·simp only [Act.put, Y1, Y2, Y3]
    rfl
   refine pure_ (i := 1) (N := (some 20)) (v := ?_) (a' := ?_) #[Yt,Yt,Nf,Nf,Nf,Nf,Nf,Nf,Nf,Nf,Nf] rfl rfl (by kernel_rfl) (fun _ _ _ h => h) (Or.inl ⟨by rfl, ?_⟩) ?_ ?_
   rotate_left
   ·intro w'
    go_simp
    with_reducible rfl
   rotate_left
   ·simp only [Act.put, Y1, Y2, Y3]
    rfl
   refine pure_ (i := 2) (N := (some 21)) (v := ?_) (a' := ?_) #[Yt,Yt,Yt,Nf,Nf,Nf,Nf,Nf,Nf,Nf,Nf] rfl rfl (by kernel_rfl) (fun _ _ _ h => h) (Or.inl ⟨by rfl, ?_⟩) ?_ ?_
   rotate_left
   ·intro w'
    go_simp
    with_reducible rfl
   rotate_left
   ·simp only [Act.put, Y1, Y2, Y3]
    rfl
   refine take_ (i := 3) (N := (some 22)) (v := ?_) (a' := ?_) #[Yt,Yt,Yt,Yt,Nf,Nf,Nf,Nf,Nf,Nf,Nf] rfl rfl (by kernel_rfl) (fun _ _ _ h => h) (Or.inl ⟨by rfl, ?_⟩) hHeld ?_ ?_
   rotate_left
   ·rintro w' ⟨s0, s1, s2, s3, s4, s5⟩
    go_simp
    with_reducible rfl
   rotate_left
   ·simp only [Act.put, Y1, Y2, Y3]
    rfl
   refine take_ (i := 4) (N := (some 23)) (v := ?_) (a' := ?_) #[Yt,Yt,Yt,Yt,Yt,Nf,Nf,Nf,Nf,Nf,Nf] rfl rfl (by kernel_rfl) (fun _ _ _ h => h) (Or.inl ⟨by rfl, ?_⟩) hHeld ?_ ?_
   rotate_left
   ·rintro w' ⟨s0, s1, s2, s3, s4, s5⟩
    go_simp
    with_reducible rfl
   rotate_left
   ·simp only [Act.put, Y1, Y2, Y3]
    rfl
   refine one_ (i := 5) (N := (some 24)) #[Yt,Yt,Yt,Yt,Yt,Yt,Nf,Nf,Nf,Nf,Nf] rfl rfl (by kernel_rfl) (by decide) (fun K hK => ?_)
   refine goes_ Try.func28 (by kernel_rfl) rfl #[.agg #[.slice G.F.A0 G.F.ts.length G.F.c0, .slice G.F.A1 G.F.ns.length G.F.c1, .slice G.F.A2 G.F.ps.length G.F.c2], .agg #[.int .i64 x.1, .int .i64 x.2.1, .int .i64 x.2.2]] (by rfl) rfl rfl (by first | rfl | (simp [Act.eval]; done) | (simp [go_sem]; done)) ?_
   refine (next_calls G.F x W1.drew hGd.K).mono ?_
   rintro e W4 ⟨rfl, hB4⟩
   refine ⟨_, rfl, ?_⟩
   have hh4 := keep5 _ _ hB4 hHeld
   refine hK.out _ _ hh4 (fun h0_ => ?_)
   clear hK K h0_
   refine pure_ (i := 6) (N := (some 18)) (v := ?_) (a' := ?_) #[Yt,Yt,Yt,Yt,Yt,Yt,Yt,Nf,Nf,Nf,Nf] rfl rfl (by kernel_rfl) (fun _ _ _ h => h) (Or.inl ⟨by rfl, ?_⟩) ?_ ?_
   rotate_left
   ·intro w'
    go_simp
    with_reducible rfl
   rotate_left
   ·simp only [Act.put, Y1, Y2, Y3]
    rfl
   refine pure_ (i := 7) (N := (some 25)) (v := ?_) (a' := ?_) #[Yt,Yt,Yt,Yt,Yt,Yt,Yt,Yt,Nf,Nf,Nf] rfl rfl (by kernel_rfl) (fun _ _ _ h => h) (Or.inl ⟨by rfl, ?_⟩) ?_ ?_
   rotate_left
   ·intro w'
    go_simp
    with_reducible rfl
   rotate_left
   ·simp only [Act.put, Y1, Y2, Y3]
    rfl
   refine pure_ (i := 8) (N := (some 26)) (v := ?_) (a' := ?_) #[Yt,Yt,Yt,Yt,Yt,Yt,Yt,Yt,Yt,Nf,Nf] rfl rfl (by kernel_rfl) (fun _ _ _ h => h) (Or.inl ⟨by rfl, ?_⟩) ?_ ?_
   rotate_left
   ·intro w'
    go_simp
    with_reducible rfl
   rotate_left
   ·simp only [Act.put, Y1, Y2, Y3]
    rfl
   refine pure_ (i := 9) (N := (some 10)) (v := ?_) (a' := ?_) #[Yt,Yt,Yt,Yt,Yt,Yt,Yt,Yt,Yt,Yt,Nf] rfl rfl (by kernel_rfl) (fun _ _ _ h => h) (Or.inl ⟨by rfl, ?_⟩) ?_ ?_
   rotate_left
   ·intro w'
    go_simp
    with_reducible rfl
   rotate_left
   ·simp only [Act.put, Y1, Y2, Y3]
    rfl
   refine pure_ (i := 10) (N := (some 11)) (v := ?_) (a' := ?_) #[Yt,Yt,Yt,Yt,Yt,Yt,Yt,Yt,Yt,Yt,Yt] rfl rfl (by kernel_rfl) (fun _ _ _ h => h) (Or.inl ⟨by rfl, ?_⟩) ?_ ?_
   rotate_left
   ·intro w'
    go_simp
    with_reducible rfl
   rotate_left
   ·simp only [Act.put, Y1, Y2, Y3]
    rfl
   refine done_ (by kernel_rfl) ?_
   refine hK5 _ _ ?_
   have hB14 : Below W1.heap.size W1 W4 := (zbb (Below.refl W1.heap.size W1)).trans hB4
   have b4 := zaq b1 hB14
   have hb4 := hb1.trans (hB14.mono hb1.size)
   have hR4 := Kd.zbq hR1 hB14
   obtain ⟨nv, hnv⟩ : ∃ nv, nextV G.F.ts.length G.F.ps x = nv := ⟨_, rfl⟩
   rw [hnv]
   clear hK5 hHeld keep5 hh4 hB4 hGd hG1 hB14 hR1 b1 hb1
   have hfin : ∀ (b : Bool), (nv = some sym) = (b = true) → stepV G.F.ts.length G.F.ps sym (l.take (j + 1)) = stepV G.F.ts.length G.F.ps sym (l.take j) ++ (if b = true then [(x.1, x.2.1 + 1, x.2.2)] else []) := by
    intro b hb
    rw [htk, stepV_app, hnv]
    simp only [hb]
   have HFIN := Lib.hid hfin
   clear hfin htk
   cases nv with
   | none =>
    have HF := HFIN.out false (by simp)
    simp only [Bool.false_eq_true, if_false, List.append_nil] at HF
    have HF' := Lib.hid HF
    simp only [Option.getD_none, Option.isSome_none]
    clear HF hnv
    go_wp2
    go_roundw
    case rel => exact ⟨j + 1, by first | rfl | go_num, by omega, by rw [HF'.out]; exact Kd.zbn hR4 (fun _ _ => trivial), hb4⟩
    case measure => simp [Go.RowKit.intOf]; omega
   | some s =>
    simp only [Option.getD_some, Option.isSome_some]
    by_cases hs : s = sym
    ·subst hs
     have HF := HFIN.out true (by simp)
     simp only [if_true] at HF
     have HF' := Lib.hid HF
     have hwr : IntKind.i64.wrap (x.2.1 + 1) = x.2.1 + 1 := by
      obtain ⟨hf, hl⟩ := next_fit hnv
      obtain ⟨_, _, q2, _, _, _⟩ := fitV_iff.1 hf
      have := right_len (n0 := G.F.ts.length) HG.out.prs x.1
      rw [IntKind.wrap_i64]; omega
     have i1 : W4.cell? ⟨bx, 1, none⟩ = some (.int .i64 x.2.1) := zab b4 1
     have z1 : W4.frozen? ⟨bx, 1, none⟩ = false := zak b4 1
     have b5 := blk_set b4 1 (.int .i64 (x.2.1 + 1))
     have e5 : (#[Value.int .i64 x.1, .int .i64 x.2.1, .int .i64 x.2.2].setIfInBounds 1 (.int .i64 (x.2.1 + 1))) = #[.int .i64 x.1, .int .i64 (x.2.1 + 1), .int .i64 x.2.2] := rfl
     rw [e5] at b5
     obtain ⟨W5, hW5⟩ : ∃ X, W4.setCell ⟨bx, 1, none⟩ (.int .i64 (x.2.1 + 1)) = X := ⟨_, rfl⟩
     have hR5 : Kd.R kLr TL W5 w.heap.size (fun _ => True) u7 (stepV G.F.ts.length G.F.ps s (l.take j)) := by rw [← hW5]; exact Kd.zbn (Kd.R_far hR4 (p := ⟨bx, 1, none⟩) (fun k hk => hk) _) (fun _ _ => trivial)
     have hb5 : Below w.heap.size w W5 := by rw [← hW5]; exact hb4.setCell (p := ⟨bx, 1, none⟩) (by show w.heap.size ≤ bx; omega) _
     rw [hW5] at b5
     have g0 : W5.cell? ⟨bx, 0, none⟩ = some (.int .i64 x.1) := zab b5 0
     have g1 : W5.cell? ⟨bx, 1, none⟩ = some (.int .i64 (x.2.1 + 1)) := zab b5 1
     have g2 : W5.cell? ⟨bx, 2, none⟩ = some (.int .i64 x.2.2) := zab b5 2
     have hsz5 := hb5.size
     clear HF hnv e5 b4 b5 hR4 HFIN
     go_wp2_with (at_builtin; (refine Kd.R_append kLr (w0 := w) w.heap.size rfl (.tmp 37) (.tmp 39) 33 TL (.agg #[.int .i64 0, .int .i64 0, .int .i64 0]) 24 rfl Try.underlying33 infoLr rfl (by decide) (by decide) u7 _ ((x.1, x.2.1 + 1, x.2.2) : Lr) [.int .i64 x.1, .int .i64 (x.2.1 + 1), .int .i64 x.2.2] (fun _ => True) (fun _ => False) rfl rfl ((kLr_M _ _ _ _ _).2 rfl) (fun _ h => h.elim) (fun _ _ => trivial) hR5 hb5 hsz5 (by omega) ?_); intro v1 W6 R6 hb6 hg6 _)
     go_roundw
     case rel => exact ⟨j + 1, by first | rfl | go_num, by omega, by rw [HF'.out]; exact R6, hb6⟩
     case measure => simp [Go.RowKit.intOf]; omega
    ·have HF := HFIN.out false (by simp [hs])
     simp only [Bool.false_eq_true, if_false, List.append_nil] at HF
     have HF' := Lib.hid HF
     have hse : (s == sym) = false := by simpa using hs
     clear HF hnv
     go_wp2
     go_roundw
     case rel => exact ⟨j + 1, by first | rfl | go_num, by omega, by rw [HF'.out]; exact Kd.zbn hR4 (fun _ _ => trivial), hb4⟩
     case measure => simp [Go.RowKit.intOf]; omega
  ·obtain rfl : j = l.length := by omega
   rw [List.take_length] at hR
   obtain ⟨A5, c5, hv, hl5, hC5⟩ := Kd.R_reads hR
   subst hv
   have hcl := closure_calls G em Ss _ A5 c5 wr (HG.out.below hb) hC5 HOK.out k r HH.out
   go_wp2_with (go_at_call 22; refine hcl.mono ?_; rintro e W2 ⟨v2, rfl, R2, hB2⟩)
   go_ret
   exact ⟨_, rfl, Kd.zb1 R2 hb.size, hb.trans (hB2.mono hb.size)⟩
theorem start_calls (G : SG) (em : List Bool) (Ss : List (List Int)) (w : World) (hG : G.At em Ss w) (k : Nat) (r : List Lr) (h : closV G.F.ts.length G.F.ps em Ss k [] [(-1, 0, (G.F.ts.length : Int))] = some r) :
  Calls Try.prog 17 #[.pointer (some ⟨G.sb, 0, none⟩)] w fun e w' => ∃ v, e = .returned v ∧ Kd.R kLr TL w' w.heap.size (fun _ => True) v (srtL r) ∧ Below w.heap.size w w' := by
 have c0 : w.cell? ⟨G.sb, 0, none⟩ = some (.slice G.F.A0 G.F.ts.length G.F.c0) := zab hG.blk 0
 have hl0 : G.F.ts.length ≤ 1000000 := by have := hG.few; have := hG.nn; omega
 have hb1 : Below w.heap.size w (w.alloc (.cells #[.int .i64 (-1), .int .i64 0, .int .i64 (G.F.ts.length : Int)] 39)) := (Below.refl _ _).alloc (Nat.le_refl _) _
 have hC : Kd.C kLr (w.alloc (.cells #[.int .i64 (-1), .int .i64 0, .int .i64 (G.F.ts.length : Int)] 39)) (some ⟨w.heap.size, 0, none⟩) [((-1, 0, (G.F.ts.length : Int)) : Lr)].length [((-1, 0, (G.F.ts.length : Int)) : Lr)] := by
  refine ⟨rfl, by simp, fun _ => ⟨_, rfl, fun j p hj => ?_⟩⟩
  obtain rfl : j = 0 := by
   cases j with
   | zero => rfl
   | succ j => simp at hj
  obtain rfl : ((-1, 0, (G.F.ts.length : Int)) : Lr) = p := by simpa using hj
  refine ⟨[.int .i64 (-1), .int .i64 0, .int .i64 (G.F.ts.length : Int)], rfl, ⟨[.int .i64 (-1)], [.int .i64 0, .int .i64 (G.F.ts.length : Int)], rfl, rfl, ⟨[.int .i64 0], [.int .i64 (G.F.ts.length : Int)], rfl, rfl, rfl⟩⟩, fun i v hv => ?_⟩
  have := cell_three w (.int .i64 (-1)) (.int .i64 0) (.int .i64 (G.F.ts.length : Int)) i v hv
  rwa [show 0 * kLr.sz + i = i by omega]
 have hcl := closure_calls G em Ss _ _ 1 _ (hG.below hb1) hC (fun x hx => by
  obtain rfl := List.mem_singleton.1 hx
  refine ⟨by show (Lit.int .i64 (-1)).wf = true; decide, by show (Lit.int .i64 0).wf = true; decide, ?_⟩
  show (Lit.int .i64 (G.F.ts.length : Int)).wf = true
  simp [Lit.wf, IntKind.min, IntKind.max, IntKind.bits, IntKind.signed]
  omega) k r h
 have HC := Lib.hid hC
 clear hC
 go_enter Try.func17, Try.ntmps17
 go_wp2_with (go_at_call 22; refine hcl.mono ?_; rintro e W2 ⟨v2, rfl, R2, hB2⟩)
 go_ret
 exact ⟨_, rfl, Kd.zb1 R2 hb1.size, hb1.trans (hB2.mono hb1.size)⟩
theorem closureF_calls (F : FG) (w : World) (hK : F.K w) (k : Nat) (em : List Bool) (Ss : List (List Int)) (hr : Rdy F k em Ss) (l : List Lr) (A : Option Addr) (c : Nat) (hC : Kd.C kLr w A l.length l) (hok : ∀ x ∈ l, lrOk x) (r : List Lr) (h : closV F.ts.length F.ps em Ss k [] l = some r) :
  Calls Try.prog 12 #[F.val, .slice A l.length c] w fun e w' => ∃ v, e = .returned v ∧ Kd.R kLr TL w' w.heap.size (fun _ => True) v (srtL r) ∧ Below w.heap.size w w' := by
 have hl0 : F.ts.length ≤ 999999 := by have := hr.n6; omega
 have hb1 : Below w.heap.size w (w.alloc (.cells F.row 25)) := (Below.refl _ _).alloc (Nat.le_refl _) _
 have hly := layR_calls F (w.alloc (.cells F.row 25)) (hK.below hb1) k em Ss hr
 have hcl := fun (G : SG) W (hb : Below w.heap.size w W) (hG : G.At em Ss W) (hF : G.F = F) => closure_calls G em Ss l A c W hG (Kd.zay hC hb) hok k r (by rw [hF]; exact h)
 have HC := Lib.hid hC
 clear hC h
 simp only [FG.val, FG.row] at *
 go_enter Try.func12, Try.ntmps12
 go_wp2_with (first
  | (go_at_call 16; refine hly.mono ?_; rintro e W1 ⟨G, rfl, hGF, hGN, hG, hB1⟩; have hbw := hb1.trans (hB1.mono hb1.size); have hc2 := hcl G W1 hbw hG hGF)
  | (go_at_call 22; refine hc2.mono ?_; rintro e W2 ⟨v2, rfl, R2, hB2⟩))
 go_ret
 exact ⟨_, rfl, Kd.zb1 R2 hbw.size, hbw.trans (hB2.mono hbw.size)⟩
theorem gotoF_calls (F : FG) (w : World) (hK : F.K w) (k : Nat) (em : List Bool) (Ss : List (List Int)) (hr : Rdy F k em Ss) (l : List Lr) (A : Option Addr) (c : Nat) (sym : Int) (hC : Kd.C kLr w A l.length l) (hll : l.length ≤ 1000000000) (r : List Lr) (h : closV F.ts.length F.ps em Ss k [] (stepV F.ts.length F.ps sym l) = some r) :
  Calls Try.prog 11 #[F.val, .slice A l.length c, .int .i64 sym] w fun e w' => ∃ v, e = .returned v ∧ Kd.R kLr TL w' w.heap.size (fun _ => True) v (srtL r) ∧ Below w.heap.size w w' := by
 have hl0 : F.ts.length ≤ 999999 := by have := hr.n6; omega
 have hb1 : Below w.heap.size w (w.alloc (.cells F.row 25)) := (Below.refl _ _).alloc (Nat.le_refl _) _
 have hly := layR_calls F (w.alloc (.cells F.row 25)) (hK.below hb1) k em Ss hr
 have hcl := fun (G : SG) W (hb : Below w.heap.size w W) (hG : G.At em Ss W) (hF : G.F = F) => step_calls G em Ss l A c sym W hG (Kd.zay hC hb) hll k r (by rw [hF]; exact h)
 have HC := Lib.hid hC
 clear hC h
 simp only [FG.val, FG.row] at *
 go_enter Try.func11, Try.ntmps11
 go_wp2_with (first
  | (go_at_call 16; refine hly.mono ?_; rintro e W1 ⟨G, rfl, hGF, hGN, hG, hB1⟩; have hbw := hb1.trans (hB1.mono hb1.size); have hc2 := hcl G W1 hbw hG hGF)
  | (go_at_call 18; refine hc2.mono ?_; rintro e W2 ⟨v2, rfl, R2, hB2⟩))
 go_ret
 exact ⟨_, rfl, Kd.zb1 R2 hbw.size, hbw.trans (hB2.mono hbw.size)⟩
theorem firstF_calls (F : FG) (w : World) (hK : F.K w) (k : Nat) (em : List Bool) (Ss : List (List Int)) (hr : Rdy F k em Ss) (r : List Lr) (h : closV F.ts.length F.ps em Ss k [] [(-1, 0, (F.ts.length : Int))] = some r) :
  Calls Try.prog 9 #[F.val] w fun e w' => ∃ v, e = .returned v ∧ Kd.R kLr TL w' w.heap.size (fun _ => True) v (srtL r) ∧ Below w.heap.size w w' := by
 have hl0 : F.ts.length ≤ 999999 := by have := hr.n6; omega
 have hb1 : Below w.heap.size w (w.alloc (.cells F.row 25)) := (Below.refl _ _).alloc (Nat.le_refl _) _
 have hly := layR_calls F (w.alloc (.cells F.row 25)) (hK.below hb1) k em Ss hr
 have hcl := fun (G : SG) W (hG : G.At em Ss W) (hF : G.F = F) => start_calls G em Ss W hG k r (by rw [hF]; exact h)
 clear h
 simp only [FG.val, FG.row] at *
 go_enter Try.func9, Try.ntmps9
 go_wp2_with (first
  | (go_at_call 16; refine hly.mono ?_; rintro e W1 ⟨G, rfl, hGF, hGN, hG, hB1⟩; have hbw := hb1.trans (hB1.mono hb1.size); have hc2 := hcl G W1 hG hGF)
  | (go_at_call 17; refine hc2.mono ?_; rintro e W2 ⟨v2, rfl, R2, hB2⟩))
 go_ret
 exact ⟨_, rfl, Kd.zb1 R2 hbw.size, hbw.trans (hB2.mono hbw.size)⟩
end Go.Proofs.Ytgdmjpehofdnpaa.LStep
end
