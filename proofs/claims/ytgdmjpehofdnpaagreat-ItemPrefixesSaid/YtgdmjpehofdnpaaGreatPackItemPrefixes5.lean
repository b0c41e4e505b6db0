import Derived.Test.YtgdmjpehofdnpaaGreatPackItemPrefixes4
section
namespace Go.Proofs.YtgdmjpehofdnpaaGreat.PItemPrefixes
open Go.RowKit Go.Proofs.YtgdmjpehofdnpaaGreatW.PrintWords Go.Proofs.YtgdmjpehofdnpaaGreatW.PrintLast Go.Proofs.YtgdmjpehofdnpaaGreatW.PrintMore
attribute [local go_sem] zcb zcc zcj zci zb6 zb4 zcf zce
set_option linter.unusedVariables false
set_option linter.unusedSimpArgs false
attribute [local go_sem high] eqA50
def za5.l0 : Nat → Int → List (S42) → Int → Int → Option (Int)
 | 0, _, _, _, _ => none
 | k + 1, x3, x7, x8, x9 => if x9 < x8 then (if 0 ≤ x9 then (if x9 < (x7.length : Int) then (za5.l0 k (wrap64 (x3 + (((zae x7 x9).f1).length : Int))) x7 x8 (wrap64 (x9 + 1))) else (none)) else (none)) else (some x3)
def za5.f (k : Nat) (l0_0 : List ByteArray) (l0_1 : List ByteArray) (l0_2 : List (S42)) : Option (Int) := za5.l0 k 0 l0_2 (l0_2.length : Int) 0
theorem za5.zbw : ∀ k, (∀ y0 y1 y2 y3, LeO (za5.l0 k y0 y1 y2 y3) (za5.l0 (k + 1) y0 y1 y2 y3))
 | 0 => fun _ _ _ _ r h => by simp [za5.l0] at h
 | k + 1 => by
  have ih0 := za5.zbw k
  ·intro y0 y1 y2 y3
   unfold za5.l0
   repeat' first
   | (with_reducible exact ih0 _ _ _ _)
   | (with_reducible exact LeO.refl _)
   | (with_reducible exact LeO.none _)
   | (with_reducible refine LeO.ite ?_ ?_)
   | (with_reducible refine LeO.bind ?_ (fun _ => ?_))
   | exact ih0 _ _ _ _
   | exact LeO.none _
   | refine LeO.ite ?_ ?_
   | refine LeO.bind ?_ (fun _ => ?_)
theorem za5.mono : ∀ a0 a1 a2 k, LeO (za5.f k a0 a1 a2) (za5.f (k + 1) a0 a1 a2) := by
 intro a0 a1 a2 k
 have ih0 := za5.zbw k
 unfold za5.f
 repeat' first
   | (with_reducible exact ih0 _ _ _ _)
   | (with_reducible exact LeO.refl _)
   | (with_reducible exact LeO.none _)
   | (with_reducible refine LeO.ite ?_ ?_)
   | (with_reducible refine LeO.bind ?_ (fun _ => ?_))
   | exact ih0 _ _ _ _
   | exact LeO.none _
   | refine LeO.ite ?_ ?_
   | refine LeO.bind ?_ (fun _ => ?_)
set_option maxHeartbeats 8000000 in
set_option maxRecDepth 100000 in
theorem za5.calls (k : Nat) (A0_0 : Option Addr) (c0_0 : Nat) (l0_0 : List ByteArray) (A0_1 : Option Addr) (c0_1 : Nat) (l0_1 : List ByteArray) (A0_2 : Option Addr) (c0_2 : Nat) (l0_2 : List (S42)) (r : Int) (w : World) (hr0_0 : Kd.C Kd.string w A0_0 l0_0.length l0_0) (hc0_0 : l0_0.length ≤ c0_0) (hr0_1 : Kd.C Kd.string w A0_1 l0_1.length l0_1) (hc0_1 : l0_1.length ≤ c0_1) (hr0_2 : Kd.C k42 w A0_2 l0_2.length l0_2) (hc0_2 : l0_2.length ≤ c0_2) (h : za5.f k l0_0 l0_1 l0_2 = some r) :
  Calls Tryz.prog 26 #[.agg #[.slice A0_0 l0_0.length c0_0, .slice A0_1 l0_1.length c0_1, .slice A0_2 l0_2.length c0_2]] w fun e w' => e = .returned (.int .i64 r) ∧ Below w.heap.size w w' := by
 have hu25 := Tryz.underlying25
 have hu42 := Tryz.underlying42
 have HR0_0 := zaa.mk hr0_0;have HC0_0 := zaa.mk hc0_0;clear hr0_0 hc0_0;have HR0_1 := zaa.mk hr0_1;have HC0_1 := zaa.mk hc0_1;clear hr0_1 hc0_1;have HR0_2 := zaa.mk hr0_2;have HC0_2 := zaa.mk hc0_2;clear hr0_2 hc0_2
 have HB := zaa.mk (Below.refl w.heap.size w)
 have H : (za5.l0 k 0 l0_2 (l0_2.length : Int) 0) = some r := h
 clear h
 have H' := zaa.mk H
 clear H
 go_enter Tryz.func26, Tryz.ntmps26
 go_wp2_with (first | ((with_reducible refine zbh (N := 1) rfl ?_); refine zbe ?hg (N := 1) ?hd (cs := #[.slice A0_0 l0_0.length c0_0, .slice A0_1 l0_1.length c0_1, .slice A0_2 l0_2.length c0_2]) (t := 25) ?hr ?_; (case hd => rfl); (case hg => rfl); (case hr => first | (go_simp; done) | (go_simp; rfl)); intro gb118 hg w2 hbox hb; have n0_ := zaa.mk (zaw (by repeat (first | (with_reducible first | exact HB.out | apply zah | apply zab | apply zaf) | exact HB.out)) hb); have n1_ := zaa.mk (hbox); have n2_ := zaa.mk ((by rw [hg]; exact (zas (by repeat (first | (with_reducible first | exact HB.out | apply zah | apply zab | apply zaf) | exact HB.out))) : w.heap.size ≤ gb118)); have n3_ := zaa.mk ((by rw [hg]; exact (zas (by repeat (first | (with_reducible first | exact HB.out | apply zah | apply zab | apply zaf) | exact HB.out))) : w.heap.size ≤ gb118)); clear HB; have HB := n0_; have BK118 := n1_; have GW118 := n2_; have GE118 := n3_; clear n0_ n1_ n2_ n3_; clear hb hbox hg; have hcz3_0 : w2.cell? ⟨gb118, 0, none⟩ = some (.slice A0_0 l0_0.length c0_0) := (zac BK118.out 0).trans rfl; have hcz3_1 : w2.cell? ⟨gb118, 1, none⟩ = some (.slice A0_1 l0_1.length c0_1) := (zac BK118.out 1).trans rfl; have hcz3_2 : w2.cell? ⟨gb118, 2, none⟩ = some (.slice A0_2 l0_2.length c0_2) := (zac BK118.out 2).trans rfl; have hfz3_0 := zak BK118.out 0; have hfz3_1 := zak BK118.out 1; have hfz3_2 := zak BK118.out 2))
 go_loopg [3, 9] k (fun kq v3 v9 w' => ∃ (x3_1 : Int) (x9_1 : Int), v3 = .int .i64 x3_1 ∧ v9 = .int .i64 x9_1 ∧ zaa (za5.l0 kq x3_1 l0_2 (l0_2.length : Int) x9_1 = some r) ∧ zaa (kq ≤ k) ∧ zaa (w'.heap[gb118]? = some (.cells #[(.slice A0_0 l0_0.length c0_0), (.slice A0_1 l0_1.length c0_1), (.slice A0_2 l0_2.length c0_2)] 25 (0, 0))) ∧ zaa (Below w.heap.size w w'))
 case atStart => exact ⟨(0), (0), (by first | rfl | (simp; done) | (simp [*]; done)), (by first | rfl | (simp; done) | (simp [*]; done)), H', ⟨Nat.le_refl _⟩, ⟨by (with_reducible repeat (first | refine zam ?_ _ | refine zaj ?_ | refine zai ?_ _)); exact BK118.out⟩, ⟨by repeat (first | (with_reducible first | exact HB.out | apply zah | apply zab | apply zaf | refine zal ?_ GE118.out) | exact HB.out)⟩⟩
 case round =>
  clear H';(try clear c2);(try clear p2);(try clear hcz3_0);(try clear hcz3_1);(try clear hcz3_2);(try clear hfz3_0);(try clear hfz3_1);(try clear hfz3_2)
  obtain ⟨x3_1, x9_1, rfl, rfl, HA, HK1, BK118, HB⟩ := hrel
  cases gk with
  | zero => exact absurd HA.out (by simp [za5.l0])
  | succ k1 =>
   have H := HA.out;clear HA
   simp only [za5.l0] at H
   by_cases c4 : x9_1 < (l0_2.length : Int)
   ·rw [if_pos c4] at H
    have c4b0 : decide (x9_1 < (l0_2.length : Int)) = true := decide_eq_true c4
    clear c4
    by_cases c5 : 0 ≤ x9_1
    ·rw [if_pos c5] at H
     have c5b0 : decide (0 ≤ x9_1) = true := decide_eq_true c5
     clear c5
     by_cases c6 : x9_1 < (l0_2.length : Int)
     ·rw [if_pos c6] at H
      have c6b0 : decide (x9_1 < (l0_2.length : Int)) = true := decide_eq_true c6
      clear c6
      have H' := zaa.mk H
      clear H
      have p119 : 0 ≤ (x9_1 : Int) := of_decide_eq_true (by first | (with_reducible assumption) | assumption)
      have q119 : x9_1 < (l0_2.length : Int) := of_decide_eq_true (by first | (with_reducible assumption) | assumption)
      obtain ⟨ad119, A119_1, c119_1, e119, hx119_0, hx119_1, hx119_2, hl119_1, hi119_1⟩ := at_T42 HR0_2.out x9_1 p119 q119
      cases e119
      replace hx119_0 := (HB.out.cell (World.block_lt_of_cell? w _ hx119_0)).trans hx119_0
      replace hx119_1 := (HB.out.cell (World.block_lt_of_cell? w _ hx119_1)).trans hx119_1
      replace hx119_2 := (HB.out.cell (World.block_lt_of_cell? w _ hx119_2)).trans hx119_2
      have HR119_1 := zaa.mk hi119_1;have HC119_1 := zaa.mk hl119_1;clear hi119_1 hl119_1
      replace p119 := eq_true p119
      replace q119 := eq_true q119
      go_wp2_with (first | ((with_reducible refine zbh (N := 5) rfl ?_); refine zbe ?hg (N := 5) ?hd (cs := #[.int .i64 0, .slice none 0 0, .int .i64 0]) (t := 42) ?hr ?_; (case hd => rfl); (case hg => rfl); (case hr => first | (go_simp; done) | (go_simp; rfl)); intro gb120 hg w7 hbox hb; have n0_ := zaa.mk (zar (g := gb118) (o := .cells #[.slice A0_0 l0_0.length c0_0, .slice A0_1 l0_1.length c0_1, .slice (some ad119) l0_2.length c0_2] 25 (0, 0)) (by (with_reducible repeat (first | refine zam ?_ _ | refine zaj ?_ | refine zai ?_ _)); exact BK118.out) hb); have n1_ := zaa.mk (zaw (by repeat (first | (with_reducible first | exact HB.out | apply zah | apply zab | apply zaf | refine zal ?_ GE118.out) | exact HB.out)) hb); have n2_ := zaa.mk (hbox); have n3_ := zaa.mk ((by rw [hg]; exact (zas (by repeat (first | (with_reducible first | exact HB.out | apply zah | apply zab | apply zaf | refine zal ?_ GE118.out) | exact HB.out))) : w.heap.size ≤ gb120)); have n4_ := zaa.mk ((by rw [hg]; exact (zas (by repeat (first | (with_reducible first | exact HB.out | apply zah | apply zab | apply zaf | refine zal ?_ GE118.out) | exact HB.out))) : w.heap.size ≤ gb120)); have n5_ := zaa.mk ((by rw [hg]; exact Nat.ne_of_lt (zav (g := gb118) (o := .cells #[.slice A0_0 l0_0.length c0_0, .slice A0_1 l0_1.length c0_1, .slice (some ad119) l0_2.length c0_2] 25 (0, 0)) (by (with_reducible repeat (first | refine zam ?_ _ | refine zaj ?_ | refine zai ?_ _)); exact BK118.out)) : gb118 ≠ gb120)); have n6_ := zaa.mk ((by rw [hg]; exact Nat.ne_of_gt (zav (g := gb118) (o := .cells #[.slice A0_0 l0_0.length c0_0, .slice A0_1 l0_1.length c0_1, .slice (some ad119) l0_2.length c0_2] 25 (0, 0)) (by (with_reducible repeat (first | refine zam ?_ _ | refine zaj ?_ | refine zai ?_ _)); exact BK118.out)) : gb120 ≠ gb118)); clear BK118; clear HB; have BK118 := n0_; have HB := n1_; have BK120 := n2_; have GW120 := n3_; have GE120 := n4_; have NB118_120 := n5_; have NB120_118 := n6_; clear n0_ n1_ n2_ n3_ n4_ n5_ n6_; clear hb hbox hg; have hnb8 := NB120_118.out; have hnc8 := NB118_120.out; have hcz9_0 : w7.cell? ⟨gb120, 0, none⟩ = some (.int .i64 0) := (zac BK120.out 0).trans rfl; have hcz9_1 : w7.cell? ⟨gb120, 1, none⟩ = some (.slice none 0 0) := (zac BK120.out 1).trans rfl; have hcz9_2 : w7.cell? ⟨gb120, 2, none⟩ = some (.int .i64 0) := (zac BK120.out 2).trans rfl; have hfz9_0 := zak BK120.out 0; have hfz9_1 := zak BK120.out 1; have hfz9_2 := zak BK120.out 2))
      go_roundg k1
      case measure => have := HK1.out; omega
      case rel => exact ⟨(wrap64 (x3_1 + (((zae l0_2 x9_1).f1).length : Int))), (wrap64 (x9_1 + 1)), (by first | rfl | (simp; done) | (simp [*]; done)), (by first | rfl | (simp; done) | (simp [*]; done)), H', ⟨by have := HK1.out; omega⟩, ⟨by (with_reducible repeat (first | refine zam ?_ _ | refine zaj ?_ | refine zai ?_ _)); refine zbl ?_ NB118_120.out _; (with_reducible repeat (first | refine zam ?_ _ | refine zaj ?_ | refine zai ?_ _)); refine zbl ?_ NB118_120.out _; (with_reducible repeat (first | refine zam ?_ _ | refine zaj ?_ | refine zai ?_ _)); refine zbl ?_ NB118_120.out _; (with_reducible repeat (first | refine zam ?_ _ | refine zaj ?_ | refine zai ?_ _)); exact BK118.out⟩, ⟨by repeat (first | (with_reducible first | exact HB.out | apply zah | apply zab | apply zaf | refine zal ?_ GE118.out | refine zal ?_ GE120.out) | exact HB.out)⟩⟩
     ·rw [if_neg c6] at H
      exact absurd H (by simp)
    ·rw [if_neg c5] at H
     exact absurd H (by simp)
   ·rw [if_neg c4] at H
    have c4b0 : decide (x9_1 < (l0_2.length : Int)) = false := decide_eq_false c4
    clear c4;obtain rfl := Option.some.inj H;go_wp2;go_ret
    exact ⟨by first | rfl | (simp [za2, za3] <;> rfl) | (simp [*, za2, za3] <;> rfl), by repeat (first | (with_reducible first | exact HB.out | apply zah | apply zab | apply zaf | refine zal ?_ GE118.out) | exact HB.out)⟩
def zbf.f (k : Nat) (l0_0 : List ByteArray) (l0_1 : List ByteArray) (l0_2 : List (S42)) : Option (Bool) := (za4.f k l0_0 l0_1 l0_2).bind fun t122 => (if t122 = true then ((zan.f k l0_0 l0_1 l0_2).bind fun t123 => (if t123 = true then (if (wrap64 ((l0_0.length : Int) + (l0_1.length : Int))) ≤ 16 then (if (l0_2.length : Int) ≤ 16 then ((za5.f k l0_0 l0_1 l0_2).bind fun t124 => (some (decide (t124 ≤ 60)))) else (some false)) else (some false)) else (some false))) else (some false))
theorem zbf.mono : ∀ a0 a1 a2 k, LeO (zbf.f k a0 a1 a2) (zbf.f (k + 1) a0 a1 a2) := by
 intro a0 a1 a2 k
 unfold zbf.f
 repeat' first
   | (with_reducible exact za5.mono _ _ _ _)
   | (with_reducible exact zan.mono _ _ _ _)
   | (with_reducible exact za4.mono _ _ _ _)
   | (with_reducible exact LeO.refl _)
   | (with_reducible exact LeO.none _)
   | (with_reducible refine LeO.ite ?_ ?_)
   | (with_reducible refine LeO.bind ?_ (fun _ => ?_))
   | exact za5.mono _ _ _ _
   | exact zan.mono _ _ _ _
   | exact za4.mono _ _ _ _
   | exact LeO.none _
   | refine LeO.ite ?_ ?_
   | refine LeO.bind ?_ (fun _ => ?_)
set_option maxHeartbeats 8000000 in
set_option maxRecDepth 100000 in
theorem zbf.calls (k : Nat) (A0_0 : Option Addr) (c0_0 : Nat) (l0_0 : List ByteArray) (A0_1 : Option Addr) (c0_1 : Nat) (l0_1 : List ByteArray) (A0_2 : Option Addr) (c0_2 : Nat) (l0_2 : List (S42)) (r : Bool) (w : World) (hr0_0 : Kd.C Kd.string w A0_0 l0_0.length l0_0) (hc0_0 : l0_0.length ≤ c0_0) (hr0_1 : Kd.C Kd.string w A0_1 l0_1.length l0_1) (hc0_1 : l0_1.length ≤ c0_1) (hr0_2 : Kd.C k42 w A0_2 l0_2.length l0_2) (hc0_2 : l0_2.length ≤ c0_2) (h : zbf.f k l0_0 l0_1 l0_2 = some r) :
  Calls Tryz.prog 6 #[.agg #[.slice A0_0 l0_0.length c0_0, .slice A0_1 l0_1.length c0_1, .slice A0_2 l0_2.length c0_2]] w fun e w' => e = .returned (.bool r) ∧ Below w.heap.size w w' := by
 have hu25 := Tryz.underlying25
 have HR0_0 := zaa.mk hr0_0;have HC0_0 := zaa.mk hc0_0;clear hr0_0 hc0_0;have HR0_1 := zaa.mk hr0_1;have HC0_1 := zaa.mk hc0_1;clear hr0_1 hc0_1;have HR0_2 := zaa.mk hr0_2;have HC0_2 := zaa.mk hc0_2;clear hr0_2 hc0_2
 have HB := zaa.mk (Below.refl w.heap.size w)
 have H : ((za4.f k l0_0 l0_1 l0_2).bind fun t122 => (if t122 = true then ((zan.f k l0_0 l0_1 l0_2).bind fun t123 => (if t123 = true then (if (wrap64 ((l0_0.length : Int) + (l0_1.length : Int))) ≤ 16 then (if (l0_2.length : Int) ≤ 16 then ((za5.f k l0_0 l0_1 l0_2).bind fun t124 => (some (decide (t124 ≤ 60)))) else (some false)) else (some false)) else (some false))) else (some false))) = some r := h
 clear h;replace H := Option.bind_eq_some_iff.mp H
 obtain ⟨t122, A20, H⟩ := H
 replace H : (if t122 = true then ((zan.f k l0_0 l0_1 l0_2).bind fun t123 => (if t123 = true then (if (wrap64 ((l0_0.length : Int) + (l0_1.length : Int))) ≤ 16 then (if (l0_2.length : Int) ≤ 16 then ((za5.f k l0_0 l0_1 l0_2).bind fun t124 => (some (decide (t124 ≤ 60)))) else (some false)) else (some false)) else (some false))) else (some false)) = some r := H
 have A2 := zaa.mk A20;clear A20
 by_cases c3 : t122 = true
 ·subst c3
  have H1 : ((zan.f k l0_0 l0_1 l0_2).bind fun t123 => (if t123 = true then (if (wrap64 ((l0_0.length : Int) + (l0_1.length : Int))) ≤ 16 then (if (l0_2.length : Int) ≤ 16 then ((za5.f k l0_0 l0_1 l0_2).bind fun t124 => (some (decide (t124 ≤ 60)))) else (some false)) else (some false)) else (some false))) = some r := by rw [if_pos rfl] at H; exact H
  clear H;have H := H1;clear H1;replace H := Option.bind_eq_some_iff.mp H
  obtain ⟨t123, A40, H⟩ := H
  replace H : (if t123 = true then (if (wrap64 ((l0_0.length : Int) + (l0_1.length : Int))) ≤ 16 then (if (l0_2.length : Int) ≤ 16 then ((za5.f k l0_0 l0_1 l0_2).bind fun t124 => (some (decide (t124 ≤ 60)))) else (some false)) else (some false)) else (some false)) = some r := H
  have A4 := zaa.mk A40;clear A40
  by_cases c5 : t123 = true
  ·subst c5
   have H1 : (if (wrap64 ((l0_0.length : Int) + (l0_1.length : Int))) ≤ 16 then (if (l0_2.length : Int) ≤ 16 then ((za5.f k l0_0 l0_1 l0_2).bind fun t124 => (some (decide (t124 ≤ 60)))) else (some false)) else (some false)) = some r := by rw [if_pos rfl] at H; exact H
   clear H;have H := H1;clear H1
   by_cases c6 : (wrap64 ((l0_0.length : Int) + (l0_1.length : Int))) ≤ 16
   ·rw [if_pos c6] at H
    have c6b0 : decide ((wrap64 ((l0_0.length : Int) + (l0_1.length : Int))) ≤ 16) = true := decide_eq_true c6
    clear c6
    by_cases c7 : (l0_2.length : Int) ≤ 16
    ·rw [if_pos c7] at H
     have c7b0 : decide ((l0_2.length : Int) ≤ 16) = true := decide_eq_true c7
     have c7b1 : decide (l0_2.length ≤ 16) = true := decide_eq_true (by omega)
     clear c7;replace H := Option.bind_eq_some_iff.mp H
     obtain ⟨t124, A80, H⟩ := H
     replace H : (some (decide (t124 ≤ 60))) = some r := H
     have A8 := zaa.mk A80;clear A80;obtain rfl := Option.some.inj H
     go_enter Tryz.func6, Tryz.ntmps6
     go_wp2_with (first | ((with_reducible refine zbh (N := 1) rfl ?_); (try (refine zbk (by rfl) ?_; dsimp only)); refine zbe ?hg (N := 1) ?hd (cs := #[.slice A0_0 l0_0.length c0_0, .slice A0_1 l0_1.length c0_1, .slice A0_2 l0_2.length c0_2]) (t := 25) ?hr ?_; (case hd => rfl); (case hg => rfl); (case hr => first | (go_simp; done) | (go_simp; rfl)); intro gb121 hg w9 hbox hb; have n0_ := zaa.mk (zaw (by repeat (first | (with_reducible first | exact HB.out | apply zah | apply zab | apply zaf) | exact HB.out)) hb); have n1_ := zaa.mk (hbox); have n2_ := zaa.mk ((by rw [hg]; exact (zas (by repeat (first | (with_reducible first | exact HB.out | apply zah | apply zab | apply zaf) | exact HB.out))) : w.heap.size ≤ gb121)); have n3_ := zaa.mk ((by rw [hg]; exact (zas (by repeat (first | (with_reducible first | exact HB.out | apply zah | apply zab | apply zaf) | exact HB.out))) : w.heap.size ≤ gb121)); clear HB; have HB := n0_; have BK121 := n1_; have GW121 := n2_; have GE121 := n3_; clear n0_ n1_ n2_ n3_; clear hb hbox hg; have hcz10_0 : w9.cell? ⟨gb121, 0, none⟩ = some (.slice A0_0 l0_0.length c0_0) := (zac BK121.out 0).trans rfl; have hcz10_1 : w9.cell? ⟨gb121, 1, none⟩ = some (.slice A0_1 l0_1.length c0_1) := (zac BK121.out 1).trans rfl; have hcz10_2 : w9.cell? ⟨gb121, 2, none⟩ = some (.slice A0_2 l0_2.length c0_2) := (zac BK121.out 2).trans rfl; have hfz10_0 := zak BK121.out 0; have hfz10_1 := zak BK121.out 1; have hfz10_2 := zak BK121.out 2) | ((with_reducible refine zbo (f := 24) rfl ?_); refine zb9 (some 4) rfl rfl Tryz.func24 (by kernel_rfl) rfl #[.agg #[.slice A0_0 l0_0.length c0_0, .slice A0_1 l0_1.length c0_1, .slice A0_2 l0_2.length c0_2]] rfl (by (try simp only [List.map_toArray, List.map_cons, List.map_nil]); first | done | rfl | (simp only [List.length_drop, List.length_take]; rfl)) ?_; (with_reducible refine (za4.calls k _ _ l0_0 _ _ l0_1 _ _ l0_2 true _ ?side1 ?side2 ?side3 ?side4 ?side5 ?side6 A2.out).mono ?_); (case side1 => repeat (first | exact (Kd.zax HR0_0.out HB.out) | (with_reducible refine Kd.za6 ?_ _) | (with_reducible refine Kd.za7 ?_ _) | (with_reducible refine Kd.za9 ?_))); (case side2 => exact HC0_0.out); (case side3 => repeat (first | exact (Kd.zax HR0_1.out HB.out) | (with_reducible refine Kd.za6 ?_ _) | (with_reducible refine Kd.za7 ?_ _) | (with_reducible refine Kd.za9 ?_))); (case side4 => exact HC0_1.out); (case side5 => repeat (first | exact (Kd.zax HR0_2.out HB.out) | (with_reducible refine Kd.za6 ?_ _) | (with_reducible refine Kd.za7 ?_ _) | (with_reducible refine Kd.za9 ?_))); (case side6 => exact HC0_2.out); rintro e w11 ⟨rfl, hb⟩; refine ⟨_, rfl, ?_⟩; have n0_ := zaa.mk (zar (g := gb121) (o := .cells #[.slice A0_0 l0_0.length c0_0, .slice A0_1 l0_1.length c0_1, .slice A0_2 l0_2.length c0_2] 25 (0, 0)) (by (with_reducible repeat (first | refine zam ?_ _ | refine zaj ?_ | refine zai ?_ _)); exact BK121.out) hb); have n1_ := zaa.mk (zaw (by repeat (first | (with_reducible first | exact HB.out | apply zah | apply zab | apply zaf | refine zal ?_ GE121.out) | exact HB.out)) hb); clear BK121; clear HB; have BK121 := n0_; have HB := n1_; clear n0_ n1_; (try clear hb); (try clear hb2); (try clear hk); (try clear hi); have hcz12_0 : w11.cell? ⟨gb121, 0, none⟩ = some (.slice A0_0 l0_0.length c0_0) := (zac BK121.out 0).trans rfl; have hcz12_1 : w11.cell? ⟨gb121, 1, none⟩ = some (.slice A0_1 l0_1.length c0_1) := (zac BK121.out 1).trans rfl; have hcz12_2 : w11.cell? ⟨gb121, 2, none⟩ = some (.slice A0_2 l0_2.length c0_2) := (zac BK121.out 2).trans rfl; have hfz12_0 := zak BK121.out 0; have hfz12_1 := zak BK121.out 1; have hfz12_2 := zak BK121.out 2) | (go_at_call 25; (with_reducible refine (zan.calls k _ _ l0_0 _ _ l0_1 _ _ l0_2 true _ ?side1 ?side2 ?side3 ?side4 ?side5 ?side6 A4.out).mono ?_); (case side1 => repeat (first | exact (Kd.zax HR0_0.out HB.out) | (with_reducible refine Kd.za6 ?_ _) | (with_reducible refine Kd.za7 ?_ _) | (with_reducible refine Kd.za9 ?_))); (case side2 => exact HC0_0.out); (case side3 => repeat (first | exact (Kd.zax HR0_1.out HB.out) | (with_reducible refine Kd.za6 ?_ _) | (with_reducible refine Kd.za7 ?_ _) | (with_reducible refine Kd.za9 ?_))); (case side4 => exact HC0_1.out); (case side5 => repeat (first | exact (Kd.zax HR0_2.out HB.out) | (with_reducible refine Kd.za6 ?_ _) | (with_reducible refine Kd.za7 ?_ _) | (with_reducible refine Kd.za9 ?_))); (case side6 => exact HC0_2.out); rintro e w13 ⟨rfl, hb⟩; have n0_ := zaa.mk (zar (g := gb121) (o := .cells #[.slice A0_0 l0_0.length c0_0, .slice A0_1 l0_1.length c0_1, .slice A0_2 l0_2.length c0_2] 25 (0, 0)) (by (with_reducible repeat (first | refine zam ?_ _ | refine zaj ?_ | refine zai ?_ _)); exact BK121.out) hb); have n1_ := zaa.mk (zaw (by repeat (first | (with_reducible first | exact HB.out | apply zah | apply zab | apply zaf | refine zal ?_ GE121.out) | exact HB.out)) hb); clear BK121; clear HB; have BK121 := n0_; have HB := n1_; clear n0_ n1_; (try clear hb); (try clear hb2); (try clear hk); (try clear hi); have hcz14_0 : w13.cell? ⟨gb121, 0, none⟩ = some (.slice A0_0 l0_0.length c0_0) := (zac BK121.out 0).trans rfl; have hcz14_1 : w13.cell? ⟨gb121, 1, none⟩ = some (.slice A0_1 l0_1.length c0_1) := (zac BK121.out 1).trans rfl; have hcz14_2 : w13.cell? ⟨gb121, 2, none⟩ = some (.slice A0_2 l0_2.length c0_2) := (zac BK121.out 2).trans rfl; have hfz14_0 := zak BK121.out 0; have hfz14_1 := zak BK121.out 1; have hfz14_2 := zak BK121.out 2) | (go_at_call 26; (with_reducible refine (za5.calls k _ _ l0_0 _ _ l0_1 _ _ l0_2 t124 _ ?side1 ?side2 ?side3 ?side4 ?side5 ?side6 A8.out).mono ?_); (case side1 => repeat (first | exact (Kd.zax HR0_0.out HB.out) | (with_reducible refine Kd.za6 ?_ _) | (with_reducible refine Kd.za7 ?_ _) | (with_reducible refine Kd.za9 ?_))); (case side2 => exact HC0_0.out); (case side3 => repeat (first | exact (Kd.zax HR0_1.out HB.out) | (with_reducible refine Kd.za6 ?_ _) | (with_reducible refine Kd.za7 ?_ _) | (with_reducible refine Kd.za9 ?_))); (case side4 => exact HC0_1.out); (case side5 => repeat (first | exact (Kd.zax HR0_2.out HB.out) | (with_reducible refine Kd.za6 ?_ _) | (with_reducible refine Kd.za7 ?_ _) | (with_reducible refine Kd.za9 ?_))); (case side6 => exact HC0_2.out); rintro e w15 ⟨rfl, hb⟩; have n0_ := zaa.mk (zar (g := gb121) (o := .cells #[.slice A0_0 l0_0.length c0_0, .slice A0_1 l0_1.length c0_1, .slice A0_2 l0_2.length c0_2] 25 (0, 0)) (by (with_reducible repeat (first | refine zam ?_ _ | refine zaj ?_ | refine zai ?_ _)); exact BK121.out) hb); have n1_ := zaa.mk (zaw (by repeat (first | (with_reducible first | exact HB.out | apply zah | apply zab | apply zaf | refine zal ?_ GE121.out) | exact HB.out)) hb); clear BK121; clear HB; have BK121 := n0_; have HB := n1_; clear n0_ n1_; (try clear hb); (try clear hb2); (try clear hk); (try clear hi)))
     go_ret
     exact ⟨by first | rfl | (simp [za2, za3] <;> rfl) | (simp [*, za2, za3] <;> rfl), by repeat (first | (with_reducible first | exact HB.out | apply zah | apply zab | apply zaf | refine zal ?_ GE121.out) | exact HB.out)⟩
    ·rw [if_neg c7] at H
     have c7b0 : decide ((l0_2.length : Int) ≤ 16) = false := decide_eq_false c7
     have c7b1 : decide (l0_2.length ≤ 16) = false := decide_eq_false (by omega)
     clear c7;obtain rfl := Option.some.inj H
     go_enter Tryz.func6, Tryz.ntmps6
     go_wp2_with (first | ((with_reducible refine zbh (N := 1) rfl ?_); (try (refine zbk (by rfl) ?_; dsimp only)); refine zbe ?hg (N := 1) ?hd (cs := #[.slice A0_0 l0_0.length c0_0, .slice A0_1 l0_1.length c0_1, .slice A0_2 l0_2.length c0_2]) (t := 25) ?hr ?_; (case hd => rfl); (case hg => rfl); (case hr => first | (go_simp; done) | (go_simp; rfl)); intro gb121 hg w16 hbox hb; have n0_ := zaa.mk (zaw (by repeat (first | (with_reducible first | exact HB.out | apply zah | apply zab | apply zaf) | exact HB.out)) hb); have n1_ := zaa.mk (hbox); have n2_ := zaa.mk ((by rw [hg]; exact (zas (by repeat (first | (with_reducible first | exact HB.out | apply zah | apply zab | apply zaf) | exact HB.out))) : w.heap.size ≤ gb121)); have n3_ := zaa.mk ((by rw [hg]; exact (zas (by repeat (first | (with_reducible first | exact HB.out | apply zah | apply zab | apply zaf) | exact HB.out))) : w.heap.size ≤ gb121)); clear HB; have HB := n0_; have BK121 := n1_; have GW121 := n2_; have GE121 := n3_; clear n0_ n1_ n2_ n3_; clear hb hbox hg; have hcz17_0 : w16.cell? ⟨gb121, 0, none⟩ = some (.slice A0_0 l0_0.length c0_0) := (zac BK121.out 0).trans rfl; have hcz17_1 : w16.cell? ⟨gb121, 1, none⟩ = some (.slice A0_1 l0_1.length c0_1) := (zac BK121.out 1).trans rfl; have hcz17_2 : w16.cell? ⟨gb121, 2, none⟩ = some (.slice A0_2 l0_2.length c0_2) := (zac BK121.out 2).trans rfl; have hfz17_0 := zak BK121.out 0; have hfz17_1 := zak BK121.out 1; have hfz17_2 := zak BK121.out 2) | ((with_reducible refine zbo (f := 24) rfl ?_); refine zb9 (some 4) rfl rfl Tryz.func24 (by kernel_rfl) rfl #[.agg #[.slice A0_0 l0_0.length c0_0, .slice A0_1 l0_1.length c0_1, .slice A0_2 l0_2.length c0_2]] rfl (by (try simp only [List.map_toArray, List.map_cons, List.map_nil]); first | done | rfl | (simp only [List.length_drop, List.length_take]; rfl)) ?_; (with_reducible refine (za4.calls k _ _ l0_0 _ _ l0_1 _ _ l0_2 true _ ?side1 ?side2 ?side3 ?side4 ?side5 ?side6 A2.out).mono ?_); (case side1 => repeat (first | exact (Kd.zax HR0_0.out HB.out) | (with_reducible refine Kd.za6 ?_ _) | (with_reducible refine Kd.za7 ?_ _) | (with_reducible refine Kd.za9 ?_))); (case side2 => exact HC0_0.out); (case side3 => repeat (first | exact (Kd.zax HR0_1.out HB.out) | (with_reducible refine Kd.za6 ?_ _) | (with_reducible refine Kd.za7 ?_ _) | (with_reducible refine Kd.za9 ?_))); (case side4 => exact HC0_1.out); (case side5 => repeat (first | exact (Kd.zax HR0_2.out HB.out) | (with_reducible refine Kd.za6 ?_ _) | (with_reducible refine Kd.za7 ?_ _) | (with_reducible refine Kd.za9 ?_))); (case side6 => exact HC0_2.out); rintro e w18 ⟨rfl, hb⟩; refine ⟨_, rfl, ?_⟩; have n0_ := zaa.mk (zar (g := gb121) (o := .cells #[.slice A0_0 l0_0.length c0_0, .slice A0_1 l0_1.length c0_1, .slice A0_2 l0_2.length c0_2] 25 (0, 0)) (by (with_reducible repeat (first | refine zam ?_ _ | refine zaj ?_ | refine zai ?_ _)); exact BK121.out) hb); have n1_ := zaa.mk (zaw (by repeat (first | (with_reducible first | exact HB.out | apply zah | apply zab | apply zaf | refine zal ?_ GE121.out) | exact HB.out)) hb); clear BK121; clear HB; have BK121 := n0_; have HB := n1_; clear n0_ n1_; (try clear hb); (try clear hb2); (try clear hk); (try clear hi); have hcz19_0 : w18.cell? ⟨gb121, 0, none⟩ = some (.slice A0_0 l0_0.length c0_0) := (zac BK121.out 0).trans rfl; have hcz19_1 : w18.cell? ⟨gb121, 1, none⟩ = some (.slice A0_1 l0_1.length c0_1) := (zac BK121.out 1).trans rfl; have hcz19_2 : w18.cell? ⟨gb121, 2, none⟩ = some (.slice A0_2 l0_2.length c0_2) := (zac BK121.out 2).trans rfl; have hfz19_0 := zak BK121.out 0; have hfz19_1 := zak BK121.out 1; have hfz19_2 := zak BK121.out 2) | (go_at_call 25; (with_reducible refine (zan.calls k _ _ l0_0 _ _ l0_1 _ _ l0_2 true _ ?side1 ?side2 ?side3 ?side4 ?side5 ?side6 A4.out).mono ?_); (case side1 => repeat (first | exact (Kd.zax HR0_0.out HB.out) | (with_reducible refine Kd.za6 ?_ _) | (with_reducible refine Kd.za7 ?_ _) | (with_reducible refine Kd.za9 ?_))); (case side2 => exact HC0_0.out); (case side3 => repeat (first | exact (Kd.zax HR0_1.out HB.out) | (with_reducible refine Kd.za6 ?_ _) | (with_reducible refine Kd.za7 ?_ _) | (with_reducible refine Kd.za9 ?_))); (case side4 => exact HC0_1.out); (case side5 => repeat (first | exact (Kd.zax HR0_2.out HB.out) | (with_reducible refine Kd.za6 ?_ _) | (with_reducible refine Kd.za7 ?_ _) | (with_reducible refine Kd.za9 ?_))); (case side6 => exact HC0_2.out); rintro e w20 ⟨rfl, hb⟩; have n0_ := zaa.mk (zar (g := gb121) (o := .cells #[.slice A0_0 l0_0.length c0_0, .slice A0_1 l0_1.length c0_1, .slice A0_2 l0_2.length c0_2] 25 (0, 0)) (by (with_reducible repeat (first | refine zam ?_ _ | refine zaj ?_ | refine zai ?_ _)); exact BK121.out) hb); have n1_ := zaa.mk (zaw (by repeat (first | (with_reducible first | exact HB.out | apply zah | apply zab | apply zaf | refine zal ?_ GE121.out) | exact HB.out)) hb); clear BK121; clear HB; have BK121 := n0_; have HB := n1_; clear n0_ n1_; (try clear hb); (try clear hb2); (try clear hk); (try clear hi); have hcz21_0 : w20.cell? ⟨gb121, 0, none⟩ = some (.slice A0_0 l0_0.length c0_0) := (zac BK121.out 0).trans rfl; have hcz21_1 : w20.cell? ⟨gb121, 1, none⟩ = some (.slice A0_1 l0_1.length c0_1) := (zac BK121.out 1).trans rfl; have hcz21_2 : w20.cell? ⟨gb121, 2, none⟩ = some (.slice A0_2 l0_2.length c0_2) := (zac BK121.out 2).trans rfl; have hfz21_0 := zak BK121.out 0; have hfz21_1 := zak BK121.out 1; have hfz21_2 := zak BK121.out 2))
     go_ret
     exact ⟨by first | rfl | (simp [za2, za3] <;> rfl) | (simp [*, za2, za3] <;> rfl), by repeat (first | (with_reducible first | exact HB.out | apply zah | apply zab | apply zaf | refine zal ?_ GE121.out) | exact HB.out)⟩
   ·rw [if_neg c6] at H
    have c6b0 : decide ((wrap64 ((l0_0.length : Int) + (l0_1.length : Int))) ≤ 16) = false := decide_eq_false c6
    clear c6;obtain rfl := Option.some.inj H
    go_enter Tryz.func6, Tryz.ntmps6
    go_wp2_with (first | ((with_reducible refine zbh (N := 1) rfl ?_); (try (refine zbk (by rfl) ?_; dsimp only)); refine zbe ?hg (N := 1) ?hd (cs := #[.slice A0_0 l0_0.length c0_0, .slice A0_1 l0_1.length c0_1, .slice A0_2 l0_2.length c0_2]) (t := 25) ?hr ?_; (case hd => rfl); (case hg => rfl); (case hr => first | (go_simp; done) | (go_simp; rfl)); intro gb121 hg w22 hbox hb; have n0_ := zaa.mk (zaw (by repeat (first | (with_reducible first | exact HB.out | apply zah | apply zab | apply zaf) | exact HB.out)) hb); have n1_ := zaa.mk (hbox); have n2_ := zaa.mk ((by rw [hg]; exact (zas (by repeat (first | (with_reducible first | exact HB.out | apply zah | apply zab | apply zaf) | exact HB.out))) : w.heap.size ≤ gb121)); have n3_ := zaa.mk ((by rw [hg]; exact (zas (by repeat (first | (with_reducible first | exact HB.out | apply zah | apply zab | apply zaf) | exact HB.out))) : w.heap.size ≤ gb121)); clear HB; have HB := n0_; have BK121 := n1_; have GW121 := n2_; have GE121 := n3_; clear n0_ n1_ n2_ n3_; clear hb hbox hg; have hcz23_0 : w22.cell? ⟨gb121, 0, none⟩ = some (.slice A0_0 l0_0.length c0_0) := (zac BK121.out 0).trans rfl; have hcz23_1 : w22.cell? ⟨gb121, 1, none⟩ = some (.slice A0_1 l0_1.length c0_1) := (zac BK121.out 1).trans rfl; have hcz23_2 : w22.cell? ⟨gb121, 2, none⟩ = some (.slice A0_2 l0_2.length c0_2) := (zac BK121.out 2).trans rfl; have hfz23_0 := zak BK121.out 0; have hfz23_1 := zak BK121.out 1; have hfz23_2 := zak BK121.out 2) | ((with_reducible refine zbo (f := 24) rfl ?_); refine zb9 (some 4) rfl rfl Tryz.func24 (by kernel_rfl) rfl #[.agg #[.slice A0_0 l0_0.length c0_0, .slice A0_1 l0_1.length c0_1, .slice A0_2 l0_2.length c0_2]] rfl (by (try simp only [List.map_toArray, List.map_cons, List.map_nil]); first | done | rfl | (simp only [List.length_drop, List.length_take]; rfl)) ?_; (with_reducible refine (za4.calls k _ _ l0_0 _ _ l0_1 _ _ l0_2 true _ ?side1 ?side2 ?side3 ?side4 ?side5 ?side6 A2.out).mono ?_); (case side1 => repeat (first | exact (Kd.zax HR0_0.out HB.out) | (with_reducible refine Kd.za6 ?_ _) | (with_reducible refine Kd.za7 ?_ _) | (with_reducible refine Kd.za9 ?_))); (case side2 => exact HC0_0.out); (case side3 => repeat (first | exact (Kd.zax HR0_1.out HB.out) | (with_reducible refine Kd.za6 ?_ _) | (with_reducible refine Kd.za7 ?_ _) | (with_reducible refine Kd.za9 ?_))); (case side4 => exact HC0_1.out); (case side5 => repeat (first | exact (Kd.zax HR0_2.out HB.out) | (with_reducible refine Kd.za6 ?_ _) | (with_reducible refine Kd.za7 ?_ _) | (with_reducible refine Kd.za9 ?_))); (case side6 => exact HC0_2.out); rintro e w24 ⟨rfl, hb⟩; refine ⟨_, rfl, ?_⟩; have n0_ := zaa.mk (zar (g := gb121) (o := .cells #[.slice A0_0 l0_0.length c0_0, .slice A0_1 l0_1.length c0_1, .slice A0_2 l0_2.length c0_2] 25 (0, 0)) (by (with_reducible repeat (first | refine zam ?_ _ | refine zaj ?_ | refine zai ?_ _)); exact BK121.out) hb); have n1_ := zaa.mk (zaw (by repeat (first | (with_reducible first | exact HB.out | apply zah | apply zab | apply zaf | refine zal ?_ GE121.out) | exact HB.out)) hb); clear BK121; clear HB; have BK121 := n0_; have HB := n1_; clear n0_ n1_; (try clear hb); (try clear hb2); (try clear hk); (try clear hi); have hcz25_0 : w24.cell? ⟨gb121, 0, none⟩ = some (.slice A0_0 l0_0.length c0_0) := (zac BK121.out 0).trans rfl; have hcz25_1 : w24.cell? ⟨gb121, 1, none⟩ = some (.slice A0_1 l0_1.length c0_1) := (zac BK121.out 1).trans rfl; have hcz25_2 : w24.cell? ⟨gb121, 2, none⟩ = some (.slice A0_2 l0_2.length c0_2) := (zac BK121.out 2).trans rfl; have hfz25_0 := zak BK121.out 0; have hfz25_1 := zak BK121.out 1; have hfz25_2 := zak BK121.out 2) | (go_at_call 25; (with_reducible refine (zan.calls k _ _ l0_0 _ _ l0_1 _ _ l0_2 true _ ?side1 ?side2 ?side3 ?side4 ?side5 ?side6 A4.out).mono ?_); (case side1 => repeat (first | exact (Kd.zax HR0_0.out HB.out) | (with_reducible refine Kd.za6 ?_ _) | (with_reducible refine Kd.za7 ?_ _) | (with_reducible refine Kd.za9 ?_))); (case side2 => exact HC0_0.out); (case side3 => repeat (first | exact (Kd.zax HR0_1.out HB.out) | (with_reducible refine Kd.za6 ?_ _) | (with_reducible refine Kd.za7 ?_ _) | (with_reducible refine Kd.za9 ?_))); (case side4 => exact HC0_1.out); (case side5 => repeat (first | exact (Kd.zax HR0_2.out HB.out) | (with_reducible refine Kd.za6 ?_ _) | (with_reducible refine Kd.za7 ?_ _) | (with_reducible refine Kd.za9 ?_))); (case side6 => exact HC0_2.out); rintro e w26 ⟨rfl, hb⟩; have n0_ := zaa.mk (zar (g := gb121) (o := .cells #[.slice A0_0 l0_0.length c0_0, .slice A0_1 l0_1.length c0_1, .slice A0_2 l0_2.length c0_2] 25 (0, 0)) (by (with_reducible repeat (first | refine zam ?_ _ | refine zaj ?_ | refine zai ?_ _)); exact BK121.out) hb); have n1_ := zaa.mk (zaw (by repeat (first | (with_reducible first | exact HB.out | apply zah | apply zab | apply zaf | refine zal ?_ GE121.out) | exact HB.out)) hb); clear BK121; clear HB; have BK121 := n0_; have HB := n1_; clear n0_ n1_; (try clear hb); (try clear hb2); (try clear hk); (try clear hi); have hcz27_0 : w26.cell? ⟨gb121, 0, none⟩ = some (.slice A0_0 l0_0.length c0_0) := (zac BK121.out 0).trans rfl; have hcz27_1 : w26.cell? ⟨gb121, 1, none⟩ = some (.slice A0_1 l0_1.length c0_1) := (zac BK121.out 1).trans rfl; have hcz27_2 : w26.cell? ⟨gb121, 2, none⟩ = some (.slice A0_2 l0_2.length c0_2) := (zac BK121.out 2).trans rfl; have hfz27_0 := zak BK121.out 0; have hfz27_1 := zak BK121.out 1; have hfz27_2 := zak BK121.out 2))
    go_ret
    exact ⟨by first | rfl | (simp [za2, za3] <;> rfl) | (simp [*, za2, za3] <;> rfl), by repeat (first | (with_reducible first | exact HB.out | apply zah | apply zab | apply zaf | refine zal ?_ GE121.out) | exact HB.out)⟩
  ·replace c5 := Bool.eq_false_iff.mpr c5
   subst c5
   have H1 : (some false) = some r := by rw [if_neg (show ¬ (false = true) by decide)] at H; exact H
   clear H;have H := H1;clear H1;obtain rfl := Option.some.inj H
   go_enter Tryz.func6, Tryz.ntmps6
   go_wp2_with (first | ((with_reducible refine zbh (N := 1) rfl ?_); (try (refine zbk (by rfl) ?_; dsimp only)); refine zbe ?hg (N := 1) ?hd (cs := #[.slice A0_0 l0_0.length c0_0, .slice A0_1 l0_1.length c0_1, .slice A0_2 l0_2.length c0_2]) (t := 25) ?hr ?_; (case hd => rfl); (case hg => rfl); (case hr => first | (go_simp; done) | (go_simp; rfl)); intro gb121 hg w28 hbox hb; have n0_ := zaa.mk (zaw (by repeat (first | (with_reducible first | exact HB.out | apply zah | apply zab | apply zaf) | exact HB.out)) hb); have n1_ := zaa.mk (hbox); have n2_ := zaa.mk ((by rw [hg]; exact (zas (by repeat (first | (with_reducible first | exact HB.out | apply zah | apply zab | apply zaf) | exact HB.out))) : w.heap.size ≤ gb121)); have n3_ := zaa.mk ((by rw [hg]; exact (zas (by repeat (first | (with_reducible first | exact HB.out | apply zah | apply zab | apply zaf) | exact HB.out))) : w.heap.size ≤ gb121)); clear HB; have HB := n0_; have BK121 := n1_; have GW121 := n2_; have GE121 := n3_; clear n0_ n1_ n2_ n3_; clear hb hbox hg; have hcz29_0 : w28.cell? ⟨gb121, 0, none⟩ = some (.slice A0_0 l0_0.length c0_0) := (zac BK121.out 0).trans rfl; have hcz29_1 : w28.cell? ⟨gb121, 1, none⟩ = some (.slice A0_1 l0_1.length c0_1) := (zac BK121.out 1).trans rfl; have hcz29_2 : w28.cell? ⟨gb121, 2, none⟩ = some (.slice A0_2 l0_2.length c0_2) := (zac BK121.out 2).trans rfl; have hfz29_0 := zak BK121.out 0; have hfz29_1 := zak BK121.out 1; have hfz29_2 := zak BK121.out 2) | ((with_reducible refine zbo (f := 24) rfl ?_); refine zb9 (some 4) rfl rfl Tryz.func24 (by kernel_rfl) rfl #[.agg #[.slice A0_0 l0_0.length c0_0, .slice A0_1 l0_1.length c0_1, .slice A0_2 l0_2.length c0_2]] rfl (by (try simp only [List.map_toArray, List.map_cons, List.map_nil]); first | done | rfl | (simp only [List.length_drop, List.length_take]; rfl)) ?_; (with_reducible refine (za4.calls k _ _ l0_0 _ _ l0_1 _ _ l0_2 true _ ?side1 ?side2 ?side3 ?side4 ?side5 ?side6 A2.out).mono ?_); (case side1 => repeat (first | exact (Kd.zax HR0_0.out HB.out) | (with_reducible refine Kd.za6 ?_ _) | (with_reducible refine Kd.za7 ?_ _) | (with_reducible refine Kd.za9 ?_))); (case side2 => exact HC0_0.out); (case side3 => repeat (first | exact (Kd.zax HR0_1.out HB.out) | (with_reducible refine Kd.za6 ?_ _) | (with_reducible refine Kd.za7 ?_ _) | (with_reducible refine Kd.za9 ?_))); (case side4 => exact HC0_1.out); (case side5 => repeat (first | exact (Kd.zax HR0_2.out HB.out) | (with_reducible refine Kd.za6 ?_ _) | (with_reducible refine Kd.za7 ?_ _) | (with_reducible refine Kd.za9 ?_))); (case side6 => exact HC0_2.out); rintro e w30 ⟨rfl, hb⟩; refine ⟨_, rfl, ?_⟩; have n0_ := zaa.mk (zar (g := gb121) (o := .cells #[.slice A0_0 l0_0.length c0_0, .slice A0_1 l0_1.length c0_1, .slice A0_2 l0_2.length c0_2] 25 (0, 0)) (by (with_reducible repeat (first | refine zam ?_ _ | refine zaj ?_ | refine zai ?_ _)); exact BK121.out) hb); have n1_ := zaa.mk (zaw (by repeat (first | (with_reducible first | exact HB.out | apply zah | apply zab | apply zaf | refine zal ?_ GE121.out) | exact HB.out)) hb); clear BK121; clear HB; have BK121 := n0_; have HB := n1_; clear n0_ n1_; (try clear hb); (try clear hb2); (try clear hk); (try clear hi); have hcz31_0 : w30.cell? ⟨gb121, 0, none⟩ = some (.slice A0_0 l0_0.length c0_0) := (zac BK121.out 0).trans rfl; have hcz31_1 : w30.cell? ⟨gb121, 1, none⟩ = some (.slice A0_1 l0_1.length c0_1) := (zac BK121.out 1).trans rfl; have hcz31_2 : w30.cell? ⟨gb121, 2, none⟩ = some (.slice A0_2 l0_2.length c0_2) := (zac BK121.out 2).trans rfl; have hfz31_0 := zak BK121.out 0; have hfz31_1 := zak BK121.out 1; have hfz31_2 := zak BK121.out 2) | (go_at_call 25; (with_reducible refine (zan.calls k _ _ l0_0 _ _ l0_1 _ _ l0_2 false _ ?side1 ?side2 ?side3 ?side4 ?side5 ?side6 A4.out).mono ?_); (case side1 => repeat (first | exact (Kd.zax HR0_0.out HB.out) | (with_reducible refine Kd.za6 ?_ _) | (with_reducible refine Kd.za7 ?_ _) | (with_reducible refine Kd.za9 ?_))); (case side2 => exact HC0_0.out); (case side3 => repeat (first | exact (Kd.zax HR0_1.out HB.out) | (with_reducible refine Kd.za6 ?_ _) | (with_reducible refine Kd.za7 ?_ _) | (with_reducible refine Kd.za9 ?_))); (case side4 => exact HC0_1.out); (case side5 => repeat (first | exact (Kd.zax HR0_2.out HB.out) | (with_reducible refine Kd.za6 ?_ _) | (with_reducible refine Kd.za7 ?_ _) | (with_reducible refine Kd.za9 ?_))); (case side6 => exact HC0_2.out); rintro e w32 ⟨rfl, hb⟩; have n0_ := zaa.mk (zar (g := gb121) (o := .cells #[.slice A0_0 l0_0.length c0_0, .slice A0_1 l0_1.length c0_1, .slice A0_2 l0_2.length c0_2] 25 (0, 0)) (by (with_reducible repeat (first | refine zam ?_ _ | refine zaj ?_ | refine zai ?_ _)); exact BK121.out) hb); have n1_ := zaa.mk (zaw (by repeat (first | (with_reducible first | exact HB.out | apply zah | apply zab | apply zaf | refine zal ?_ GE121.out) | exact HB.out)) hb); clear BK121; clear HB; have BK121 := n0_; have HB := n1_; clear n0_ n1_; (try clear hb); (try clear hb2); (try clear hk); (try clear hi)))
   go_ret
   exact ⟨by first | rfl | (simp [za2, za3] <;> rfl) | (simp [*, za2, za3] <;> rfl), by repeat (first | (with_reducible first | exact HB.out | apply zah | apply zab | apply zaf | refine zal ?_ GE121.out) | exact HB.out)⟩
 ·replace c3 := Bool.eq_false_iff.mpr c3
  subst c3
  have H1 : (some false) = some r := by rw [if_neg (show ¬ (false = true) by decide)] at H; exact H
  clear H;have H := H1;clear H1;obtain rfl := Option.some.inj H
  go_enter Tryz.func6, Tryz.ntmps6
  go_wp2_with (first | ((with_reducible refine zbh (N := 1) rfl ?_); (try (refine zbk (by rfl) ?_; dsimp only)); refine zbe ?hg (N := 1) ?hd (cs := #[.slice A0_0 l0_0.length c0_0, .slice A0_1 l0_1.length c0_1, .slice A0_2 l0_2.length c0_2]) (t := 25) ?hr ?_; (case hd => rfl); (case hg => rfl); (case hr => first | (go_simp; done) | (go_simp; rfl)); intro gb121 hg w33 hbox hb; have n0_ := zaa.mk (zaw (by repeat (first | (with_reducible first | exact HB.out | apply zah | apply zab | apply zaf) | exact HB.out)) hb); have n1_ := zaa.mk (hbox); have n2_ := zaa.mk ((by rw [hg]; exact (zas (by repeat (first | (with_reducible first | exact HB.out | apply zah | apply zab | apply zaf) | exact HB.out))) : w.heap.size ≤ gb121)); have n3_ := zaa.mk ((by rw [hg]; exact (zas (by repeat (first | (with_reducible first | exact HB.out | apply zah | apply zab | apply zaf) | exact HB.out))) : w.heap.size ≤ gb121)); clear HB; have HB := n0_; have BK121 := n1_; have GW121 := n2_; have GE121 := n3_; clear n0_ n1_ n2_ n3_; clear hb hbox hg; have hcz34_0 : w33.cell? ⟨gb121, 0, none⟩ = some (.slice A0_0 l0_0.length c0_0) := (zac BK121.out 0).trans rfl; have hcz34_1 : w33.cell? ⟨gb121, 1, none⟩ = some (.slice A0_1 l0_1.length c0_1) := (zac BK121.out 1).trans rfl; have hcz34_2 : w33.cell? ⟨gb121, 2, none⟩ = some (.slice A0_2 l0_2.length c0_2) := (zac BK121.out 2).trans rfl; have hfz34_0 := zak BK121.out 0; have hfz34_1 := zak BK121.out 1; have hfz34_2 := zak BK121.out 2) | ((with_reducible refine zbo (f := 24) rfl ?_); refine zb9 (some 4) rfl rfl Tryz.func24 (by kernel_rfl) rfl #[.agg #[.slice A0_0 l0_0.length c0_0, .slice A0_1 l0_1.length c0_1, .slice A0_2 l0_2.length c0_2]] rfl (by (try simp only [List.map_toArray, List.map_cons, List.map_nil]); first | done | rfl | (simp only [List.length_drop, List.length_take]; rfl)) ?_; (with_reducible refine (za4.calls k _ _ l0_0 _ _ l0_1 _ _ l0_2 false _ ?side1 ?side2 ?side3 ?side4 ?side5 ?side6 A2.out).mono ?_); (case side1 => repeat (first | exact (Kd.zax HR0_0.out HB.out) | (with_reducible refine Kd.za6 ?_ _) | (with_reducible refine Kd.za7 ?_ _) | (with_reducible refine Kd.za9 ?_))); (case side2 => exact HC0_0.out); (case side3 => repeat (first | exact (Kd.zax HR0_1.out HB.out) | (with_reducible refine Kd.za6 ?_ _) | (with_reducible refine Kd.za7 ?_ _) | (with_reducible refine Kd.za9 ?_))); (case side4 => exact HC0_1.out); (case side5 => repeat (first | exact (Kd.zax HR0_2.out HB.out) | (with_reducible refine Kd.za6 ?_ _) | (with_reducible refine Kd.za7 ?_ _) | (with_reducible refine Kd.za9 ?_))); (case side6 => exact HC0_2.out); rintro e w35 ⟨rfl, hb⟩; refine ⟨_, rfl, ?_⟩; have n0_ := zaa.mk (zar (g := gb121) (o := .cells #[.slice A0_0 l0_0.length c0_0, .slice A0_1 l0_1.length c0_1, .slice A0_2 l0_2.length c0_2] 25 (0, 0)) (by (with_reducible repeat (first | refine zam ?_ _ | refine zaj ?_ | refine zai ?_ _)); exact BK121.out) hb); have n1_ := zaa.mk (zaw (by repeat (first | (with_reducible first | exact HB.out | apply zah | apply zab | apply zaf | refine zal ?_ GE121.out) | exact HB.out)) hb); clear BK121; clear HB; have BK121 := n0_; have HB := n1_; clear n0_ n1_; (try clear hb); (try clear hb2); (try clear hk); (try clear hi)))
  go_ret
  exact ⟨by first | rfl | (simp [za2, za3] <;> rfl) | (simp [*, za2, za3] <;> rfl), by repeat (first | (with_reducible first | exact HB.out | apply zah | apply zab | apply zaf | refine zal ?_ GE121.out) | exact HB.out)⟩
def itE (x : S44) : Fl.I := (x.f0, x.f1, x.f2)
def prE (x : S42) : Fl.P := (x.f0, x.f1.map itE, x.f2)
theorem C_kI {w : World} {A : Option Addr} {n : Nat} {xs : List S44} (h : Kd.C k44 w A n xs) : Kd.C Fl.kI w A n (xs.map itE) := Fl.C_iso (d := Fl.kI) (f := itE) h
theorem C_kP {w : World} {A : Option Addr} {n : Nat} {xs : List S42} (h : Kd.C k42 w A n xs) : Kd.C Fl.kP w A n (xs.map prE) := by
 obtain ⟨h1, h2, h3⟩ := h
 refine ⟨by simpa using h1, h2, fun h0 => ?_⟩
 obtain ⟨ad, e, hc⟩ := h3 h0
 refine ⟨ad, e, fun j p hj => ?_⟩
 rw [List.getElem?_map] at hj
 cases hx : xs[j]? with
 | none => rw [hx] at hj; cases hj
 | some x =>
  rw [hx] at hj
  obtain rfl : prE x = p := by simpa using hj
  obtain ⟨c, hl, hK, hcell⟩ := hc j x hx
  obtain ⟨A1, c1, rfl, l1, g1⟩ := k42_open hK
  refine ⟨_, by rfl, ⟨[.int .i64 x.f0], [.slice A1 x.f1.length c1, .int .i64 x.f2], rfl, rfl, ⟨[.slice A1 x.f1.length c1], [.int .i64 x.f2], rfl, ⟨A1, c1, ?_, ?_, ?_⟩, rfl⟩⟩, hcell⟩
  ·show _ = [Value.slice A1 (x.f1.map itE).length c1]
   rw [List.length_map]
  ·show (x.f1.map itE).length ≤ c1
   rw [List.length_map]
   exact l1
  ·show Kd.C Fl.kI w A1 (x.f1.map itE).length (x.f1.map itE)
   rw [List.length_map]
   exact C_kI g1
def flOk (N n1 : Nat) (ps : List Fl.P) : Bool := decide (N ≤ 999999) && decide (1 ≤ n1) && ps.all fun p => decide (0 ≤ p.1) && decide (p.1 < N) && decide (p.2.1.length ≤ 1000) && p.2.1.all fun i => decide (0 ≤ i.1) && decide (i.1 < N)
theorem flOk_N {N n1 : Nat} {ps : List Fl.P} (h : flOk N n1 ps = true) : N ≤ 999999 ∧ 1 ≤ n1 := by
 simp only [flOk, Bool.and_eq_true, decide_eq_true_eq] at h
 exact h.1
theorem flOk_ps {N n1 : Nat} {ps : List Fl.P} (h : flOk N n1 ps = true) : ∀ p ∈ ps, Deri.PrOk N p ∧ p.2.1.length ≤ 1000 := by
 simp only [flOk, Bool.and_eq_true, decide_eq_true_eq, List.all_eq_true] at h
 intro p hp
 obtain ⟨⟨⟨h1, h2⟩, h3⟩, h4⟩ := h.2 p hp
 exact ⟨⟨h1, h2, fun i hi => h4 i hi⟩, h3⟩
theorem growMono {σ : Type} (step : σ → Fl.P → σ × Bool) (ps : List Fl.P) : ∀ (k : Nat) (s : σ), LeO (Grow.growV step ps k s) (Grow.growV step ps (k + 1) s)
 | 0, s => fun r h => by simp [Grow.growV] at h
 | k + 1, s => by
  show LeO (if _ then _ else _) (if _ then _ else _)
  exact LeO.ite (growMono step ps k _) (LeO.refl _)
theorem R_bools {W : World} {base g N : Nat} {bs : List Bool} (h1 : bs.length = N) (h2 : base ≤ g) (h3 : W.heap[g]? = some (.cells (bs.map Value.bool).toArray 4 (0, 0))) (h4 : N ≤ 1000000) : Kd.R Kd.bool 4 W base (fun _ => True) (.slice (some ⟨g, 0, none⟩) N N) bs := by
 refine Kd.R_of_own (enc := Value.bool) (h1 := fun _ => rfl) ?_ (fun _ _ => trivial)
 subst h1
 exact ⟨by simp [encs], .inr ⟨g, bs.length, (bs.map Value.bool).toArray, rfl, h2, h3, by simp, by simp [maxLen]; omega, by simp, by simp [encs, List.take_of_length_le]⟩⟩
def sets_Empty.f (k : Nat) (l0_0 l0_1 : List ByteArray) (l0_2 : List S42) : Option (List Bool) :=
 if flOk (l0_0.length + l0_1.length) l0_1.length (l0_2.map prE) = true then Grow.growV Deri.stepD (l0_2.map prE) k (List.replicate (l0_0.length + l0_1.length) false) else none
theorem sets_Empty.mono : ∀ a0 a1 a2 k, LeO (sets_Empty.f k a0 a1 a2) (sets_Empty.f (k + 1) a0 a1 a2) := fun _ _ _ _ => LeO.ite (growMono _ _ _ _) (LeO.none _)
theorem sets_Empty.calls (k : Nat) (A0_0 : Option Addr) (c0_0 : Nat) (l0_0 : List ByteArray) (A0_1 : Option Addr) (c0_1 : Nat) (l0_1 : List ByteArray) (A0_2 : Option Addr) (c0_2 : Nat) (l0_2 : List S42) (r : List Bool) (w : World) (hr0_0 : Kd.C Kd.string w A0_0 l0_0.length l0_0) (hc0_0 : l0_0.length ≤ c0_0) (hr0_1 : Kd.C Kd.string w A0_1 l0_1.length l0_1) (hc0_1 : l0_1.length ≤ c0_1) (hr0_2 : Kd.C k42 w A0_2 l0_2.length l0_2) (hc0_2 : l0_2.length ≤ c0_2) (h : sets_Empty.f k l0_0 l0_1 l0_2 = some r) :
  Calls Tryz.prog 45 #[.agg #[.slice A0_0 l0_0.length c0_0, .slice A0_1 l0_1.length c0_1, .slice A0_2 l0_2.length c0_2]] w fun e w' => ∃ v0_ : Value, e = .returned v0_ ∧ Kd.R Kd.bool 4 w' w.heap.size (fun _ => True) v0_ r ∧ Below w.heap.size w w' := by
 unfold sets_Empty.f at h
 split at h
 case isFalse => cases h
 rename_i hok
 have hl : (l0_2.map prE).length = l0_2.length := by simp
 have hc := Deri.empty_calls w A0_0 A0_1 A0_2 l0_0.length l0_1.length c0_0 c0_1 c0_2 _ rfl (l0_2.map prE) (by rw [hl]; exact C_kP hr0_2) (by have := (flOk_N hok).1; omega) (fun p hp => (flOk_ps hok p hp).1) k r h
 rw [hl] at hc
 refine hc.mono ?_
 rintro e w' ⟨g, rfl, h1, h2, h3, h4⟩
 exact ⟨_, rfl, R_bools h1 h2 h3 (by have := (flOk_N hok).1; omega), h4⟩
def lrT (x : S50) : LrK.Lr := (x.f0, x.f1, x.f2)
def lrS (x : LrK.Lr) : S50 := ⟨x.1, x.2.1, x.2.2⟩
theorem C_kLr {w : World} {A : Option Addr} {n : Nat} {xs : List S50} (h : Kd.C k50 w A n xs) : Kd.C LLex.kLr w A n (xs.map lrT) := Fl.C_iso (d := LLex.kLr) (f := lrT) h
theorem R_kLr {e : Nat} {w : World} {base : Nat} {ok : Nat → Prop} {v : Value} {r : List LrK.Lr} (h : Kd.R LLex.kLr e w base ok v r) : Kd.R k50 e w base ok v (r.map lrS) := LGiv.R_map (d' := k50) rfl (fun _ _ _ h => h) h
theorem R_kLrs {e : Nat} {w : World} {base : Nat} {ok : Nat → Prop} {v : Value} {r : List (List LrK.Lr)} (h : Kd.R LAll.kLs e w base ok v r) : Kd.R (Kd.slice 50 k50) e w base ok v (r.map (List.map lrS)) :=
 LGiv.R_map (d' := Kd.slice 50 k50) rfl (fun _ _ _ h => by obtain ⟨v, e, h⟩ := h; exact ⟨v, e, R_kLr h⟩) h
def rdyV (k n0 n1 : Nat) (ps : List Fl.P) : Option (List Bool × List (List Int)) := (Grow.growV Deri.stepD ps k (List.replicate (n0 + n1) false)).bind fun em => (Grow.growV (Begin.stepF (n0 + n1) em) ps k (Begun.initV (n0 + n1) n0)).bind fun Ss => some (em, Ss)
theorem rdyV_mono (n0 n1 : Nat) (ps : List Fl.P) (k : Nat) : LeO (rdyV k n0 n1 ps) (rdyV (k + 1) n0 n1 ps) := LeO.bind (growMono _ _ _ _) (fun _ => LeO.bind (growMono _ _ _ _) (fun _ => LeO.refl _))
theorem rdy_of {F : LFlat.FG} {k : Nat} {q : List Bool × List (List Int)} (hok : flOk (F.ts.length + F.ns.length) F.ns.length F.ps = true) (hpl : F.ps.length ≤ 1000000) (h : rdyV k F.ts.length F.ns.length F.ps = some q) : LInv.Rdy F k q.1 q.2 := by
 obtain ⟨em, he, h⟩ := Option.bind_eq_some_iff.mp h
 obtain ⟨Ss, hs, h⟩ := Option.bind_eq_some_iff.mp h
 obtain rfl := Option.some.inj h
 exact ⟨(flOk_N hok).1, (flOk_N hok).2, hpl, flOk_ps hok, he, hs⟩
theorem fg_K {w : World} {A0_0 A0_1 A0_2 : Option Addr} {c0_0 c0_1 c0_2 : Nat} {l0_0 l0_1 : List ByteArray} {l0_2 : List S42} (hr0_0 : Kd.C Kd.string w A0_0 l0_0.length l0_0) (hc0_0 : l0_0.length ≤ c0_0) (hr0_1 : Kd.C Kd.string w A0_1 l0_1.length l0_1) (hc0_1 : l0_1.length ≤ c0_1) (hr0_2 : Kd.C k42 w A0_2 l0_2.length l0_2) (hc0_2 : l0_2.length ≤ c0_2) : LFlat.FG.K (⟨A0_0, A0_1, A0_2, c0_0, c0_1, c0_2, l0_0, l0_1, l0_2.map prE⟩ : LFlat.FG) w :=
 ⟨hr0_0, hc0_0, hr0_1, hc0_1, by show Kd.C Fl.kP w A0_2 (l0_2.map prE).length (l0_2.map prE); rw [List.length_map]; exact C_kP hr0_2, by show (l0_2.map prE).length ≤ c0_2; rw [List.length_map]; exact hc0_2⟩
def item_All.f (k : Nat) (l0_0 l0_1 : List ByteArray) (l0_2 : List S42) : Option (List (List S50) × Int) :=
 if flOk (l0_0.length + l0_1.length) l0_1.length (l0_2.map prE) = true ∧ l0_2.length ≤ 1000000 then (rdyV k l0_0.length l0_1.length (l0_2.map prE)).bind fun q => (LAll.startV l0_0.length (l0_2.map prE) q.1 q.2 k).bind fun S0 => if S0 = [] then none else
  (LAll.allV (LAll.gotoV l0_0.length (l0_2.map prE) q.1 q.2 k) (l0_0.length + l0_1.length) k 0 [S0]).bind fun res => some ((res.getD []).map (List.map lrS), LAll.errV res) else none
theorem item_All.mono : ∀ a0 a1 a2 k, LeO (item_All.f k a0 a1 a2) (item_All.f (k + 1) a0 a1 a2) := fun _ _ _ _ => LeO.ite (LeO.bind (rdyV_mono _ _ _ _) (fun _ => LeO.bind (LGiv.startV_mono _) (fun _ => LeO.ite (LeO.refl _) (LeO.bind (LGiv.allV_mono (fun _ _ => LGiv.gotoV_mono _ _ _) _ _ _ _) (fun _ => LeO.refl _))))) (LeO.none _)
theorem item_All.calls (k : Nat) (A0_0 : Option Addr) (c0_0 : Nat) (l0_0 : List ByteArray) (A0_1 : Option Addr) (c0_1 : Nat) (l0_1 : List ByteArray) (A0_2 : Option Addr) (c0_2 : Nat) (l0_2 : List S42) (r1 : List (List S50)) (r2 : Int) (w : World) (hr0_0 : Kd.C Kd.string w A0_0 l0_0.length l0_0) (hc0_0 : l0_0.length ≤ c0_0) (hr0_1 : Kd.C Kd.string w A0_1 l0_1.length l0_1) (hc0_1 : l0_1.length ≤ c0_1) (hr0_2 : Kd.C k42 w A0_2 l0_2.length l0_2) (hc0_2 : l0_2.length ≤ c0_2) (h : item_All.f k l0_0 l0_1 l0_2 = some (r1, r2)) :
  Calls Tryz.prog 8 #[.agg #[.slice A0_0 l0_0.length c0_0, .slice A0_1 l0_1.length c0_1, .slice A0_2 l0_2.length c0_2]] w fun e w' => ∃ v0_ : Value, e = .returned (.tuple #[v0_, .int .i64 r2]) ∧ Kd.R (Kd.slice 50 k50) 45 w' w.heap.size (fun _ => True) v0_ r1 ∧ Below w.heap.size w w' := by
 unfold item_All.f at h
 split at h
 case isFalse => cases h
 rename_i hok
 obtain ⟨q, hq, h⟩ := Option.bind_eq_some_iff.mp h
 obtain ⟨S0, hs, h⟩ := Option.bind_eq_some_iff.mp h
 split at h
 case isTrue => cases h
 rename_i hne
 obtain ⟨res, hr, h⟩ := Option.bind_eq_some_iff.mp h
 injection h with h
 injection h with h1 h2
 subst h1;subst h2
 have hl : (l0_2.map prE).length = l0_2.length := by simp
 have hc := LAll.allF_calls (⟨A0_0, A0_1, A0_2, c0_0, c0_1, c0_2, l0_0, l0_1, l0_2.map prE⟩ : LFlat.FG) w (fg_K hr0_0 hc0_0 hr0_1 hc0_1 hr0_2 hc0_2) k q.1 q.2 (rdy_of hok.1 (by rw [hl]; exact hok.2) hq) (l0_0.length + l0_1.length) rfl S0 hs hne res hr
 simp only [LFlat.FG.val, LFlat.FG.row, hl] at hc
 refine hc.mono ?_
 rintro e w' ⟨v, n, rfl, rfl, hR, hB⟩
 exact ⟨v, rfl, R_kLrs hR, hB⟩
def zbp.f (k : Nat) (l0_0 l0_1 : List ByteArray) (l0_2 : List S42) : Option (List S50) :=
 if flOk (l0_0.length + l0_1.length) l0_1.length (l0_2.map prE) = true ∧ l0_2.length ≤ 1000000 then (rdyV k l0_0.length l0_1.length (l0_2.map prE)).bind fun q => (LAll.startV l0_0.length (l0_2.map prE) q.1 q.2 k).bind fun r => some (r.map lrS) else none
theorem zbp.mono : ∀ a0 a1 a2 k, LeO (zbp.f k a0 a1 a2) (zbp.f (k + 1) a0 a1 a2) := fun _ _ _ _ => LeO.ite (LeO.bind (rdyV_mono _ _ _ _) (fun _ => LeO.bind (LGiv.startV_mono _) (fun _ => LeO.refl _))) (LeO.none _)
theorem zbp.calls (k : Nat) (A0_0 : Option Addr) (c0_0 : Nat) (l0_0 : List ByteArray) (A0_1 : Option Addr) (c0_1 : Nat) (l0_1 : List ByteArray) (A0_2 : Option Addr) (c0_2 : Nat) (l0_2 : List S42) (r : List S50) (w : World) (hr0_0 : Kd.C Kd.string w A0_0 l0_0.length l0_0) (hc0_0 : l0_0.length ≤ c0_0) (hr0_1 : Kd.C Kd.string w A0_1 l0_1.length l0_1) (hc0_1 : l0_1.length ≤ c0_1) (hr0_2 : Kd.C k42 w A0_2 l0_2.length l0_2) (hc0_2 : l0_2.length ≤ c0_2) (h : zbp.f k l0_0 l0_1 l0_2 = some r) :
  Calls Tryz.prog 13 #[.agg #[.slice A0_0 l0_0.length c0_0, .slice A0_1 l0_1.length c0_1, .slice A0_2 l0_2.length c0_2]] w fun e w' => ∃ v0_ : Value, e = .returned v0_ ∧ Kd.R k50 50 w' w.heap.size (fun _ => True) v0_ r ∧ Below w.heap.size w w' := by
 unfold zbp.f at h
 split at h
 case isFalse => cases h
 rename_i hok
 obtain ⟨q, hq, h⟩ := Option.bind_eq_some_iff.mp h
 obtain ⟨r', hr, h⟩ := Option.bind_eq_some_iff.mp h
 obtain rfl := Option.some.inj h
 obtain ⟨r0, hr0, rfl⟩ := Option.map_eq_some_iff.1 hr
 have hl : (l0_2.map prE).length = l0_2.length := by simp
 have hc := LStep.firstF_calls (⟨A0_0, A0_1, A0_2, c0_0, c0_1, c0_2, l0_0, l0_1, l0_2.map prE⟩ : LFlat.FG) w (fg_K hr0_0 hc0_0 hr0_1 hc0_1 hr0_2 hc0_2) k q.1 q.2 (rdy_of hok.1 (by rw [hl]; exact hok.2) hq) r0 hr0
 simp only [LFlat.FG.val, LFlat.FG.row, hl] at hc
 refine hc.mono ?_
 rintro e w' ⟨v, rfl, hR, hB⟩
 exact ⟨v, rfl, R_kLr hR, hB⟩
def zbr.f (k : Nat) (l0_0 l0_1 : List ByteArray) (l0_2 : List S42) (l1 : List S50) (a2 : Int) : Option (List S50) :=
 if flOk (l0_0.length + l0_1.length) l0_1.length (l0_2.map prE) = true ∧ l0_2.length ≤ 1000000 ∧ l1.length ≤ 1000000000 then (rdyV k l0_0.length l0_1.length (l0_2.map prE)).bind fun q => (LAll.gotoV l0_0.length (l0_2.map prE) q.1 q.2 k (l1.map lrT) a2).bind fun r => some (r.map lrS) else none
theorem zbr.mono : ∀ a0 a1 a2 a3 a4 k, LeO (zbr.f k a0 a1 a2 a3 a4) (zbr.f (k + 1) a0 a1 a2 a3 a4) := fun _ _ _ _ _ _ => LeO.ite (LeO.bind (rdyV_mono _ _ _ _) (fun _ => LeO.bind (LGiv.gotoV_mono _ _ _) (fun _ => LeO.refl _))) (LeO.none _)
theorem zbr.calls (k : Nat) (A0_0 : Option Addr) (c0_0 : Nat) (l0_0 : List ByteArray) (A0_1 : Option Addr) (c0_1 : Nat) (l0_1 : List ByteArray) (A0_2 : Option Addr) (c0_2 : Nat) (l0_2 : List S42) (A1 : Option Addr) (c1 : Nat) (l1 : List S50) (a2 : Int) (r : List S50) (w : World) (hr0_0 : Kd.C Kd.string w A0_0 l0_0.length l0_0) (hc0_0 : l0_0.length ≤ c0_0) (hr0_1 : Kd.C Kd.string w A0_1 l0_1.length l0_1) (hc0_1 : l0_1.length ≤ c0_1) (hr0_2 : Kd.C k42 w A0_2 l0_2.length l0_2) (hc0_2 : l0_2.length ≤ c0_2) (hr1 : Kd.C k50 w A1 l1.length l1) (hc1 : l1.length ≤ c1) (h : zbr.f k l0_0 l0_1 l0_2 l1 a2 = some r) :
  Calls Tryz.prog 14 #[.agg #[.slice A0_0 l0_0.length c0_0, .slice A0_1 l0_1.length c0_1, .slice A0_2 l0_2.length c0_2], .slice A1 l1.length c1, .int .i64 a2] w fun e w' => ∃ v0_ : Value, e = .returned v0_ ∧ Kd.R k50 50 w' w.heap.size (fun _ => True) v0_ r ∧ Below w.heap.size w w' := by
 unfold zbr.f at h
 split at h
 case isFalse => cases h
 rename_i hok
 obtain ⟨q, hq, h⟩ := Option.bind_eq_some_iff.mp h
 obtain ⟨r', hr, h⟩ := Option.bind_eq_some_iff.mp h
 obtain rfl := Option.some.inj h
 obtain ⟨r0, hr0, rfl⟩ := Option.map_eq_some_iff.1 hr
 have hl : (l0_2.map prE).length = l0_2.length := by simp
 have hl1 : (l1.map lrT).length = l1.length := by simp
 have hc := LStep.gotoF_calls (⟨A0_0, A0_1, A0_2, c0_0, c0_1, c0_2, l0_0, l0_1, l0_2.map prE⟩ : LFlat.FG) w (fg_K hr0_0 hc0_0 hr0_1 hc0_1 hr0_2 hc0_2) k q.1 q.2 (rdy_of hok.1 (by rw [hl]; exact hok.2.1) hq) (l1.map lrT) A1 c1 a2 (by rw [hl1]; exact C_kLr hr1) (by rw [hl1]; exact hok.2.2) r0 hr0
 simp only [LFlat.FG.val, LFlat.FG.row, hl, hl1] at hc
 refine hc.mono ?_
 rintro e w' ⟨v, rfl, hR, hB⟩
 exact ⟨v, rfl, R_kLr hR, hB⟩
def zay.l0 : Nat → List (S50) → List (S50) → Int → Option (Bool)
 | 0, _, _, _ => none
 | k + 1, x0, x1, x5 => if x5 < (x0.length : Int) then (if 0 ≤ x5 then (if x5 < (x1.length : Int) then (if (!(((zbj x0 x5).f0) == ((zbj x1 x5).f0)) || (!(((zbj x0 x5).f1) == ((zbj x1 x5).f1)) || (!(((zbj x0 x5).f2) == ((zbj x1 x5).f2))))) = true then (some false) else (zay.l0 k x0 x1 (wrap64 (x5 + 1)))) else (none)) else (none)) else (some true)
def zay.f (k : Nat) (l0 : List (S50)) (l1 : List (S50)) : Option (Bool) := if (l0.length : Int) = (l1.length : Int) then (zay.l0 k l0 l1 0) else (some false)
theorem zay.zbw : ∀ k, (∀ y0 y1 y2, LeO (zay.l0 k y0 y1 y2) (zay.l0 (k + 1) y0 y1 y2))
 | 0 => fun _ _ _ r h => by simp [zay.l0] at h
 | k + 1 => by
  have ih0 := zay.zbw k
  ·intro y0 y1 y2
   unfold zay.l0
   repeat' first
   | (with_reducible exact ih0 _ _ _)
   | (with_reducible exact LeO.refl _)
   | (with_reducible exact LeO.none _)
   | (with_reducible refine LeO.ite ?_ ?_)
   | (with_reducible refine LeO.bind ?_ (fun _ => ?_))
   | exact ih0 _ _ _
   | exact LeO.none _
   | refine LeO.ite ?_ ?_
   | refine LeO.bind ?_ (fun _ => ?_)
theorem zay.mono : ∀ a0 a1 k, LeO (zay.f k a0 a1) (zay.f (k + 1) a0 a1) := by
 intro a0 a1 k
 have ih0 := zay.zbw k
 unfold zay.f
 repeat' first
   | (with_reducible exact ih0 _ _ _)
   | (with_reducible exact LeO.refl _)
   | (with_reducible exact LeO.none _)
   | (with_reducible refine LeO.ite ?_ ?_)
   | (with_reducible refine LeO.bind ?_ (fun _ => ?_))
   | exact ih0 _ _ _
   | exact LeO.none _
   | refine LeO.ite ?_ ?_
   | refine LeO.bind ?_ (fun _ => ?_)
set_option maxHeartbeats 8000000 in
set_option maxRecDepth 100000 in
theorem zay.calls (k : Nat) (A0 : Option Addr) (c0 : Nat) (l0 : List (S50)) (A1 : Option Addr) (c1 : Nat) (l1 : List (S50)) (r : Bool) (w : World) (hr0 : Kd.C k50 w A0 l0.length l0) (hc0 : l0.length ≤ c0) (hr1 : Kd.C k50 w A1 l1.length l1) (hc1 : l1.length ≤ c1) (h : zay.f k l0 l1 = some r) :
  Calls Tryz.prog 19 #[.slice A0 l0.length c0, .slice A1 l1.length c1] w fun e w' => e = .returned (.bool r) ∧ za8 w w' := by
 have hu50 := Tryz.underlying50
 have HR0 := zaa.mk hr0;have HC0 := zaa.mk hc0;clear hr0 hc0;have HR1 := zaa.mk hr1;have HC1 := zaa.mk hc1;clear hr1 hc1
 have H : (if (l0.length : Int) = (l1.length : Int) then (zay.l0 k l0 l1 0) else (some false)) = some r := h
 clear h
 by_cases c3 : (l0.length : Int) = (l1.length : Int)
 ·rw [if_pos c3] at H
  have c3b0 : ((l0.length : Int) == (l1.length : Int)) = true := beq_iff_eq.mpr c3
  have c3b1 : ((l0.length : Int) != (l1.length : Int)) = false := bne_eq_false_iff_eq.mpr c3
  have c3b2 : (l0.length == l1.length) = true := by first | simpa using c3 | (simp at c3 ⊢; omega)
  clear c3
  have H' := zaa.mk H
  clear H
  go_enter Tryz.func19, Tryz.ntmps19
  go_wp2
  repeat (go_quiet (fail); try go_wp2)
  go_loopg [5] k (fun kq v5 w' => ∃ (x5_1 : Int), v5 = .int .i64 x5_1 ∧ zaa (zay.l0 kq l0 l1 x5_1 = some r) ∧ zaa (kq ≤ k) ∧ za8 w w')
  case atStart => exact ⟨(0), (by first | rfl | (simp; done) | (simp [*]; done)), H', ⟨Nat.le_refl _⟩, by repeat (first | exact za8.refl _ | apply za8.step)⟩
  case round =>
   clear H';(try clear c1);(try clear p2);(try clear c3);(try clear c3b0);(try clear c3b1);(try clear c3b2)
   obtain ⟨x5_1, rfl, HA, HK1, ⟨m1, rfl⟩⟩ := hrel
   cases gk with
   | zero => exact absurd HA.out (by simp [zay.l0])
   | succ k1 =>
    have H := HA.out;clear HA
    simp only [zay.l0] at H
    by_cases c4 : x5_1 < (l0.length : Int)
    ·rw [if_pos c4] at H
     have c4b0 : decide (x5_1 < (l0.length : Int)) = true := decide_eq_true c4
     clear c4
     by_cases c5 : 0 ≤ x5_1
     ·rw [if_pos c5] at H
      have c5b0 : decide (0 ≤ x5_1) = true := decide_eq_true c5
      clear c5
      by_cases c6 : x5_1 < (l1.length : Int)
      ·rw [if_pos c6] at H
       have c6b0 : decide (x5_1 < (l1.length : Int)) = true := decide_eq_true c6
       clear c6
       by_cases c7 : (!(((zbj l0 x5_1).f0) == ((zbj l1 x5_1).f0)) || (!(((zbj l0 x5_1).f1) == ((zbj l1 x5_1).f1)) || (!(((zbj l0 x5_1).f2) == ((zbj l1 x5_1).f2))))) = true
       ·rw [if_pos c7] at H
        have c7b0 : (!(((zbj l0 x5_1).f0) == ((zbj l1 x5_1).f0)) || (!(((zbj l0 x5_1).f1) == ((zbj l1 x5_1).f1)) || (!(((zbj l0 x5_1).f2) == ((zbj l1 x5_1).f2))))) = true := c7
        clear c7;obtain rfl := Option.some.inj H
        have p125 : 0 ≤ (x5_1 : Int) := of_decide_eq_true (by first | (with_reducible assumption) | assumption)
        have q125 : x5_1 < (l0.length : Int) := of_decide_eq_true (by first | (with_reducible assumption) | assumption)
        obtain ⟨ad125, e125, hx125_0, hx125_1, hx125_2⟩ := at_T50 HR0.out x5_1 p125 q125
        cases e125
        replace p125 := eq_true p125
        replace q125 := eq_true q125
        have p126 : 0 ≤ (x5_1 : Int) := of_decide_eq_true (by first | (with_reducible assumption) | assumption)
        have q126 : x5_1 < (l1.length : Int) := of_decide_eq_true (by first | (with_reducible assumption) | assumption)
        obtain ⟨ad126, e126, hx126_0, hx126_1, hx126_2⟩ := at_T50 HR1.out x5_1 p126 q126
        cases e126
        replace p126 := eq_true p126
        replace q126 := eq_true q126
        go_wp2
        repeat (go_quiet (fail); try go_wp2)
        go_ret
        exact ⟨by first | rfl | (simp; done) | (simp [*]; done), by repeat (first | exact za8.refl _ | apply za8.step)⟩
       ·rw [if_neg c7] at H
        have c7b0 : (!(((zbj l0 x5_1).f0) == ((zbj l1 x5_1).f0)) || (!(((zbj l0 x5_1).f1) == ((zbj l1 x5_1).f1)) || (!(((zbj l0 x5_1).f2) == ((zbj l1 x5_1).f2))))) = false := by simpa using c7
        clear c7
        have H' := zaa.mk H
        clear H
        have p125 : 0 ≤ (x5_1 : Int) := of_decide_eq_true (by first | (with_reducible assumption) | assumption)
        have q125 : x5_1 < (l0.length : Int) := of_decide_eq_true (by first | (with_reducible assumption) | assumption)
        obtain ⟨ad125, e125, hx125_0, hx125_1, hx125_2⟩ := at_T50 HR0.out x5_1 p125 q125
        cases e125
        replace p125 := eq_true p125
        replace q125 := eq_true q125
        have p126 : 0 ≤ (x5_1 : Int) := of_decide_eq_true (by first | (with_reducible assumption) | assumption)
        have q126 : x5_1 < (l1.length : Int) := of_decide_eq_true (by first | (with_reducible assumption) | assumption)
        obtain ⟨ad126, e126, hx126_0, hx126_1, hx126_2⟩ := at_T50 HR1.out x5_1 p126 q126
        cases e126
        replace p126 := eq_true p126
        replace q126 := eq_true q126
        go_wp2
        repeat (go_quiet (fail); try go_wp2)
        go_roundg k1
        case measure => have := HK1.out; omega
        case rel => exact ⟨(wrap64 (x5_1 + 1)), (by first | rfl | (simp; done) | (simp [*]; done)), H', ⟨by have := HK1.out; omega⟩, by repeat (first | exact za8.refl _ | apply za8.step)⟩
      ·rw [if_neg c6] at H
       exact absurd H (by simp)
     ·rw [if_neg c5] at H
      exact absurd H (by simp)
    ·rw [if_neg c4] at H
     have c4b0 : decide (x5_1 < (l0.length : Int)) = false := decide_eq_false c4
     clear c4;obtain rfl := Option.some.inj H;go_wp2
     repeat (go_quiet (fail); try go_wp2)
     go_ret
     exact ⟨by first | rfl | (simp; done) | (simp [*]; done), by repeat (first | exact za8.refl _ | apply za8.step)⟩
 ·rw [if_neg c3] at H
  have c3b0 : ((l0.length : Int) == (l1.length : Int)) = false := beq_eq_false_iff_ne.mpr c3
  have c3b1 : ((l0.length : Int) != (l1.length : Int)) = true := bne_iff_ne.mpr c3
  have c3b2 : (l0.length == l1.length) = false := by first | simpa using c3 | (simp at c3 ⊢; omega)
  obtain rfl := Option.some.inj H
  go_enter Tryz.func19, Tryz.ntmps19
  go_wp2
  repeat (go_quiet (fail); try go_wp2)
  go_ret
  exact ⟨by first | rfl | (simp; done) | (simp [*]; done), by repeat (first | exact za8.refl _ | apply za8.step)⟩
def zbm.f : Option Bool := some true
theorem zbm.calls (r : Bool) (w : World) (h : zbm.f = some r) :
  Calls Tryz.prog 7 #[] w fun e w' => e = .returned (.bool r) ∧ Below w.heap.size w w' := by
 obtain rfl : true = r := by injection h
 exact LAwake.awake_calls w
def zcd.f (l0_0 : List ByteArray) (l0_1 : List ByteArray) (l0_2 : List (S42)) : Option (Int) := some (wrap64 ((l0_0.length : Int) + (l0_1.length : Int)))
set_option maxHeartbeats 8000000 in
set_option maxRecDepth 100000 in
theorem zcd.calls (A0_0 : Option Addr) (c0_0 : Nat) (l0_0 : List ByteArray) (A0_1 : Option Addr) (c0_1 : Nat) (l0_1 : List ByteArray) (A0_2 : Option Addr) (c0_2 : Nat) (l0_2 : List (S42)) (r : Int) (w : World) (hr0_0 : Kd.C Kd.string w A0_0 l0_0.length l0_0) (hc0_0 : l0_0.length ≤ c0_0) (hr0_1 : Kd.C Kd.string w A0_1 l0_1.length l0_1) (hc0_1 : l0_1.length ≤ c0_1) (hr0_2 : Kd.C k42 w A0_2 l0_2.length l0_2) (hc0_2 : l0_2.length ≤ c0_2) (h : zcd.f l0_0 l0_1 l0_2 = some r) :
  Calls Tryz.prog 34 #[.agg #[.slice A0_0 l0_0.length c0_0, .slice A0_1 l0_1.length c0_1, .slice A0_2 l0_2.length c0_2]] w fun e w' => e = .returned (.int .i64 r) ∧ Below w.heap.size w w' := by
 have hu25 := Tryz.underlying25
 have HR0_0 := zaa.mk hr0_0;have HC0_0 := zaa.mk hc0_0;clear hr0_0 hc0_0;have HR0_1 := zaa.mk hr0_1;have HC0_1 := zaa.mk hc0_1;clear hr0_1 hc0_1;have HR0_2 := zaa.mk hr0_2;have HC0_2 := zaa.mk hc0_2;clear hr0_2 hc0_2
 have HB := zaa.mk (Below.refl w.heap.size w)
 have H : (some (wrap64 ((l0_0.length : Int) + (l0_1.length : Int)))) = some r := h
 clear h;obtain rfl := Option.some.inj H
 go_enter Tryz.func34, Tryz.ntmps34
 go_wp2_with (first | ((with_reducible refine zbh (N := 1) rfl ?_); refine zbe ?hg (N := 1) ?hd (cs := #[.slice A0_0 l0_0.length c0_0, .slice A0_1 l0_1.length c0_1, .slice A0_2 l0_2.length c0_2]) (t := 25) ?hr ?_; (case hd => rfl); (case hg => rfl); (case hr => first | (go_simp; done) | (go_simp; rfl)); intro gb127 hg w2 hbox hb; have n0_ := zaa.mk (zaw (by repeat (first | (with_reducible first | exact HB.out | apply zah | apply zab | apply zaf) | exact HB.out)) hb); have n1_ := zaa.mk (hbox); have n2_ := zaa.mk ((by rw [hg]; exact (zas (by repeat (first | (with_reducible first | exact HB.out | apply zah | apply zab | apply zaf) | exact HB.out))) : w.heap.size ≤ gb127)); have n3_ := zaa.mk ((by rw [hg]; exact (zas (by repeat (first | (with_reducible first | exact HB.out | apply zah | apply zab | apply zaf) | exact HB.out))) : w.heap.size ≤ gb127)); clear HB; have HB := n0_; have BK127 := n1_; have GW127 := n2_; have GE127 := n3_; clear n0_ n1_ n2_ n3_; clear hb hbox hg; have hcz3_0 : w2.cell? ⟨gb127, 0, none⟩ = some (.slice A0_0 l0_0.length c0_0) := (zac BK127.out 0).trans rfl; have hcz3_1 : w2.cell? ⟨gb127, 1, none⟩ = some (.slice A0_1 l0_1.length c0_1) := (zac BK127.out 1).trans rfl; have hcz3_2 : w2.cell? ⟨gb127, 2, none⟩ = some (.slice A0_2 l0_2.length c0_2) := (zac BK127.out 2).trans rfl; have hfz3_0 := zak BK127.out 0; have hfz3_1 := zak BK127.out 1; have hfz3_2 := zak BK127.out 2))
 go_ret
 exact ⟨by first | rfl | (simp [za2, za3] <;> rfl) | (simp [*, za2, za3] <;> rfl), by repeat (first | (with_reducible first | exact HB.out | apply zah | apply zab | apply zaf | refine zal ?_ GE127.out) | exact HB.out)⟩
end Go.Proofs.YtgdmjpehofdnpaaGreat.PItemPrefixes
end
section
namespace Go.Proofs.YtgdmjpehofdnpaaGreat.PItemPrefixes
open Go.RowKit Go.Proofs.YtgdmjpehofdnpaaGreatW.PrintWords Go.Proofs.YtgdmjpehofdnpaaGreatW.PrintLast Go.Proofs.YtgdmjpehofdnpaaGreatW.PrintMore
attribute [local go_sem] zcb zcc zcj zci zb6 zb4 zcf zce
set_option linter.unusedVariables false
set_option linter.unusedSimpArgs false
mutual
def zao.l0 : Nat → List Bool → Int → List ByteArray → List ByteArray → List (S42) → Option (List Bool)
 | 0, _, _, _, _, _ => none
 | k + 1, x3, x4, x129000, x129001, x129002 => if x4 < (x129000.length : Int) then (if 0 ≤ x4 then (if x4 < (x3.length : Int) then (zao.l0 k (x3.set (x4 : Int).toNat true) (wrap64 (x4 + 1)) x129000 x129001 x129002) else (none)) else (none)) else (zao.l1 k x3 true x129000 x129001 x129002)
def zao.l1 : Nat → List Bool → Bool → List ByteArray → List ByteArray → List (S42) → Option (List Bool)
 | 0, _, _, _, _, _ => none
 | k + 1, x3, x5, x129000, x129001, x129002 => if x5 = true then (zao.l2 k x3 false 0 x129000 x129001 x129002) else (some x3)
def zao.l2 : Nat → List Bool → Bool → Int → List ByteArray → List ByteArray → List (S42) → Option (List Bool)
 | 0, _, _, _, _, _, _ => none
 | k + 1, x3, x5, x6, x129000, x129001, x129002 => if x6 < (x129002.length : Int) then (if 0 ≤ x6 then (if 0 ≤ ((zae x129002 x6).f0) then (if ((zae x129002 x6).f0) < (x3.length : Int) then (zao.l3 k x3 x5 x6 (!(rdOf false x3 ((zae x129002 x6).f0))) 0 x129000 x129001 x129002 ((zae x129002 x6).f0) ((zae x129002 x6).f1) ((zae x129002 x6).f2)) else (none)) else (none)) else (none)) else (zao.l1 k x3 x5 x129000 x129001 x129002)
def zao.l3 : Nat → List Bool → Bool → Int → Bool → Int → List ByteArray → List ByteArray → List (S42) → Int → List (S44) → Int → Option (List Bool)
 | 0, _, _, _, _, _, _, _, _, _, _, _ => none
 | k + 1, x3, x5, x6, x8, x9, x129000, x129001, x129002, x136000, x136001, x136002 => if x9 < (x136001.length : Int) then (if x8 = true then (if 0 ≤ x9 then (if 0 ≤ ((zba x136001 x9).f0) then (if ((zba x136001 x9).f0) < (x3.length : Int) then (zao.l3 k x3 x5 x6 (rdOf false x3 ((zba x136001 x9).f0)) (wrap64 (x9 + 1)) x129000 x129001 x129002 x136000 x136001 x136002) else (none)) else (none)) else (none)) else (zao.l3 k x3 x5 x6 false (wrap64 (x9 + 1)) x129000 x129001 x129002 x136000 x136001 x136002)) else (if x8 = true then (if 0 ≤ x136000 then (if x136000 < (x3.length : Int) then (zao.l2 k (x3.set (x136000 : Int).toNat true) true (wrap64 (x6 + 1)) x129000 x129001 x129002) else (none)) else (none)) else (zao.l2 k x3 x5 (wrap64 (x6 + 1)) x129000 x129001 x129002))
end
def zao.f (k : Nat) (l0_0 : List ByteArray) (l0_1 : List ByteArray) (l0_2 : List (S42)) : Option (List Bool) := (zcd.f l0_0 l0_1 l0_2).bind fun t129 => (if 0 ≤ t129 then (if (t129 : Int).toNat ≤ 281474976710656 then (zao.l0 k (List.replicate (t129 : Int).toNat false) 0 l0_0 l0_1 l0_2) else (none)) else (none))
theorem zao.zbw : ∀ k, (∀ y0 y1 y2 y3 y4, LeO (zao.l0 k y0 y1 y2 y3 y4) (zao.l0 (k + 1) y0 y1 y2 y3 y4)) ∧ (∀ y0 y1 y2 y3 y4, LeO (zao.l1 k y0 y1 y2 y3 y4) (zao.l1 (k + 1) y0 y1 y2 y3 y4)) ∧ (∀ y0 y1 y2 y3 y4 y5, LeO (zao.l2 k y0 y1 y2 y3 y4 y5) (zao.l2 (k + 1) y0 y1 y2 y3 y4 y5)) ∧ (∀ y0 y1 y2 y3 y4 y5 y6 y7 y8 y9 y10, LeO (zao.l3 k y0 y1 y2 y3 y4 y5 y6 y7 y8 y9 y10) (zao.l3 (k + 1) y0 y1 y2 y3 y4 y5 y6 y7 y8 y9 y10))
 | 0 => ⟨fun _ _ _ _ _ r h => by simp [zao.l0] at h, fun _ _ _ _ _ r h => by simp [zao.l1] at h, fun _ _ _ _ _ _ r h => by simp [zao.l2] at h, fun _ _ _ _ _ _ _ _ _ _ _ r h => by simp [zao.l3] at h⟩
 | k + 1 => by
  obtain ⟨ih0, ih1, ih2, ih3⟩ := zao.zbw k
  refine ⟨?_, ?_, ?_, ?_⟩
  ·intro y0 y1 y2 y3 y4
   unfold zao.l0
   repeat' first
   | (with_reducible exact ih0 _ _ _ _ _)
   | (with_reducible exact ih1 _ _ _ _ _)
   | (with_reducible exact ih2 _ _ _ _ _ _)
   | (with_reducible exact ih3 _ _ _ _ _ _ _ _ _ _ _)
   | (with_reducible exact LeO.refl _)
   | (with_reducible exact LeO.none _)
   | (with_reducible refine LeO.ite ?_ ?_)
   | (with_reducible refine LeO.bind ?_ (fun _ => ?_))
   | exact ih0 _ _ _ _ _
   | exact ih1 _ _ _ _ _
   | exact ih2 _ _ _ _ _ _
   | exact ih3 _ _ _ _ _ _ _ _ _ _ _
   | exact LeO.none _
   | refine LeO.ite ?_ ?_
   | refine LeO.bind ?_ (fun _ => ?_)
  ·intro y0 y1 y2 y3 y4
   unfold zao.l1
   repeat' first
   | (with_reducible exact ih0 _ _ _ _ _)
   | (with_reducible exact ih1 _ _ _ _ _)
   | (with_reducible exact ih2 _ _ _ _ _ _)
   | (with_reducible exact ih3 _ _ _ _ _ _ _ _ _ _ _)
   | (with_reducible exact LeO.refl _)
   | (with_reducible exact LeO.none _)
   | (with_reducible refine LeO.ite ?_ ?_)
   | (with_reducible refine LeO.bind ?_ (fun _ => ?_))
   | exact ih0 _ _ _ _ _
   | exact ih1 _ _ _ _ _
   | exact ih2 _ _ _ _ _ _
   | exact ih3 _ _ _ _ _ _ _ _ _ _ _
   | exact LeO.none _
   | refine LeO.ite ?_ ?_
   | refine LeO.bind ?_ (fun _ => ?_)
  ·intro y0 y1 y2 y3 y4 y5
   unfold zao.l2
   repeat' first
   | (with_reducible exact ih0 _ _ _ _ _)
   | (with_reducible exact ih1 _ _ _ _ _)
   | (with_reducible exact ih2 _ _ _ _ _ _)
   | (with_reducible exact ih3 _ _ _ _ _ _ _ _ _ _ _)
   | (with_reducible exact LeO.refl _)
   | (with_reducible exact LeO.none _)
   | (with_reducible refine LeO.ite ?_ ?_)
   | (with_reducible refine LeO.bind ?_ (fun _ => ?_))
   | exact ih0 _ _ _ _ _
   | exact ih1 _ _ _ _ _
   | exact ih2 _ _ _ _ _ _
   | exact ih3 _ _ _ _ _ _ _ _ _ _ _
   | exact LeO.none _
   | refine LeO.ite ?_ ?_
   | refine LeO.bind ?_ (fun _ => ?_)
  ·intro y0 y1 y2 y3 y4 y5 y6 y7 y8 y9 y10
   unfold zao.l3
   repeat' first
   | (with_reducible exact ih0 _ _ _ _ _)
   | (with_reducible exact ih1 _ _ _ _ _)
   | (with_reducible exact ih2 _ _ _ _ _ _)
   | (with_reducible exact ih3 _ _ _ _ _ _ _ _ _ _ _)
   | (with_reducible exact LeO.refl _)
   | (with_reducible exact LeO.none _)
   | (with_reducible refine LeO.ite ?_ ?_)
   | (with_reducible refine LeO.bind ?_ (fun _ => ?_))
   | exact ih0 _ _ _ _ _
   | exact ih1 _ _ _ _ _
   | exact ih2 _ _ _ _ _ _
   | exact ih3 _ _ _ _ _ _ _ _ _ _ _
   | exact LeO.none _
   | refine LeO.ite ?_ ?_
   | refine LeO.bind ?_ (fun _ => ?_)
theorem zao.mono : ∀ a0 a1 a2 k, LeO (zao.f k a0 a1 a2) (zao.f (k + 1) a0 a1 a2) := by
 intro a0 a1 a2 k
 obtain ⟨ih0, ih1, ih2, ih3⟩ := zao.zbw k
 unfold zao.f
 repeat' first
   | (with_reducible exact ih0 _ _ _ _ _)
   | (with_reducible exact ih1 _ _ _ _ _)
   | (with_reducible exact ih2 _ _ _ _ _ _)
   | (with_reducible exact ih3 _ _ _ _ _ _ _ _ _ _ _)
   | (with_reducible exact LeO.refl _)
   | (with_reducible exact LeO.none _)
   | (with_reducible refine LeO.ite ?_ ?_)
   | (with_reducible refine LeO.bind ?_ (fun _ => ?_))
   | exact ih0 _ _ _ _ _
   | exact ih1 _ _ _ _ _
   | exact ih2 _ _ _ _ _ _
   | exact ih3 _ _ _ _ _ _ _ _ _ _ _
   | exact LeO.none _
   | refine LeO.ite ?_ ?_
   | refine LeO.bind ?_ (fun _ => ?_)
set_option maxHeartbeats 8000000 in
set_option maxRecDepth 100000 in
theorem zao.calls (k : Nat) (A0_0 : Option Addr) (c0_0 : Nat) (l0_0 : List ByteArray) (A0_1 : Option Addr) (c0_1 : Nat) (l0_1 : List ByteArray) (A0_2 : Option Addr) (c0_2 : Nat) (l0_2 : List (S42)) (r : List Bool) (w : World) (hr0_0 : Kd.C Kd.string w A0_0 l0_0.length l0_0) (hc0_0 : l0_0.length ≤ c0_0) (hr0_1 : Kd.C Kd.string w A0_1 l0_1.length l0_1) (hc0_1 : l0_1.length ≤ c0_1) (hr0_2 : Kd.C k42 w A0_2 l0_2.length l0_2) (hc0_2 : l0_2.length ≤ c0_2) (h : zao.f k l0_0 l0_1 l0_2 = some r) :
  Calls Tryz.prog 11 #[.agg #[.slice A0_0 l0_0.length c0_0, .slice A0_1 l0_1.length c0_1, .slice A0_2 l0_2.length c0_2]] w fun e w' => ∃ v0_ : Value, e = .returned (v0_) ∧ Kd.R Kd.bool 4 w' w.heap.size (fun _ => True) v0_ r ∧ Below w.heap.size w w' := by
 have hu25 := Tryz.underlying25
 have hu42 := Tryz.underlying42
 have HR0_0 := zaa.mk hr0_0;have HC0_0 := zaa.mk hc0_0;clear hr0_0 hc0_0;have HR0_1 := zaa.mk hr0_1;have HC0_1 := zaa.mk hc0_1;clear hr0_1 hc0_1;have HR0_2 := zaa.mk hr0_2;have HC0_2 := zaa.mk hc0_2;clear hr0_2 hc0_2
 have HB := zaa.mk (Below.refl w.heap.size w)
 have H : ((zcd.f l0_0 l0_1 l0_2).bind fun t129 => (if 0 ≤ t129 then (if (t129 : Int).toNat ≤ 281474976710656 then (zao.l0 k (List.replicate (t129 : Int).toNat false) 0 l0_0 l0_1 l0_2) else (none)) else (none))) = some r := h
 clear h;replace H := Option.bind_eq_some_iff.mp H
 obtain ⟨t129, A20, H⟩ := H
 replace H : (if 0 ≤ t129 then (if (t129 : Int).toNat ≤ 281474976710656 then (zao.l0 k (List.replicate (t129 : Int).toNat false) 0 l0_0 l0_1 l0_2) else (none)) else (none)) = some r := H
 have A2 := zaa.mk A20;clear A20
 by_cases c3 : 0 ≤ t129
 ·rw [if_pos c3] at H
  have c3b0 := eq_true c3
  have c3b1 : decide (0 ≤ t129) = true := decide_eq_true c3
  clear c3
  by_cases c4 : (t129 : Int).toNat ≤ 281474976710656
  ·rw [if_pos c4] at H
   have c4b0 := eq_true c4
   have c4b1 : decide ((t129 : Int).toNat ≤ 281474976710656) = true := decide_eq_true c4
   clear c4
   obtain ⟨y130, hy130⟩ : ∃ y_ : List Bool, y_ = (List.replicate (t129 : Int).toNat false) := ⟨_, rfl⟩
   replace H : (zao.l0 k y130 0 l0_0 l0_1 l0_2) = some r := by first | (rw [hy130]; with_reducible exact H) | (have H2_ := (Option.bind_some _ _).symm.trans H; rw [hy130]; with_reducible exact H2_) | (have H2_ := (Option.bind_some _ _).symm.trans H; with_reducible exact H2_) | with_reducible exact H | (rw [hy130]; exact H) | exact H
   have Ny130 := zaa.mk hy130;clear hy130
   have H' := zaa.mk H
   clear H
   go_enter Tryz.func11, Tryz.ntmps11
   go_wp2_with (first | ((with_reducible refine zbh (N := 1) rfl ?_); refine zbe ?hg (N := 1) ?hd (cs := #[.slice A0_0 l0_0.length c0_0, .slice A0_1 l0_1.length c0_1, .slice A0_2 l0_2.length c0_2]) (t := 25) ?hr ?_; (case hd => rfl); (case hg => rfl); (case hr => first | (go_simp; done) | (go_simp; rfl)); intro gb128 hg w5 hbox hb; have n0_ := zaa.mk (zaw (by repeat (first | (with_reducible first | exact HB.out | apply zah | apply zab | apply zaf) | exact HB.out)) hb); have n1_ := zaa.mk (hbox); have n2_ := zaa.mk ((by rw [hg]; exact (zas (by repeat (first | (with_reducible first | exact HB.out | apply zah | apply zab | apply zaf) | exact HB.out))) : w.heap.size ≤ gb128)); have n3_ := zaa.mk ((by rw [hg]; exact (zas (by repeat (first | (with_reducible first | exact HB.out | apply zah | apply zab | apply zaf) | exact HB.out))) : w.heap.size ≤ gb128)); clear HB; have HB := n0_; have BK128 := n1_; have GW128 := n2_; have GE128 := n3_; clear n0_ n1_ n2_ n3_; clear hb hbox hg; have hcz6_0 : w5.cell? ⟨gb128, 0, none⟩ = some (.slice A0_0 l0_0.length c0_0) := (zac BK128.out 0).trans rfl; have hcz6_1 : w5.cell? ⟨gb128, 1, none⟩ = some (.slice A0_1 l0_1.length c0_1) := (zac BK128.out 1).trans rfl; have hcz6_2 : w5.cell? ⟨gb128, 2, none⟩ = some (.slice A0_2 l0_2.length c0_2) := (zac BK128.out 2).trans rfl; have hfz6_0 := zak BK128.out 0; have hfz6_1 := zak BK128.out 1; have hfz6_2 := zak BK128.out 2) | ((with_reducible refine zbo (f := 34) rfl ?_); refine zb9 (some 11) rfl rfl Tryz.func34 (by kernel_rfl) rfl #[.agg #[.slice A0_0 l0_0.length c0_0, .slice A0_1 l0_1.length c0_1, .slice A0_2 l0_2.length c0_2]] rfl (by (try simp only [List.map_toArray, List.map_cons, List.map_nil]); first | done | rfl | (simp only [List.length_drop, List.length_take]; rfl)) ?_; (with_reducible refine (zcd.calls _ _ l0_0 _ _ l0_1 _ _ l0_2 t129 _ ?side1 ?side2 ?side3 ?side4 ?side5 ?side6 A2.out).mono ?_); (case side1 => repeat (first | exact (Kd.zax HR0_0.out HB.out) | (with_reducible refine Kd.za6 ?_ _) | (with_reducible refine Kd.za7 ?_ _) | (with_reducible refine Kd.za9 ?_))); (case side2 => exact HC0_0.out); (case side3 => repeat (first | exact (Kd.zax HR0_1.out HB.out) | (with_reducible refine Kd.za6 ?_ _) | (with_reducible refine Kd.za7 ?_ _) | (with_reducible refine Kd.za9 ?_))); (case side4 => exact HC0_1.out); (case side5 => repeat (first | exact (Kd.zax HR0_2.out HB.out) | (with_reducible refine Kd.za6 ?_ _) | (with_reducible refine Kd.za7 ?_ _) | (with_reducible refine Kd.za9 ?_))); (case side6 => exact HC0_2.out); rintro e w7 ⟨rfl, hb⟩; refine ⟨_, rfl, ?_⟩; have n0_ := zaa.mk (zar (g := gb128) (o := .cells #[.slice A0_0 l0_0.length c0_0, .slice A0_1 l0_1.length c0_1, .slice A0_2 l0_2.length c0_2] 25 (0, 0)) (by (with_reducible repeat (first | refine zam ?_ _ | refine zaj ?_ | refine zai ?_ _)); exact BK128.out) hb); have n1_ := zaa.mk (zaw (by repeat (first | (with_reducible first | exact HB.out | apply zah | apply zab | apply zaf | refine zal ?_ GE128.out) | exact HB.out)) hb); clear BK128; clear HB; have BK128 := n0_; have HB := n1_; clear n0_ n1_; (try clear hb); (try clear hb2); (try clear hk); (try clear hi)) | ((with_reducible refine zbh (N := 12) rfl ?_); refine Kd.R_make Kd.bool _ 4 rfl (N := 12) rfl 36 _ _ rfl t129 rfl rfl Tryz.underlying36 (.bool false) 1 info4 rfl (by decide) (by omega) false (ok := fun _ => True) (okp := fun _ => True) rfl (fun _ hk => hk) trivial (of_decide_eq_true (by first | (with_reducible assumption) | assumption)) (Nat.le_trans (Nat.mul_le_mul_right _ (of_decide_eq_true (by first | (with_reducible assumption) | assumption) : t129.toNat ≤ 281474976710656)) (by omega)) (Below.refl _ _) (Nat.le_refl _) ?_; intro v131 w8 ho9 hb hg_ hnew_; clear hg_ hnew_; (first | rw [← Ny130.out] at ho9 | (simp only [Int.reduceToNat] at ho9; rw [← Ny130.out] at ho9)); have n0_ := zaa.mk (Kd.zb1 ho9 (zas (by repeat (first | (with_reducible first | exact HB.out | apply zah | apply zab | apply zaf | refine zal ?_ GE128.out) | exact HB.out)))); have n1_ := zaa.mk (zar (g := gb128) (o := .cells #[.slice A0_0 l0_0.length c0_0, .slice A0_1 l0_1.length c0_1, .slice A0_2 l0_2.length c0_2] 25 (0, 0)) (by (with_reducible repeat (first | refine zam ?_ _ | refine zaj ?_ | refine zai ?_ _)); exact BK128.out) hb); have n2_ := zaa.mk (zaw (by repeat (first | (with_reducible first | exact HB.out | apply zah | apply zab | apply zaf | refine zal ?_ GE128.out) | exact HB.out)) hb); clear BK128; clear HB; have HO132 := n0_; have BK128 := n1_; have HB := n2_; clear n0_ n1_ n2_; clear hb ho9))
   go_loopg [4] k (fun kq v4 w' => ∃ (x3_1 : List Bool) (x4_1 : Int), v4 = .int .i64 x4_1 ∧ zaa (zao.l0 kq x3_1 x4_1 l0_0 l0_1 l0_2 = some r) ∧ zaa (kq ≤ k) ∧ zaa (Kd.R Kd.bool 4 w' w.heap.size (fun _ => True) v131 x3_1) ∧ zaa (w'.heap[gb128]? = some (.cells #[(.slice A0_0 l0_0.length c0_0), (.slice A0_1 l0_1.length c0_1), (.slice A0_2 l0_2.length c0_2)] 25 (0, 0))) ∧ zaa (Below w.heap.size w w'))
   case atStart => exact ⟨(y130), (0), (by first | rfl | (simp; done) | (simp [*]; done)), H', ⟨Nat.le_refl _⟩, ⟨by (with_reducible repeat (first | apply Kd.zbc | apply Kd.zbd | apply Kd.zbg)); exact HO132.out⟩, ⟨by (with_reducible repeat (first | refine zam ?_ _ | refine zaj ?_ | refine zai ?_ _)); exact BK128.out⟩, ⟨by repeat (first | (with_reducible first | exact HB.out | apply zah | apply zab | apply zaf | refine zal ?_ GE128.out) | exact HB.out)⟩⟩
   case round =>
    clear H';(try clear c1);(try clear p2);(try clear c3);(try clear c3b0);(try clear c3b1);(try clear c4);(try clear c4b0);(try clear c4b1);(try clear hcz6_0);(try clear hcz6_1);(try clear hcz6_2);(try clear hfz6_0);(try clear hfz6_1);(try clear hfz6_2)
    obtain ⟨x3_1, x4_1, rfl, HA, HK1, HO_3, BK128, HB⟩ := hrel
    cases gk with
    | zero => exact absurd HA.out (by simp [zao.l0])
    | succ k1 =>
     have H := HA.out;clear HA
     simp only [zao.l0] at H
     by_cases c10 : x4_1 < (l0_0.length : Int)
     ·rw [if_pos c10] at H
      have c10b0 : decide (x4_1 < (l0_0.length : Int)) = true := decide_eq_true c10
      clear c10
      by_cases c11 : 0 ≤ x4_1
      ·rw [if_pos c11] at H
       have c11b0 : decide (0 ≤ x4_1) = true := decide_eq_true c11
       clear c11
       by_cases c12 : x4_1 < (x3_1.length : Int)
       ·rw [if_pos c12] at H
        have c12b0 : decide (x4_1 < (x3_1.length : Int)) = true := decide_eq_true c12
        clear c12
        obtain ⟨y133, hy133⟩ : ∃ y_ : List Bool, y_ = (x3_1.set (x4_1 : Int).toNat true) := ⟨_, rfl⟩
        replace H : (zao.l0 k1 y133 (wrap64 (x4_1 + 1)) l0_0 l0_1 l0_2) = some r := by first | (rw [hy133]; with_reducible exact H) | (have H2_ := (Option.bind_some _ _).symm.trans H; rw [hy133]; with_reducible exact H2_) | (have H2_ := (Option.bind_some _ _).symm.trans H; with_reducible exact H2_) | with_reducible exact H | (rw [hy133]; exact H) | exact H
        have Ny133 := zaa.mk hy133;clear hy133
        have H' := zaa.mk H
        clear H
        have hcz14_0 : wr.cell? ⟨gb128, 0, none⟩ = some (.slice A0_0 l0_0.length c0_0) := (zac BK128.out 0).trans rfl
        have hcz14_1 : wr.cell? ⟨gb128, 1, none⟩ = some (.slice A0_1 l0_1.length c0_1) := (zac BK128.out 1).trans rfl
        have hcz14_2 : wr.cell? ⟨gb128, 2, none⟩ = some (.slice A0_2 l0_2.length c0_2) := (zac BK128.out 2).trans rfl
        have hfz14_0 := zak BK128.out 0
        have hfz14_1 := zak BK128.out 1
        have hfz14_2 := zak BK128.out 2
        have p13 : 0 ≤ (x4_1 : Int) := of_decide_eq_true (by first | (with_reducible assumption) | assumption)
        have q13 : (x4_1 : Int) < ((x3_1.length : Int) : Int) := of_decide_eq_true (by first | (with_reducible assumption) | assumption)
        obtain ⟨go13, co13, eo13, gb13, gl13, cl13, HG13⟩ := Kd.R_form HO_3.out (by omega)
        (first | cases eo13 | (injection eo13 with ea_ en_ ec_; (first | subst ea_ | (injection ea_ with ea_; subst ea_)); subst ec_; clear en_))
        have GB13 := zaa.mk gb13;have GG13 := zaa.mk HG13;clear gb13 gl13 HG13
        obtain ⟨hx13_0, hf13_0⟩ := Kd.R_celln false HO_3.out (x4_1 : Int) p13 q13
        replace p13 := eq_true p13
        replace q13 := eq_true q13
        have HP15 := Kd.R_putg HO_3.out (x4_1 : Int) true
        go_wp2_with (first | ((with_reducible refine gate_store (t := 4) (p := 22) rfl ?_); refine store_event (t := 4) (p := 22) (v := ?vo_w16) (w1 := (wr.setCell ⟨go13, (x4_1 : Int).toNat, none⟩ (.bool true))) ?hg ?ho ?hn ?hr ?_; (case ho => rfl); (case hg => rfl); (case hn => rfl); (case hr => first | (go_simp; done) | (go_simp; rfl)); intro w16 hw; have hg : wr.grownBy w16 (some go13) := (by rw [hw]; exact HP15.2); have hp_ : Kd.R Kd.bool 4 w16 w.heap.size (fun _ => True) (.slice (some ⟨go13, 0, none⟩) x3_1.length co13) y133 := (by rw [hw, Ny133.out]; exact HP15.1); clear HP15; have n0_ := zaa.mk (hp_); have n1_ := zaa.mk (zcg (g := gb128) (o := .cells #[.slice A0_0 l0_0.length c0_0, .slice A0_1 l0_1.length c0_1, .slice A0_2 l0_2.length c0_2] 25 (0, 0)) (by (with_reducible repeat (first | refine zam ?_ _ | refine zaj ?_ | refine zai ?_ _)); exact BK128.out) hg (Kd.R_ne HO_3.out BK128.out (by decide))); have n2_ := zaa.mk ((by rw [hw]; exact zal (HB.out) GB13.out : Below w.heap.size w w16)); clear HO_3; clear BK128; clear HB; have HO_3 := n0_; have BK128 := n1_; have HB := n2_; clear n0_ n1_ n2_; clear hg hw hp_))
        go_roundg k1
        case measure => have := HK1.out; omega
        case rel => exact ⟨(y133), (wrap64 (x4_1 + 1)), (by first | rfl | (simp; done) | (simp [*]; done)), H', ⟨by have := HK1.out; omega⟩, ⟨by (with_reducible repeat (first | apply Kd.zbc | apply Kd.zbd | apply Kd.zbg)); exact HO_3.out⟩, ⟨by (with_reducible repeat (first | refine zam ?_ _ | refine zaj ?_ | refine zai ?_ _)); exact BK128.out⟩, ⟨by repeat (first | (with_reducible first | exact HB.out | apply zah | apply zab | apply zaf | refine zal ?_ GE128.out) | exact HB.out)⟩⟩
       ·rw [if_neg c12] at H
        exact absurd H (by simp)
      ·rw [if_neg c11] at H
       exact absurd H (by simp)
     ·rw [if_neg c10] at H
      have c10b0 : decide (x4_1 < (l0_0.length : Int)) = false := decide_eq_false c10
      clear c10
      have H' := zaa.mk H
      clear H
      have hcz17_0 : wr.cell? ⟨gb128, 0, none⟩ = some (.slice A0_0 l0_0.length c0_0) := (zac BK128.out 0).trans rfl
      have hcz17_1 : wr.cell? ⟨gb128, 1, none⟩ = some (.slice A0_1 l0_1.length c0_1) := (zac BK128.out 1).trans rfl
      have hcz17_2 : wr.cell? ⟨gb128, 2, none⟩ = some (.slice A0_2 l0_2.length c0_2) := (zac BK128.out 2).trans rfl
      have hfz17_0 := zak BK128.out 0
      have hfz17_1 := zak BK128.out 1
      have hfz17_2 := zak BK128.out 2
      go_wp2
      go_loopg [5] k1 (fun kq v5 w' => ∃ (x3_2 : List Bool) (x5_2 : Bool), v5 = .bool x5_2 ∧ zaa (zao.l1 kq x3_2 x5_2 l0_0 l0_1 l0_2 = some r) ∧ zaa (kq ≤ k1) ∧ zaa (Kd.R Kd.bool 4 w' w.heap.size (fun _ => True) v131 x3_2) ∧ zaa (w'.heap[gb128]? = some (.cells #[(.slice A0_0 l0_0.length c0_0), (.slice A0_1 l0_1.length c0_1), (.slice A0_2 l0_2.length c0_2)] 25 (0, 0))) ∧ zaa (Below w.heap.size w w'))
      case atStart => exact ⟨(x3_1), (true), (by first | rfl | (simp; done) | (simp [*]; done)), H', ⟨Nat.le_refl _⟩, ⟨by (with_reducible repeat (first | apply Kd.zbc | apply Kd.zbd | apply Kd.zbg)); exact HO_3.out⟩, ⟨by (with_reducible repeat (first | refine zam ?_ _ | refine zaj ?_ | refine zai ?_ _)); exact BK128.out⟩, ⟨by repeat (first | (with_reducible first | exact HB.out | apply zah | apply zab | apply zaf | refine zal ?_ GE128.out) | exact HB.out)⟩⟩
      case round =>
       clear H';(try clear c1);(try clear p1);(try clear q1);(try clear hx1);(try clear hf1);(try clear p2);(try clear c3);(try clear c3b0);(try clear c3b1);(try clear c4);(try clear c4b0);(try clear c4b1);(try clear p6);(try clear c10);(try clear c10b0);(try clear c11);(try clear c11b0);(try clear c12);(try clear c12b0);(try clear p13);(try clear q13);(try clear hx13);(try clear hf13);(try clear hcz14_0);(try clear hcz14_1);(try clear hcz14_2);(try clear hcz17_0);(try clear hcz17_1);(try clear hcz17_2);(try clear hcz6_0);(try clear hcz6_1);(try clear hcz6_2);(try clear hfz14_0);(try clear hfz14_1);(try clear hfz14_2);(try clear hfz17_0);(try clear hfz17_1);(try clear hfz17_2);(try clear hfz6_0);(try clear hfz6_1);(try clear hfz6_2);(try clear hx13_0);(try clear p13);(try clear p2);(try clear q13)
       obtain ⟨x3_2, x5_2, rfl, HA, HK2, HO_3, BK128, HB⟩ := hrel
       cases gk with
       | zero => exact absurd HA.out (by simp [zao.l1])
       | succ k2 =>
        have H := HA.out;clear HA
        simp only [zao.l1] at H
        by_cases c18 : x5_2 = true
        ·subst c18
         have H1 : (zao.l2 k2 x3_2 false 0 l0_0 l0_1 l0_2) = some r := by rw [if_pos rfl] at H; exact H
         clear H;have H := H1;clear H1
         have H' := zaa.mk H
         clear H;go_wp2
         go_loopg [5, 6] k2 (fun kq v5 v6 w' => ∃ (x3_3 : List Bool) (x5_3 : Bool) (x6_3 : Int), v5 = .bool x5_3 ∧ v6 = .int .i64 x6_3 ∧ zaa (zao.l2 kq x3_3 x5_3 x6_3 l0_0 l0_1 l0_2 = some r) ∧ zaa (kq ≤ k2) ∧ zaa (Kd.R Kd.bool 4 w' w.heap.size (fun _ => True) v131 x3_3) ∧ zaa (w'.heap[gb128]? = some (.cells #[(.slice A0_0 l0_0.length c0_0), (.slice A0_1 l0_1.length c0_1), (.slice A0_2 l0_2.length c0_2)] 25 (0, 0))) ∧ zaa (Below w.heap.size w w'))
         case atStart => exact ⟨(x3_2), (false), (0), (by first | rfl | (simp; done) | (simp [*]; done)), (by first | rfl | (simp; done) | (simp [*]; done)), H', ⟨Nat.le_refl _⟩, ⟨by (with_reducible repeat (first | apply Kd.zbc | apply Kd.zbd | apply Kd.zbg)); exact HO_3.out⟩, ⟨by (with_reducible repeat (first | refine zam ?_ _ | refine zaj ?_ | refine zai ?_ _)); exact BK128.out⟩, ⟨by repeat (first | (with_reducible first | exact HB.out | apply zah | apply zab | apply zaf | refine zal ?_ GE128.out) | exact HB.out)⟩⟩
         case round =>
          clear H';(try clear c1);(try clear p1);(try clear q1);(try clear hx1);(try clear hf1);(try clear p2);(try clear c3);(try clear c3b0);(try clear c3b1);(try clear c4);(try clear c4b0);(try clear c4b1);(try clear p6);(try clear c10);(try clear c10b0);(try clear c11);(try clear c11b0);(try clear c12);(try clear c12b0);(try clear p13);(try clear q13);(try clear hx13);(try clear hf13);(try clear c18);(try clear hcz14_0);(try clear hcz14_1);(try clear hcz14_2);(try clear hcz17_0);(try clear hcz17_1);(try clear hcz17_2);(try clear hcz6_0);(try clear hcz6_1);(try clear hcz6_2);(try clear hfz14_0);(try clear hfz14_1);(try clear hfz14_2);(try clear hfz17_0);(try clear hfz17_1);(try clear hfz17_2);(try clear hfz6_0);(try clear hfz6_1);(try clear hfz6_2);(try clear hx13_0);(try clear p1);(try clear p13);(try clear p2);(try clear p6);(try clear q1);(try clear q13)
          obtain ⟨x3_3, x5_3, x6_3, rfl, rfl, HA, HK3, HO_3, BK128, HB⟩ := hrel
          cases gk with
          | zero => exact absurd HA.out (by simp [zao.l2])
          | succ k3 =>
           have H := HA.out;clear HA
           simp only [zao.l2] at H
           by_cases c19 : x6_3 < (l0_2.length : Int)
           ·rw [if_pos c19] at H
            have c19b0 : decide (x6_3 < (l0_2.length : Int)) = true := decide_eq_true c19
            clear c19
            by_cases c20 : 0 ≤ x6_3
            ·rw [if_pos c20] at H
             have c20b0 : decide (0 ≤ x6_3) = true := decide_eq_true c20
             clear c20
             by_cases c21 : 0 ≤ ((zae l0_2 x6_3).f0)
             ·rw [if_pos c21] at H
              have c21b0 : decide (0 ≤ ((zae l0_2 x6_3).f0)) = true := decide_eq_true c21
              clear c21
              by_cases c22 : ((zae l0_2 x6_3).f0) < (x3_3.length : Int)
              ·rw [if_pos c22] at H
               have c22b0 : decide (((zae l0_2 x6_3).f0) < (x3_3.length : Int)) = true := decide_eq_true c22
               clear c22
               have H' := zaa.mk H
               clear H
               have hcz23_0 : wr.cell? ⟨gb128, 0, none⟩ = some (.slice A0_0 l0_0.length c0_0) := (zac BK128.out 0).trans rfl
               have hcz23_1 : wr.cell? ⟨gb128, 1, none⟩ = some (.slice A0_1 l0_1.length c0_1) := (zac BK128.out 1).trans rfl
               have hcz23_2 : wr.cell? ⟨gb128, 2, none⟩ = some (.slice A0_2 l0_2.length c0_2) := (zac BK128.out 2).trans rfl
               have hfz23_0 := zak BK128.out 0
               have hfz23_1 := zak BK128.out 1
               have hfz23_2 := zak BK128.out 2
               have p134 : 0 ≤ (x6_3 : Int) := of_decide_eq_true (by first | (with_reducible assumption) | assumption)
               have q134 : x6_3 < (l0_2.length : Int) := of_decide_eq_true (by first | (with_reducible assumption) | assumption)
               obtain ⟨ad134, A134_1, c134_1, e134, hx134_0, hx134_1, hx134_2, hl134_1, hi134_1⟩ := at_T42 HR0_2.out x6_3 p134 q134
               cases e134
               replace hx134_0 := (HB.out.cell (World.block_lt_of_cell? w _ hx134_0)).trans hx134_0
               replace hx134_1 := (HB.out.cell (World.block_lt_of_cell? w _ hx134_1)).trans hx134_1
               replace hx134_2 := (HB.out.cell (World.block_lt_of_cell? w _ hx134_2)).trans hx134_2
               have HR134_1 := zaa.mk hi134_1;have HC134_1 := zaa.mk hl134_1;clear hi134_1 hl134_1
               replace p134 := eq_true p134
               replace q134 := eq_true q134
               go_wp2_with (first | ((with_reducible refine zbh (N := 7) rfl ?_); refine zbe ?hg (N := 7) ?hd (cs := #[.int .i64 0, .slice none 0 0, .int .i64 0]) (t := 42) ?hr ?_; (case hd => rfl); (case hg => rfl); (case hr => first | (go_simp; done) | (go_simp; rfl)); intro gb135 hg w24 hbox hb; have n0_ := zaa.mk (Kd.zbq (by (with_reducible repeat (first | apply Kd.zbc | apply Kd.zbd | apply Kd.zbg)); exact HO_3.out) hb); have n1_ := zaa.mk (zar (g := gb128) (o := .cells #[.slice A0_0 l0_0.length c0_0, .slice A0_1 l0_1.length c0_1, .slice (some ad134) l0_2.length c0_2] 25 (0, 0)) (by (with_reducible repeat (first | refine zam ?_ _ | refine zaj ?_ | refine zai ?_ _)); exact BK128.out) hb); have n2_ := zaa.mk (zaw (by repeat (first | (with_reducible first | exact HB.out | apply zah | apply zab | apply zaf | refine zal ?_ GE128.out) | exact HB.out)) hb); have n3_ := zaa.mk (hbox); have n4_ := zaa.mk ((by rw [hg]; exact (zas (by repeat (first | (with_reducible first | exact HB.out | apply zah | apply zab | apply zaf | refine zal ?_ GE128.out) | exact HB.out))) : w.heap.size ≤ gb135)); have n5_ := zaa.mk ((by rw [hg]; exact (zas (by repeat (first | (with_reducible first | exact HB.out | apply zah | apply zab | apply zaf | refine zal ?_ GE128.out) | exact HB.out))) : w.heap.size ≤ gb135)); have n6_ := zaa.mk ((by rw [hg]; exact Nat.ne_of_lt (zav (g := gb128) (o := .cells #[.slice A0_0 l0_0.length c0_0, .slice A0_1 l0_1.length c0_1, .slice (some ad134) l0_2.length c0_2] 25 (0, 0)) (by (with_reducible repeat (first | refine zam ?_ _ | refine zaj ?_ | refine zai ?_ _)); exact BK128.out)) : gb128 ≠ gb135)); have n7_ := zaa.mk ((by rw [hg]; exact Nat.ne_of_gt (zav (g := gb128) (o := .cells #[.slice A0_0 l0_0.length c0_0, .slice A0_1 l0_1.length c0_1, .slice (some ad134) l0_2.length c0_2] 25 (0, 0)) (by (with_reducible repeat (first | refine zam ?_ _ | refine zaj ?_ | refine zai ?_ _)); exact BK128.out)) : gb135 ≠ gb128)); clear HO_3; clear BK128; clear HB; have HO_3 := n0_; have BK128 := n1_; have HB := n2_; have BK135 := n3_; have GW135 := n4_; have GE135 := n5_; have NB128_135 := n6_; have NB135_128 := n7_; clear n0_ n1_ n2_ n3_ n4_ n5_ n6_ n7_; clear hb hbox hg; have hnb25 := NB135_128.out; have hnc25 := NB128_135.out; have hcz26_0 : w24.cell? ⟨gb135, 0, none⟩ = some (.int .i64 0) := (zac BK135.out 0).trans rfl; have hcz26_1 : w24.cell? ⟨gb135, 1, none⟩ = some (.slice none 0 0) := (zac BK135.out 1).trans rfl; have hcz26_2 : w24.cell? ⟨gb135, 2, none⟩ = some (.int .i64 0) := (zac BK135.out 2).trans rfl; have hfz26_0 := zak BK135.out 0; have hfz26_1 := zak BK135.out 1; have hfz26_2 := zak BK135.out 2; obtain ⟨Ao27, co27, eo27⟩ := Kd.zbt HO_3.out; subst eo27; have p136 : 0 ≤ (((zae l0_2 x6_3).f0) : Int) := of_decide_eq_true (by first | (with_reducible assumption) | assumption); have q136 : ((zae l0_2 x6_3).f0) < (x3_3.length : Int) := of_decide_eq_true (by first | (with_reducible assumption) | assumption); obtain ⟨ad136, e136, hx136_0⟩ := Kd.at_bool (Kd.R_reads' HO_3.out).2.2 ((zae l0_2 x6_3).f0) p136 q136; cases e136; have hn136_0 : ad136.block ≠ gb135 := Kd.own_blk (Kd.R_ne HO_3.out BK135.out (by decide)); have hn136_1 : ad136.block ≠ gb135 := Kd.own_blk (Kd.R_ne HO_3.out BK135.out (by decide)); have hn136_2 : ad136.block ≠ gb135 := Kd.own_blk (Kd.R_ne HO_3.out BK135.out (by decide)); replace hx136_0 := (cell_far (p := ⟨gb135, 0, none⟩) (by first | (rw [add_block]; exact hn136_0) | (show (Addr.add _ _).block ≠ _; rw [add_block]; exact hn136_0) | exact hn136_0) (.int .i64 ((zae l0_2 x6_3).f0))).trans hx136_0; replace hx136_0 := (cell_far (p := ⟨gb135, 1, none⟩) (by first | (rw [add_block]; exact hn136_1) | (show (Addr.add _ _).block ≠ _; rw [add_block]; exact hn136_1) | exact hn136_1) (.slice A134_1 ((zae l0_2 x6_3).f1).length c134_1)).trans hx136_0; replace hx136_0 := (cell_far (p := ⟨gb135, 2, none⟩) (by first | (rw [add_block]; exact hn136_2) | (show (Addr.add _ _).block ≠ _; rw [add_block]; exact hn136_2) | exact hn136_2) (.int .i64 ((zae l0_2 x6_3).f2))).trans hx136_0; clear hn136_0; clear hn136_1; clear hn136_2; replace p136 := eq_true p136; replace q136 := eq_true q136))
               go_loopg [8, 9] k3 (fun kq v8 v9 w' => ∃ (x8_4 : Bool) (x9_4 : Int), v8 = .bool x8_4 ∧ v9 = .int .i64 x9_4 ∧ zaa (zao.l3 kq x3_3 x5_3 x6_3 x8_4 x9_4 l0_0 l0_1 l0_2 ((zae l0_2 x6_3).f0) ((zae l0_2 x6_3).f1) ((zae l0_2 x6_3).f2) = some r) ∧ zaa (kq ≤ k3) ∧ zaa (Kd.R Kd.bool 4 w' w.heap.size (fun _ => True) (.slice (some ad136) x3_3.length co27) x3_3) ∧ zaa (w'.heap[gb128]? = some (.cells #[(.slice A0_0 l0_0.length c0_0), (.slice A0_1 l0_1.length c0_1), (.slice (some ad134) l0_2.length c0_2)] 25 (0, 0))) ∧ zaa (w'.heap[gb135]? = some (.cells #[.int .i64 ((zae l0_2 x6_3).f0), (.slice A134_1 ((zae l0_2 x6_3).f1).length c134_1), .int .i64 ((zae l0_2 x6_3).f2)] 42 (0, 0))) ∧ zaa (Below w.heap.size w w'))
               case atStart => exact ⟨(!(rdOf false x3_3 ((zae l0_2 x6_3).f0))), (0), (by first | rfl | (simp; done) | (simp [*]; done)), (by first | rfl | (simp; done) | (simp [*]; done)), H', ⟨Nat.le_refl _⟩, ⟨by (with_reducible repeat (first | apply Kd.zbc | apply Kd.zbd | apply Kd.zbg)); exact Kd.zbx (Kd.R_far (p := ⟨gb135, 2, none⟩) (Kd.R_far (p := ⟨gb135, 1, none⟩) (Kd.R_far (p := ⟨gb135, 0, none⟩) (Kd.R_types HO_3.out BK135.out (by decide)) (fun _ hk => hk.2) (.int .i64 ((zae l0_2 x6_3).f0))) (fun _ hk => hk.2) (.slice A134_1 ((zae l0_2 x6_3).f1).length c134_1)) (fun _ hk => hk.2) (.int .i64 ((zae l0_2 x6_3).f2))) (fun _ hk => trivial)⟩, ⟨by (with_reducible repeat (first | refine zam ?_ _ | refine zaj ?_ | refine zai ?_ _)); refine zbl ?_ NB128_135.out _; (with_reducible repeat (first | refine zam ?_ _ | refine zaj ?_ | refine zai ?_ _)); refine zbl ?_ NB128_135.out _; (with_reducible repeat (first | refine zam ?_ _ | refine zaj ?_ | refine zai ?_ _)); refine zbl ?_ NB128_135.out _; (with_reducible repeat (first | refine zam ?_ _ | refine zaj ?_ | refine zai ?_ _)); exact BK128.out⟩, ⟨by (with_reducible repeat (first | refine zam ?_ _ | refine zaj ?_ | refine zai ?_ _)); refine zbn (cs := #[.int .i64 ((zae l0_2 x6_3).f0), .slice A134_1 ((zae l0_2 x6_3).f1).length c134_1, .int .i64 0]) ?_ 2 _ rfl; (with_reducible repeat (first | refine zam ?_ _ | refine zaj ?_ | refine zai ?_ _)); refine zbn (cs := #[.int .i64 ((zae l0_2 x6_3).f0), .slice none 0 0, .int .i64 0]) ?_ 1 _ rfl; (with_reducible repeat (first | refine zam ?_ _ | refine zaj ?_ | refine zai ?_ _)); refine zbn (cs := #[.int .i64 0, .slice none 0 0, .int .i64 0]) ?_ 0 _ rfl; (with_reducible repeat (first | refine zam ?_ _ | refine zaj ?_ | refine zai ?_ _)); exact BK135.out⟩, ⟨by repeat (first | (with_reducible first | exact HB.out | apply zah | apply zab | apply zaf | refine zal ?_ GE128.out | refine zal ?_ GE135.out) | exact HB.out)⟩⟩
               case round =>
                clear H';(try clear c1);(try clear p1);(try clear q1);(try clear hx1);(try clear hf1);(try clear c2);(try clear p2);(try clear c3);(try clear c3b0);(try clear c3b1);(try clear c4);(try clear c4b0);(try clear c4b1);(try clear p6);(try clear c10);(try clear c10b0);(try clear c11);(try clear c11b0);(try clear c12);(try clear c12b0);(try clear c13);(try clear p13);(try clear q13);(try clear hx13);(try clear hf13);(try clear c18);(try clear c19);(try clear c19b0);(try clear c20);(try clear c20b0);(try clear c21);(try clear c21b0);(try clear c22);(try clear c22b0);(try clear c25);(try clear hcz14_0);(try clear hcz14_1);(try clear hcz14_2);(try clear hcz17_0);(try clear hcz17_1);(try clear hcz17_2);(try clear hcz23_0);(try clear hcz23_1);(try clear hcz23_2);(try clear hcz26_0);(try clear hcz26_1);(try clear hcz26_2);(try clear hcz6_0);(try clear hcz6_1);(try clear hcz6_2);(try clear hfz14_0);(try clear hfz14_1);(try clear hfz14_2);(try clear hfz17_0);(try clear hfz17_1);(try clear hfz17_2);(try clear hfz23_0);(try clear hfz23_1);(try clear hfz23_2);(try clear hfz26_0);(try clear hfz26_1);(try clear hfz26_2);(try clear hfz6_0);(try clear hfz6_1);(try clear hfz6_2);(try clear hx134_0);(try clear hx134_1);(try clear hx134_2);(try clear hx136_0);(try clear hx13_0);(try clear p1);(try clear p13);(try clear p134);(try clear p136);(try clear p2);(try clear p6);(try clear q1);(try clear q13);(try clear q134);(try clear q136)
                obtain ⟨x8_4, x9_4, rfl, rfl, HA, HK4, HO_3, BK128, BK135, HB⟩ := hrel
                cases gk with
                | zero => exact absurd HA.out (by simp [zao.l3])
                | succ k4 =>
                 have H := HA.out;clear HA
                 simp only [zao.l3] at H
                 by_cases c28 : x9_4 < (((zae l0_2 x6_3).f1).length : Int)
                 ·rw [if_pos c28] at H
                  have c28b0 : decide (x9_4 < (((zae l0_2 x6_3).f1).length : Int)) = true := decide_eq_true c28
                  clear c28
                  by_cases c29 : x8_4 = true
                  ·subst c29
                   have H1 : (if 0 ≤ x9_4 then (if 0 ≤ ((zba ((zae l0_2 x6_3).f1) x9_4).f0) then (if ((zba ((zae l0_2 x6_3).f1) x9_4).f0) < (x3_3.length : Int) then (zao.l3 k4 x3_3 x5_3 x6_3 (rdOf false x3_3 ((zba ((zae l0_2 x6_3).f1) x9_4).f0)) (wrap64 (x9_4 + 1)) l0_0 l0_1 l0_2 ((zae l0_2 x6_3).f0) ((zae l0_2 x6_3).f1) ((zae l0_2 x6_3).f2)) else (none)) else (none)) else (none)) = some r := by rw [if_pos rfl] at H; exact H
                   clear H;have H := H1;clear H1
                   by_cases c30 : 0 ≤ x9_4
                   ·rw [if_pos c30] at H
                    have c30b0 : decide (0 ≤ x9_4) = true := decide_eq_true c30
                    clear c30
                    by_cases c31 : 0 ≤ ((zba ((zae l0_2 x6_3).f1) x9_4).f0)
                    ·rw [if_pos c31] at H
                     have c31b0 : decide (0 ≤ ((zba ((zae l0_2 x6_3).f1) x9_4).f0)) = true := decide_eq_true c31
                     clear c31
                     by_cases c32 : ((zba ((zae l0_2 x6_3).f1) x9_4).f0) < (x3_3.length : Int)
                     ·rw [if_pos c32] at H
                      have c32b0 : decide (((zba ((zae l0_2 x6_3).f1) x9_4).f0) < (x3_3.length : Int)) = true := decide_eq_true c32
                      clear c32
                      have H' := zaa.mk H
                      clear H
                      have hnb33 := NB135_128.out
                      have hnc33 := NB128_135.out
                      have hcz34_0 : wr.cell? ⟨gb135, 0, none⟩ = some (.int .i64 ((zae l0_2 x6_3).f0)) := (zac BK135.out 0).trans rfl
                      have hcz34_1 : wr.cell? ⟨gb135, 1, none⟩ = some (.slice A134_1 ((zae l0_2 x6_3).f1).length c134_1) := (zac BK135.out 1).trans rfl
                      have hcz34_2 : wr.cell? ⟨gb135, 2, none⟩ = some (.int .i64 ((zae l0_2 x6_3).f2)) := (zac BK135.out 2).trans rfl
                      have hfz34_0 := zak BK135.out 0
                      have hfz34_1 := zak BK135.out 1
                      have hfz34_2 := zak BK135.out 2
                      have p137 : 0 ≤ (x9_4 : Int) := of_decide_eq_true (by first | (with_reducible assumption) | assumption)
                      have q137 : x9_4 < (((zae l0_2 x6_3).f1).length : Int) := of_decide_eq_true (by first | (with_reducible assumption) | assumption)
                      obtain ⟨ad137, e137, hx137_0, hx137_1, hx137_2⟩ := at_T44 HR134_1.out x9_4 p137 q137
                      cases e137
                      replace hx137_0 := (HB.out.cell (World.block_lt_of_cell? w _ hx137_0)).trans hx137_0
                      replace hx137_1 := (HB.out.cell (World.block_lt_of_cell? w _ hx137_1)).trans hx137_1
                      replace hx137_2 := (HB.out.cell (World.block_lt_of_cell? w _ hx137_2)).trans hx137_2
                      replace p137 := eq_true p137
                      replace q137 := eq_true q137
                      have p138 : 0 ≤ (((zba ((zae l0_2 x6_3).f1) x9_4).f0) : Int) := of_decide_eq_true (by first | (with_reducible assumption) | assumption)
                      have q138 : ((zba ((zae l0_2 x6_3).f1) x9_4).f0) < (x3_3.length : Int) := of_decide_eq_true (by first | (with_reducible assumption) | assumption)
                      obtain ⟨ad138, e138, hx138_0⟩ := Kd.at_bool (Kd.R_reads' HO_3.out).2.2 ((zba ((zae l0_2 x6_3).f1) x9_4).f0) p138 q138
                      obtain rfl : ad136 = ad138 := (by injection e138)
                      replace p138 := eq_true p138
                      replace q138 := eq_true q138
                      go_wp2
                      go_roundg k4
                      case measure => have := HK1.out; have := HK2.out; have := HK3.out; have := HK4.out; omega
                      case rel => exact ⟨(rdOf false x3_3 ((zba ((zae l0_2 x6_3).f1) x9_4).f0)), (wrap64 (x9_4 + 1)), (by first | rfl | (simp; done) | (simp [*]; done)), (by first | rfl | (simp; done) | (simp [*]; done)), H', ⟨by have := HK1.out; have := HK2.out; have := HK3.out; have := HK4.out; omega⟩, ⟨by (with_reducible repeat (first | apply Kd.zbc | apply Kd.zbd | apply Kd.zbg)); exact HO_3.out⟩, ⟨by (with_reducible repeat (first | refine zam ?_ _ | refine zaj ?_ | refine zai ?_ _)); exact BK128.out⟩, ⟨by (with_reducible repeat (first | refine zam ?_ _ | refine zaj ?_ | refine zai ?_ _)); exact BK135.out⟩, ⟨by repeat (first | (with_reducible first | exact HB.out | apply zah | apply zab | apply zaf | refine zal ?_ GE128.out | refine zal ?_ GE135.out) | exact HB.out)⟩⟩
                     ·rw [if_neg c32] at H
                      exact absurd H (by simp)
                    ·rw [if_neg c31] at H
                     exact absurd H (by simp)
                   ·rw [if_neg c30] at H
                    exact absurd H (by simp)
                  ·replace c29 := Bool.eq_false_iff.mpr c29
                   subst c29
                   have H1 : (zao.l3 k4 x3_3 x5_3 x6_3 false (wrap64 (x9_4 + 1)) l0_0 l0_1 l0_2 ((zae l0_2 x6_3).f0) ((zae l0_2 x6_3).f1) ((zae l0_2 x6_3).f2)) = some r := by rw [if_neg (show ¬ (false = true) by decide)] at H; exact H
                   clear H;have H := H1;clear H1
                   have H' := zaa.mk H
                   clear H
                   have hnb35 := NB135_128.out
                   have hnc35 := NB128_135.out
                   have hcz36_0 : wr.cell? ⟨gb135, 0, none⟩ = some (.int .i64 ((zae l0_2 x6_3).f0)) := (zac BK135.out 0).trans rfl
                   have hcz36_1 : wr.cell? ⟨gb135, 1, none⟩ = some (.slice A134_1 ((zae l0_2 x6_3).f1).length c134_1) := (zac BK135.out 1).trans rfl
                   have hcz36_2 : wr.cell? ⟨gb135, 2, none⟩ = some (.int .i64 ((zae l0_2 x6_3).f2)) := (zac BK135.out 2).trans rfl
                   have hfz36_0 := zak BK135.out 0
                   have hfz36_1 := zak BK135.out 1
                   have hfz36_2 := zak BK135.out 2
                   go_wp2
                   go_roundg k4
                   case measure => have := HK1.out; have := HK2.out; have := HK3.out; have := HK4.out; omega
                   case rel => exact ⟨(false), (wrap64 (x9_4 + 1)), (by first | rfl | (simp; done) | (simp [*]; done)), (by first | rfl | (simp; done) | (simp [*]; done)), H', ⟨by have := HK1.out; have := HK2.out; have := HK3.out; have := HK4.out; omega⟩, ⟨by (with_reducible repeat (first | apply Kd.zbc | apply Kd.zbd | apply Kd.zbg)); exact HO_3.out⟩, ⟨by (with_reducible repeat (first | refine zam ?_ _ | refine zaj ?_ | refine zai ?_ _)); exact BK128.out⟩, ⟨by (with_reducible repeat (first | refine zam ?_ _ | refine zaj ?_ | refine zai ?_ _)); exact BK135.out⟩, ⟨by repeat (first | (with_reducible first | exact HB.out | apply zah | apply zab | apply zaf | refine zal ?_ GE128.out | refine zal ?_ GE135.out) | exact HB.out)⟩⟩
                 ·rw [if_neg c28] at H
                  have c28b0 : decide (x9_4 < (((zae l0_2 x6_3).f1).length : Int)) = false := decide_eq_false c28
                  clear c28
                  by_cases c37 : x8_4 = true
                  ·subst c37
                   have H1 : (if 0 ≤ ((zae l0_2 x6_3).f0) then (if ((zae l0_2 x6_3).f0) < (x3_3.length : Int) then (zao.l2 k4 (x3_3.set (((zae l0_2 x6_3).f0) : Int).toNat true) true (wrap64 (x6_3 + 1)) l0_0 l0_1 l0_2) else (none)) else (none)) = some r := by rw [if_pos rfl] at H; exact H
                   clear H;have H := H1;clear H1
                   by_cases c38 : 0 ≤ ((zae l0_2 x6_3).f0)
                   ·rw [if_pos c38] at H
                    have c38b0 : decide (0 ≤ ((zae l0_2 x6_3).f0)) = true := decide_eq_true c38
                    clear c38
                    by_cases c39 : ((zae l0_2 x6_3).f0) < (x3_3.length : Int)
                    ·rw [if_pos c39] at H
                     have c39b0 : decide (((zae l0_2 x6_3).f0) < (x3_3.length : Int)) = true := decide_eq_true c39
                     clear c39
                     obtain ⟨y139, hy139⟩ : ∃ y_ : List Bool, y_ = (x3_3.set (((zae l0_2 x6_3).f0) : Int).toNat true) := ⟨_, rfl⟩
                     replace H : (zao.l2 k4 y139 true (wrap64 (x6_3 + 1)) l0_0 l0_1 l0_2) = some r := by first | (rw [hy139]; with_reducible exact H) | (have H2_ := (Option.bind_some _ _).symm.trans H; rw [hy139]; with_reducible exact H2_) | (have H2_ := (Option.bind_some _ _).symm.trans H; with_reducible exact H2_) | with_reducible exact H | (rw [hy139]; exact H) | exact H
                     have Ny139 := zaa.mk hy139;clear hy139
                     have H' := zaa.mk H
                     clear H
                     have hnb41 := NB135_128.out
                     have hnc41 := NB128_135.out
                     have hcz42_0 : wr.cell? ⟨gb135, 0, none⟩ = some (.int .i64 ((zae l0_2 x6_3).f0)) := (zac BK135.out 0).trans rfl
                     have hcz42_1 : wr.cell? ⟨gb135, 1, none⟩ = some (.slice A134_1 ((zae l0_2 x6_3).f1).length c134_1) := (zac BK135.out 1).trans rfl
                     have hcz42_2 : wr.cell? ⟨gb135, 2, none⟩ = some (.int .i64 ((zae l0_2 x6_3).f2)) := (zac BK135.out 2).trans rfl
                     have hfz42_0 := zak BK135.out 0
                     have hfz42_1 := zak BK135.out 1
                     have hfz42_2 := zak BK135.out 2
                     have p40 : 0 ≤ (((zae l0_2 x6_3).f0) : Int) := of_decide_eq_true (by first | (with_reducible assumption) | assumption)
                     have q40 : (((zae l0_2 x6_3).f0) : Int) < ((x3_3.length : Int) : Int) := of_decide_eq_true (by first | (with_reducible assumption) | assumption)
                     obtain ⟨go40, co40, eo40, gb40, gl40, cl40, HG40⟩ := Kd.R_form HO_3.out (by omega)
                     (first | cases eo40 | (injection eo40 with ea_ en_ ec_; (first | subst ea_ | (injection ea_ with ea_; subst ea_)); subst ec_; clear en_))
                     have GB40 := zaa.mk gb40;have GG40 := zaa.mk HG40;clear gb40 gl40 HG40
                     (first | simp only [add_plain] at hx136_0 | skip)
                     (first | simp only [add_plain] at hx138_0 | skip)
                     obtain ⟨hx40_0, hf40_0⟩ := Kd.R_celln false HO_3.out (((zae l0_2 x6_3).f0) : Int) p40 q40
                     replace p40 := eq_true p40
                     replace q40 := eq_true q40
                     have HP43 := Kd.R_putg HO_3.out (((zae l0_2 x6_3).f0) : Int) true
                     go_wp2_with (first | ((with_reducible refine gate_store (t := 4) (p := 65) rfl ?_); refine store_event (t := 4) (p := 65) (v := ?vo_w44) (w1 := (wr.setCell ⟨go40, (((zae l0_2 x6_3).f0) : Int).toNat, none⟩ (.bool true))) ?hg ?ho ?hn ?hr ?_; (case ho => rfl); (case hg => rfl); (case hn => rfl); (case hr => first | (go_simp; done) | (go_simp; rfl)); intro w44 hw; have hg : wr.grownBy w44 (some go40) := (by rw [hw]; exact HP43.2); have hp_ : Kd.R Kd.bool 4 w44 w.heap.size (fun _ => True) (.slice (some ⟨go40, 0, none⟩) x3_3.length co27) y139 := (by rw [hw, Ny139.out]; exact HP43.1); clear HP43; have n0_ := zaa.mk (hp_); have n1_ := zaa.mk (zcg (g := gb128) (o := .cells #[.slice A0_0 l0_0.length c0_0, .slice A0_1 l0_1.length c0_1, .slice (some ad134) l0_2.length c0_2] 25 (0, 0)) (by (with_reducible repeat (first | refine zam ?_ _ | refine zaj ?_ | refine zai ?_ _)); exact BK128.out) hg (Kd.R_ne HO_3.out BK128.out (by decide))); have n2_ := zaa.mk (zcg (g := gb135) (o := .cells #[.int .i64 ((zae l0_2 x6_3).f0), .slice A134_1 ((zae l0_2 x6_3).f1).length c134_1, .int .i64 ((zae l0_2 x6_3).f2)] 42 (0, 0)) (by (with_reducible repeat (first | refine zam ?_ _ | refine zaj ?_ | refine zai ?_ _)); exact BK135.out) hg (Kd.R_ne HO_3.out BK135.out (by decide))); have n3_ := zaa.mk ((by rw [hw]; exact zal (HB.out) GB40.out : Below w.heap.size w w44)); clear HO_3; clear BK128; clear BK135; clear HB; have HO_3 := n0_; have BK128 := n1_; have BK135 := n2_; have HB := n3_; clear n0_ n1_ n2_ n3_; clear hg hw hp_))
                     go_roundg k4
                     case measure => have := HK1.out; have := HK2.out; have := HK3.out; have := HK4.out; omega
                     case rel => exact ⟨(y139), (true), (wrap64 (x6_3 + 1)), (by first | rfl | (simp; done) | (simp [*]; done)), (by first | rfl | (simp; done) | (simp [*]; done)), H', ⟨by have := HK1.out; have := HK2.out; have := HK3.out; have := HK4.out; omega⟩, ⟨by (with_reducible repeat (first | apply Kd.zbc | apply Kd.zbd | apply Kd.zbg)); exact HO_3.out⟩, ⟨by (with_reducible repeat (first | refine zam ?_ _ | refine zaj ?_ | refine zai ?_ _)); exact BK128.out⟩, ⟨by repeat (first | (with_reducible first | exact HB.out | apply zah | apply zab | apply zaf | refine zal ?_ GE128.out | refine zal ?_ GE135.out) | exact HB.out)⟩⟩
                    ·rw [if_neg c39] at H
                     exact absurd H (by simp)
                   ·rw [if_neg c38] at H
                    exact absurd H (by simp)
                  ·replace c37 := Bool.eq_false_iff.mpr c37
                   subst c37
                   have H1 : (zao.l2 k4 x3_3 x5_3 (wrap64 (x6_3 + 1)) l0_0 l0_1 l0_2) = some r := by rw [if_neg (show ¬ (false = true) by decide)] at H; exact H
                   clear H;have H := H1;clear H1
                   have H' := zaa.mk H
                   clear H
                   have hnb45 := NB135_128.out
                   have hnc45 := NB128_135.out
                   have hcz46_0 : wr.cell? ⟨gb135, 0, none⟩ = some (.int .i64 ((zae l0_2 x6_3).f0)) := (zac BK135.out 0).trans rfl
                   have hcz46_1 : wr.cell? ⟨gb135, 1, none⟩ = some (.slice A134_1 ((zae l0_2 x6_3).f1).length c134_1) := (zac BK135.out 1).trans rfl
                   have hcz46_2 : wr.cell? ⟨gb135, 2, none⟩ = some (.int .i64 ((zae l0_2 x6_3).f2)) := (zac BK135.out 2).trans rfl
                   have hfz46_0 := zak BK135.out 0
                   have hfz46_1 := zak BK135.out 1
                   have hfz46_2 := zak BK135.out 2
                   go_wp2
                   go_roundg k4
                   case measure => have := HK1.out; have := HK2.out; have := HK3.out; have := HK4.out; omega
                   case rel => exact ⟨(x3_3), (x5_3), (wrap64 (x6_3 + 1)), (by first | rfl | (simp; done) | (simp [*]; done)), (by first | rfl | (simp; done) | (simp [*]; done)), H', ⟨by have := HK1.out; have := HK2.out; have := HK3.out; have := HK4.out; omega⟩, ⟨by (with_reducible repeat (first | apply Kd.zbc | apply Kd.zbd | apply Kd.zbg)); exact HO_3.out⟩, ⟨by (with_reducible repeat (first | refine zam ?_ _ | refine zaj ?_ | refine zai ?_ _)); exact BK128.out⟩, ⟨by repeat (first | (with_reducible first | exact HB.out | apply zah | apply zab | apply zaf | refine zal ?_ GE128.out | refine zal ?_ GE135.out) | exact HB.out)⟩⟩
              ·rw [if_neg c22] at H
               exact absurd H (by simp)
             ·rw [if_neg c21] at H
              exact absurd H (by simp)
            ·rw [if_neg c20] at H
             exact absurd H (by simp)
           ·rw [if_neg c19] at H
            have c19b0 : decide (x6_3 < (l0_2.length : Int)) = false := decide_eq_false c19
            clear c19
            have H' := zaa.mk H
            clear H
            have hcz47_0 : wr.cell? ⟨gb128, 0, none⟩ = some (.slice A0_0 l0_0.length c0_0) := (zac BK128.out 0).trans rfl
            have hcz47_1 : wr.cell? ⟨gb128, 1, none⟩ = some (.slice A0_1 l0_1.length c0_1) := (zac BK128.out 1).trans rfl
            have hcz47_2 : wr.cell? ⟨gb128, 2, none⟩ = some (.slice A0_2 l0_2.length c0_2) := (zac BK128.out 2).trans rfl
            have hfz47_0 := zak BK128.out 0
            have hfz47_1 := zak BK128.out 1
            have hfz47_2 := zak BK128.out 2
            go_wp2
            go_roundg k3
            case measure => have := HK1.out; have := HK2.out; have := HK3.out; omega
            case rel => exact ⟨(x3_3), (x5_3), (by first | rfl | (simp; done) | (simp [*]; done)), H', ⟨by have := HK1.out; have := HK2.out; have := HK3.out; omega⟩, ⟨by (with_reducible repeat (first | apply Kd.zbc | apply Kd.zbd | apply Kd.zbg)); exact HO_3.out⟩, ⟨by (with_reducible repeat (first | refine zam ?_ _ | refine zaj ?_ | refine zai ?_ _)); exact BK128.out⟩, ⟨by repeat (first | (with_reducible first | exact HB.out | apply zah | apply zab | apply zaf | refine zal ?_ GE128.out) | exact HB.out)⟩⟩
        ·replace c18 := Bool.eq_false_iff.mpr c18
         subst c18
         have H1 : (some x3_2) = some r := by rw [if_neg (show ¬ (false = true) by decide)] at H; exact H
         clear H;have H := H1;clear H1;obtain rfl := Option.some.inj H;go_wp2;go_ret
         exact ⟨_, by first | rfl | (simp [za2, za3] <;> rfl) | (simp [*, za2, za3] <;> rfl), by (with_reducible repeat (first | apply Kd.zbc | apply Kd.zbd | apply Kd.zbg)); exact HO_3.out, by repeat (first | (with_reducible first | exact HB.out | apply zah | apply zab | apply zaf | refine zal ?_ GE128.out) | exact HB.out)⟩
  ·rw [if_neg c4] at H
   exact absurd H (by simp)
 ·rw [if_neg c3] at H
  exact absurd H (by simp)
def za0.l0 : Nat → Int → List Int → Int → List ByteArray → List ByteArray → List (S42) → Option (List Int)
 | 0, _, _, _, _, _, _ => none
 | k + 1, x1, x5, x6, x141000, x141001, x141002 => if x6 < (x141002.length : Int) then (if 0 ≤ x6 then (if ((zae x141002 x6).f0) = x1 then (if x5.length < 17592186044416 then (za0.l0 k x1 (x5 ++ [x6]) (wrap64 (x6 + 1)) x141000 x141001 x141002) else (none)) else (za0.l0 k x1 x5 (wrap64 (x6 + 1)) x141000 x141001 x141002)) else (none)) else (some x5)
def za0.f (k : Nat) (l0_0 : List ByteArray) (l0_1 : List ByteArray) (l0_2 : List (S42)) (a1 : Int) : Option (List Int) := za0.l0 k a1 ([] : List Int) 0 l0_0 l0_1 l0_2
theorem za0.zbw : ∀ k, (∀ y0 y1 y2 y3 y4 y5, LeO (za0.l0 k y0 y1 y2 y3 y4 y5) (za0.l0 (k + 1) y0 y1 y2 y3 y4 y5))
 | 0 => fun _ _ _ _ _ _ r h => by simp [za0.l0] at h
 | k + 1 => by
  have ih0 := za0.zbw k
  ·intro y0 y1 y2 y3 y4 y5
   unfold za0.l0
   repeat' first
   | (with_reducible exact ih0 _ _ _ _ _ _)
   | (with_reducible exact LeO.refl _)
   | (with_reducible exact LeO.none _)
   | (with_reducible refine LeO.ite ?_ ?_)
   | (with_reducible refine LeO.bind ?_ (fun _ => ?_))
   | exact ih0 _ _ _ _ _ _
   | exact LeO.none _
   | refine LeO.ite ?_ ?_
   | refine LeO.bind ?_ (fun _ => ?_)
theorem za0.mono : ∀ a0 a1 a2 a3 k, LeO (za0.f k a0 a1 a2 a3) (za0.f (k + 1) a0 a1 a2 a3) := by
 intro a0 a1 a2 a3 k
 have ih0 := za0.zbw k
 unfold za0.f
 repeat' first
   | (with_reducible exact ih0 _ _ _ _ _ _)
   | (with_reducible exact LeO.refl _)
   | (with_reducible exact LeO.none _)
   | (with_reducible refine LeO.ite ?_ ?_)
   | (with_reducible refine LeO.bind ?_ (fun _ => ?_))
   | exact ih0 _ _ _ _ _ _
   | exact LeO.none _
   | refine LeO.ite ?_ ?_
   | refine LeO.bind ?_ (fun _ => ?_)
set_option maxHeartbeats 8000000 in
set_option maxRecDepth 100000 in
theorem za0.calls (k : Nat) (A0_0 : Option Addr) (c0_0 : Nat) (l0_0 : List ByteArray) (A0_1 : Option Addr) (c0_1 : Nat) (l0_1 : List ByteArray) (A0_2 : Option Addr) (c0_2 : Nat) (l0_2 : List (S42)) (a1 : Int) (r : List Int) (w : World) (hr0_0 : Kd.C Kd.string w A0_0 l0_0.length l0_0) (hc0_0 : l0_0.length ≤ c0_0) (hr0_1 : Kd.C Kd.string w A0_1 l0_1.length l0_1) (hc0_1 : l0_1.length ≤ c0_1) (hr0_2 : Kd.C k42 w A0_2 l0_2.length l0_2) (hc0_2 : l0_2.length ≤ c0_2) (h : za0.f k l0_0 l0_1 l0_2 a1 = some r) :
  Calls Tryz.prog 12 #[.agg #[.slice A0_0 l0_0.length c0_0, .slice A0_1 l0_1.length c0_1, .slice A0_2 l0_2.length c0_2], .int .i64 a1] w fun e w' => ∃ v0_ : Value, e = .returned (v0_) ∧ Kd.R (Kd.int .i64) 3 w' w.heap.size (fun _ => True) v0_ r ∧ Below w.heap.size w w' := by
 have hu25 := Tryz.underlying25
 have HR0_0 := zaa.mk hr0_0;have HC0_0 := zaa.mk hc0_0;clear hr0_0 hc0_0;have HR0_1 := zaa.mk hr0_1;have HC0_1 := zaa.mk hc0_1;clear hr0_1 hc0_1;have HR0_2 := zaa.mk hr0_2;have HC0_2 := zaa.mk hc0_2;clear hr0_2 hc0_2
 have HB := zaa.mk (Below.refl w.heap.size w)
 have H : (za0.l0 k a1 ([] : List Int) 0 l0_0 l0_1 l0_2) = some r := h
 clear h
 have H' := zaa.mk H
 clear H
 go_enter Tryz.func12, Tryz.ntmps12
 go_wp2_with (first | ((with_reducible refine zbh (N := 2) rfl ?_); refine zbe ?hg (N := 2) ?hd (cs := #[.slice A0_0 l0_0.length c0_0, .slice A0_1 l0_1.length c0_1, .slice A0_2 l0_2.length c0_2]) (t := 25) ?hr ?_; (case hd => rfl); (case hg => rfl); (case hr => first | (go_simp; done) | (go_simp; rfl)); intro gb140 hg w3 hbox hb; have n0_ := zaa.mk (zaw (by repeat (first | (with_reducible first | exact HB.out | apply zah | apply zab | apply zaf) | exact HB.out)) hb); have n1_ := zaa.mk (hbox); have n2_ := zaa.mk ((by rw [hg]; exact (zas (by repeat (first | (with_reducible first | exact HB.out | apply zah | apply zab | apply zaf) | exact HB.out))) : w.heap.size ≤ gb140)); have n3_ := zaa.mk ((by rw [hg]; exact (zas (by repeat (first | (with_reducible first | exact HB.out | apply zah | apply zab | apply zaf) | exact HB.out))) : w.heap.size ≤ gb140)); clear HB; have HB := n0_; have BK140 := n1_; have GW140 := n2_; have GE140 := n3_; clear n0_ n1_ n2_ n3_; clear hb hbox hg))
 go_loopg [5, 6] k (fun kq v5 v6 w' => ∃ (x5_1 : List Int) (x6_1 : Int), v6 = .int .i64 x6_1 ∧ zaa (za0.l0 kq a1 x5_1 x6_1 l0_0 l0_1 l0_2 = some r) ∧ zaa (kq ≤ k) ∧ zaa (Kd.R (Kd.int .i64) 3 w' w.heap.size (fun _ => True) v5 x5_1) ∧ zaa (w'.heap[gb140]? = some (.cells #[(.slice A0_0 l0_0.length c0_0), (.slice A0_1 l0_1.length c0_1), (.slice A0_2 l0_2.length c0_2)] 25 (0, 0))) ∧ zaa (Below w.heap.size w w'))
 case atStart => exact ⟨(([] : List Int)), (0), (by first | rfl | (simp; done) | (simp [*]; done)), H', ⟨Nat.le_refl _⟩, ⟨by first | exact Kd.R_nil _ _ _ _ _ | exact Kd.N_nil _ _ _ _ _ | exact Kd.V_nil _ _ _ _ _ | exact Kd.Q_nil _ _ _ _ _ | exact Kd.S_nil _ _ _ _ _⟩, ⟨by (with_reducible repeat (first | refine zam ?_ _ | refine zaj ?_ | refine zai ?_ _)); exact BK140.out⟩, ⟨by repeat (first | (with_reducible first | exact HB.out | apply zah | apply zab | apply zaf | refine zal ?_ GE140.out) | exact HB.out)⟩⟩
 case round =>
  clear H';(try clear c1);(try clear p2)
  obtain ⟨x5_1, x6_1, rfl, HA, HK1, HO_5, BK140, HB⟩ := hrel
  cases gk with
  | zero => exact absurd HA.out (by simp [za0.l0])
  | succ k1 =>
   have H := HA.out;clear HA
   simp only [za0.l0] at H
   by_cases c4 : x6_1 < (l0_2.length : Int)
   ·rw [if_pos c4] at H
    have c4b0 : decide (x6_1 < (l0_2.length : Int)) = true := decide_eq_true c4
    clear c4
    by_cases c5 : 0 ≤ x6_1
    ·rw [if_pos c5] at H
     have c5b0 : decide (0 ≤ x6_1) = true := decide_eq_true c5
     clear c5
     by_cases c6 : ((zae l0_2 x6_1).f0) = a1
     ·rw [if_pos c6] at H
      have c6b0 : (((zae l0_2 x6_1).f0) == a1) = true := beq_iff_eq.mpr c6
      have c6b1 : (((zae l0_2 x6_1).f0) != a1) = false := bne_eq_false_iff_eq.mpr c6
      clear c6
      by_cases c7 : x5_1.length < 17592186044416
      ·rw [if_pos c7] at H
       have LMc7 := zaa.mk c7;clear c7
       obtain ⟨y142, hy142⟩ : ∃ y_ : List Int, y_ = (x5_1 ++ [x6_1]) := ⟨_, rfl⟩
       replace H : (za0.l0 k1 a1 y142 (wrap64 (x6_1 + 1)) l0_0 l0_1 l0_2) = some r := by first | (rw [hy142]; with_reducible exact H) | (have H2_ := (Option.bind_some _ _).symm.trans H; rw [hy142]; with_reducible exact H2_) | (have H2_ := (Option.bind_some _ _).symm.trans H; with_reducible exact H2_) | with_reducible exact H | (rw [hy142]; exact H) | exact H
       have Ny142 := zaa.mk hy142;clear hy142
       have H' := zaa.mk H
       clear H
       have hcz8_0 : wr.cell? ⟨gb140, 0, none⟩ = some (.slice A0_0 l0_0.length c0_0) := (zac BK140.out 0).trans rfl
       have hcz8_1 : wr.cell? ⟨gb140, 1, none⟩ = some (.slice A0_1 l0_1.length c0_1) := (zac BK140.out 1).trans rfl
       have hcz8_2 : wr.cell? ⟨gb140, 2, none⟩ = some (.slice A0_2 l0_2.length c0_2) := (zac BK140.out 2).trans rfl
       have hfz8_0 := zak BK140.out 0
       have hfz8_1 := zak BK140.out 1
       have hfz8_2 := zak BK140.out 2
       have p141 : 0 ≤ (x6_1 : Int) := of_decide_eq_true (by first | (with_reducible assumption) | assumption)
       have q141 : x6_1 < (l0_2.length : Int) := of_decide_eq_true (by first | (with_reducible assumption) | assumption)
       obtain ⟨ad141, A141_1, c141_1, e141, hx141_0, hx141_1, hx141_2, hl141_1, hi141_1⟩ := at_T42 HR0_2.out x6_1 p141 q141
       cases e141
       replace hx141_0 := (HB.out.cell (World.block_lt_of_cell? w _ hx141_0)).trans hx141_0
       replace hx141_1 := (HB.out.cell (World.block_lt_of_cell? w _ hx141_1)).trans hx141_1
       replace hx141_2 := (HB.out.cell (World.block_lt_of_cell? w _ hx141_2)).trans hx141_2
       have HR141_1 := zaa.mk hi141_1;have HC141_1 := zaa.mk hl141_1;clear hi141_1 hl141_1
       replace p141 := eq_true p141
       replace q141 := eq_true q141
       go_wp2_with (first | ((with_reducible refine gate_builtin (b := .append) (xs := #[.tmp 22, .tmp 24]) rfl ?_); at_builtin; refine Kd.R_append (Kd.int .i64) (w0 := w) w.heap.size rfl (.tmp 22) (.tmp 24) 35 3 (.int .i64 0) 8 rfl Tryz.underlying35 info3 rfl (by decide) (by omega) u5 x5_1 x6_1 [.int .i64 x6_1] (fun _ => True) (fun _ => False) rfl rfl ?aP (fun _ hk => hk.elim) ?aF ?aO ?aB ?aS ?aL ?_; (case aP => exact rfl); (case aB => exact (by repeat (first | (with_reducible first | exact HB.out | apply zah | apply zab | apply zaf | refine zal ?_ GE140.out) | exact HB.out))); (case aF => exact (fun _ _ => trivial)); (case aO => exact (by (with_reducible repeat (first | apply Kd.zbc | apply Kd.zbd | apply Kd.zbg)); exact HO_5.out)); (case aS => exact (zas (by repeat (first | (with_reducible first | exact HB.out | apply zah | apply zab | apply zaf | refine zal ?_ GE140.out) | exact HB.out)))); (case aL => have := LMc7.out; omega); intro v143 w9 ho hb hg hat; rw [← Ny142.out] at ho; have n0_ := zaa.mk (zcg (g := gb140) (o := .cells #[.slice A0_0 l0_0.length c0_0, .slice A0_1 l0_1.length c0_1, .slice (some ad141) l0_2.length c0_2] 25 (0, 0)) (by (with_reducible repeat (first | refine zam ?_ _ | refine zaj ?_ | refine zai ?_ _)); exact BK140.out) hg (Kd.R_ne HO_5.out BK140.out (by decide))); have n1_ := zaa.mk (hb); have n2_ := zaa.mk (ho); clear BK140; clear HB; clear HO_5; have BK140 := n0_; have HB := n1_; have HO144 := n2_; clear n0_ n1_ n2_; clear ho hb hg hat))
       go_roundg k1
       case measure => have := HK1.out; omega
       case rel => exact ⟨(y142), (wrap64 (x6_1 + 1)), (by first | rfl | (simp; done) | (simp [*]; done)), H', ⟨by have := HK1.out; omega⟩, ⟨by (with_reducible repeat (first | apply Kd.zbc | apply Kd.zbd | apply Kd.zbg)); exact HO144.out⟩, ⟨by (with_reducible repeat (first | refine zam ?_ _ | refine zaj ?_ | refine zai ?_ _)); exact BK140.out⟩, ⟨by repeat (first | (with_reducible first | exact HB.out | apply zah | apply zab | apply zaf | refine zal ?_ GE140.out) | exact HB.out)⟩⟩
      ·rw [if_neg c7] at H
       exact absurd H (by simp)
     ·rw [if_neg c6] at H
      have c6b0 : (((zae l0_2 x6_1).f0) == a1) = false := beq_eq_false_iff_ne.mpr c6
      have c6b1 : (((zae l0_2 x6_1).f0) != a1) = true := bne_iff_ne.mpr c6
      have H' := zaa.mk H
      clear H
      have hcz10_0 : wr.cell? ⟨gb140, 0, none⟩ = some (.slice A0_0 l0_0.length c0_0) := (zac BK140.out 0).trans rfl
      have hcz10_1 : wr.cell? ⟨gb140, 1, none⟩ = some (.slice A0_1 l0_1.length c0_1) := (zac BK140.out 1).trans rfl
      have hcz10_2 : wr.cell? ⟨gb140, 2, none⟩ = some (.slice A0_2 l0_2.length c0_2) := (zac BK140.out 2).trans rfl
      have hfz10_0 := zak BK140.out 0
      have hfz10_1 := zak BK140.out 1
      have hfz10_2 := zak BK140.out 2
      have p141 : 0 ≤ (x6_1 : Int) := of_decide_eq_true (by first | (with_reducible assumption) | assumption)
      have q141 : x6_1 < (l0_2.length : Int) := of_decide_eq_true (by first | (with_reducible assumption) | assumption)
      obtain ⟨ad141, A141_1, c141_1, e141, hx141_0, hx141_1, hx141_2, hl141_1, hi141_1⟩ := at_T42 HR0_2.out x6_1 p141 q141
      cases e141
      replace hx141_0 := (HB.out.cell (World.block_lt_of_cell? w _ hx141_0)).trans hx141_0
      replace hx141_1 := (HB.out.cell (World.block_lt_of_cell? w _ hx141_1)).trans hx141_1
      replace hx141_2 := (HB.out.cell (World.block_lt_of_cell? w _ hx141_2)).trans hx141_2
      have HR141_1 := zaa.mk hi141_1;have HC141_1 := zaa.mk hl141_1;clear hi141_1 hl141_1
      replace p141 := eq_true p141
      replace q141 := eq_true q141
      go_wp2
      go_roundg k1
      case measure => have := HK1.out; omega
      case rel => exact ⟨(x5_1), (wrap64 (x6_1 + 1)), (by first | rfl | (simp; done) | (simp [*]; done)), H', ⟨by have := HK1.out; omega⟩, ⟨by (with_reducible repeat (first | apply Kd.zbc | apply Kd.zbd | apply Kd.zbg)); exact HO_5.out⟩, ⟨by (with_reducible repeat (first | refine zam ?_ _ | refine zaj ?_ | refine zai ?_ _)); exact BK140.out⟩, ⟨by repeat (first | (with_reducible first | exact HB.out | apply zah | apply zab | apply zaf | refine zal ?_ GE140.out) | exact HB.out)⟩⟩
    ·rw [if_neg c5] at H
     exact absurd H (by simp)
   ·rw [if_neg c4] at H
    have c4b0 : decide (x6_1 < (l0_2.length : Int)) = false := decide_eq_false c4
    clear c4;obtain rfl := Option.some.inj H
    have hcz11_0 : wr.cell? ⟨gb140, 0, none⟩ = some (.slice A0_0 l0_0.length c0_0) := (zac BK140.out 0).trans rfl
    have hcz11_1 : wr.cell? ⟨gb140, 1, none⟩ = some (.slice A0_1 l0_1.length c0_1) := (zac BK140.out 1).trans rfl
    have hcz11_2 : wr.cell? ⟨gb140, 2, none⟩ = some (.slice A0_2 l0_2.length c0_2) := (zac BK140.out 2).trans rfl
    have hfz11_0 := zak BK140.out 0
    have hfz11_1 := zak BK140.out 1
    have hfz11_2 := zak BK140.out 2
    go_wp2;go_ret
    exact ⟨_, by first | rfl | (simp [za2, za3] <;> rfl) | (simp [*, za2, za3] <;> rfl), by (with_reducible repeat (first | apply Kd.zbc | apply Kd.zbd | apply Kd.zbg)); exact HO_5.out, by repeat (first | (with_reducible first | exact HB.out | apply zah | apply zab | apply zaf | refine zal ?_ GE140.out) | exact HB.out)⟩
end Go.Proofs.YtgdmjpehofdnpaaGreat.PItemPrefixes
end
section
namespace Go.Proofs.YtgdmjpehofdnpaaGreat.PItemPrefixes
open Go.RowKit Go.Proofs.YtgdmjpehofdnpaaGreatW.PrintWords Go.Proofs.YtgdmjpehofdnpaaGreatW.PrintLast Go.Proofs.YtgdmjpehofdnpaaGreatW.PrintMore
attribute [local go_sem] zcb zcc zcj zci zb6 zb4 zcf zce
set_option linter.unusedVariables false
set_option linter.unusedSimpArgs false
mutual
def zad.j0 : Nat → List Int → Bool → List ByteArray → List ByteArray → List (S42) → Option (Bool)
 | 0, _, _, _, _, _ => none
 | k + 1, x1, x24, x146000, x146001, x146002 => if x24 = true then ((zbm.f).bind fun t147 => (some t147)) else ((zao.f k x146000 x146001 x146002).bind fun t148 => (zad.l0 k x1 t148 (t148.length : Int) 0 x146000 x146001 x146002))
def zad.l0 : Nat → List Int → List Bool → Int → Int → List ByteArray → List ByteArray → List (S42) → Option (Bool)
 | 0, _, _, _, _, _, _, _ => none
 | k + 1, x1, x27, x28, x29, x146000, x146001, x146002 => if x29 < x28 then (if 0 ≤ x29 then (if x29 < (x27.length : Int) then (if rdOf false x27 x29 = true then (zad.l0 k x1 x27 x28 (wrap64 (x29 + 1)) x146000 x146001 x146002) else ((zbm.f).bind fun t152 => (some t152))) else (none)) else (none)) else (zad.l1 k x1 (([(x146000.length : Int)] : List Int)) 0 x146000 x146001 x146002)
def zad.l1 : Nat → List Int → List Int → Int → List ByteArray → List ByteArray → List (S42) → Option (Bool)
 | 0, _, _, _, _, _, _ => none
 | k + 1, x1, x7, x8, x146000, x146001, x146002 => if (wrap64 (x8 + 1)) < (x1.length : Int) then (if x8 < 12 then (zad.j3 k x1 x7 x8 (decide ((x7.length : Int) > 0)) x146000 x146001 x146002) else (zad.j3 k x1 x7 x8 false x146000 x146001 x146002)) else (zad.j3 k x1 x7 x8 false x146000 x146001 x146002)
def zad.j3 : Nat → List Int → List Int → Int → Bool → List ByteArray → List ByteArray → List (S42) → Option (Bool)
 | 0, _, _, _, _, _, _, _ => none
 | k + 1, x1, x7, x8, x54, x146000, x146001, x146002 => if x54 = true then (if 0 ≤ x8 then (if x8 < (x1.length : Int) then (if (IntKind.u64.wrap ((x7.length : Int))) = 0 then (none) else (if 0 ≤ (wrap64 (Int.tmod (IntKind.u64.wrap (rd x1 x8)) (IntKind.u64.wrap ((x7.length : Int))))) then (if (wrap64 (Int.tmod (IntKind.u64.wrap (rd x1 x8)) (IntKind.u64.wrap ((x7.length : Int))))) < (x7.length : Int) then (if (rd x7 (wrap64 (Int.tmod (IntKind.u64.wrap (rd x1 x8)) (IntKind.u64.wrap ((x7.length : Int)))))) < (x146000.length : Int) then (zad.l1 k x1 x7 (wrap64 (x8 + 2)) x146000 x146001 x146002) else ((za0.f k x146000 x146001 x146002 (rd x7 (wrap64 (Int.tmod (IntKind.u64.wrap (rd x1 x8)) (IntKind.u64.wrap ((x7.length : Int))))))).bind fun t159 => ((some (([] : List Int) : List Int)).bind fun y162 => (if (wrap64 (Int.tmod (IntKind.u64.wrap (rd x1 x8)) (IntKind.u64.wrap ((x7.length : Int))))) ≤ (x7.length : Int) then ((some (x7.take ((wrap64 (Int.tmod (IntKind.u64.wrap (rd x1 x8)) (IntKind.u64.wrap ((x7.length : Int))))) : Int).toNat : List Int)).bind fun y165 => (if y162.length + y165.length < 17592186044416 then (if 0 ≤ (wrap64 (x8 + 1)) then (if (wrap64 (x8 + 1)) < (x1.length : Int) then (if (IntKind.u64.wrap ((t159.length : Int))) = 0 then (none) else (if 0 ≤ (wrap64 (Int.tmod (IntKind.u64.wrap (rd x1 (wrap64 (x8 + 1)))) (IntKind.u64.wrap ((t159.length : Int))))) then (if (wrap64 (Int.tmod (IntKind.u64.wrap (rd x1 (wrap64 (x8 + 1)))) (IntKind.u64.wrap ((t159.length : Int))))) < (t159.length : Int) then (if 0 ≤ (rd t159 (wrap64 (Int.tmod (IntKind.u64.wrap (rd x1 (wrap64 (x8 + 1)))) (IntKind.u64.wrap ((t159.length : Int)))))) then (if (rd t159 (wrap64 (Int.tmod (IntKind.u64.wrap (rd x1 (wrap64 (x8 + 1)))) (IntKind.u64.wrap ((t159.length : Int)))))) < (x146002.length : Int) then (zad.l2 k x1 x8 (y162 ++ y165) ((zae x146002 (rd t159 (wrap64 (Int.tmod (IntKind.u64.wrap (rd x1 (wrap64 (x8 + 1)))) (IntKind.u64.wrap ((t159.length : Int))))))).f1) (((zae x146002 (rd t159 (wrap64 (Int.tmod (IntKind.u64.wrap (rd x1 (wrap64 (x8 + 1)))) (IntKind.u64.wrap ((t159.length : Int))))))).f1).length : Int) 0 x146000 x146001 x146002) else (none)) else (none)) else (none)) else (none))) else (none)) else (none)) else (none))) else (none))))) else (none)) else (none))) else (none)) else (none)) else (if (x7.length : Int) > 40 then ((zbm.f).bind fun t180 => (some t180)) else ((zbp.f k x146000 x146001 x146002).bind fun t181 => (zad.l3 k t181 x7 (x7.length : Int) 0 x146000 x146001 x146002)))
def zad.l2 : Nat → List Int → Int → List Int → List (S44) → Int → Int → List ByteArray → List ByteArray → List (S42) → Option (Bool)
 | 0, _, _, _, _, _, _, _, _, _ => none
 | k + 1, x1, x8, x11, x104, x105, x106, x146000, x146001, x146002 => if x106 < x105 then (if 0 ≤ x106 then (if x106 < (x104.length : Int) then (if x11.length < 17592186044416 then (zad.l2 k x1 x8 (x11 ++ [(zba x104 x106).f0]) x104 x105 (wrap64 (x106 + 1)) x146000 x146001 x146002) else (none)) else (none)) else (none)) else (zad.l1 k x1 x11 (wrap64 (x8 + 2)) x146000 x146001 x146002)
def zad.l3 : Nat → List (S50) → List Int → Int → Int → List ByteArray → List ByteArray → List (S42) → Option (Bool)
 | 0, _, _, _, _, _, _, _ => none
 | k + 1, x14, x123, x124, x125, x146000, x146001, x146002 => if x125 < x124 then (if 0 ≤ x125 then (if x125 < (x123.length : Int) then ((zbr.f k x146000 x146001 x146002 x14 (rd x123 x125)).bind fun t185 => (if (t185.length : Int) = 0 then (some false) else (zad.l3 k t185 x123 x124 (wrap64 (x125 + 1)) x146000 x146001 x146002))) else (none)) else (none)) else ((zbm.f).bind fun t188 => (some t188))
end
def zad.f (k : Nat) (l0_0 : List ByteArray) (l0_1 : List ByteArray) (l0_2 : List (S42)) (l1 : List Int) : Option (Bool) := (zbf.f k l0_0 l0_1 l0_2).bind fun t146 => (if t146 = true then (zad.j0 k l1 (decide ((l1.length : Int) > 100)) l0_0 l0_1 l0_2) else (zad.j0 k l1 true l0_0 l0_1 l0_2))
theorem zad.zbw : ∀ k, (∀ y0 y1 y2 y3 y4, LeO (zad.j0 k y0 y1 y2 y3 y4) (zad.j0 (k + 1) y0 y1 y2 y3 y4)) ∧ (∀ y0 y1 y2 y3 y4 y5 y6, LeO (zad.l0 k y0 y1 y2 y3 y4 y5 y6) (zad.l0 (k + 1) y0 y1 y2 y3 y4 y5 y6)) ∧ (∀ y0 y1 y2 y3 y4 y5, LeO (zad.l1 k y0 y1 y2 y3 y4 y5) (zad.l1 (k + 1) y0 y1 y2 y3 y4 y5)) ∧ (∀ y0 y1 y2 y3 y4 y5 y6, LeO (zad.j3 k y0 y1 y2 y3 y4 y5 y6) (zad.j3 (k + 1) y0 y1 y2 y3 y4 y5 y6)) ∧ (∀ y0 y1 y2 y3 y4 y5 y6 y7 y8, LeO (zad.l2 k y0 y1 y2 y3 y4 y5 y6 y7 y8) (zad.l2 (k + 1) y0 y1 y2 y3 y4 y5 y6 y7 y8)) ∧ (∀ y0 y1 y2 y3 y4 y5 y6, LeO (zad.l3 k y0 y1 y2 y3 y4 y5 y6) (zad.l3 (k + 1) y0 y1 y2 y3 y4 y5 y6))
 | 0 => ⟨fun _ _ _ _ _ r h => by simp [zad.j0] at h, fun _ _ _ _ _ _ _ r h => by simp [zad.l0] at h, fun _ _ _ _ _ _ r h => by simp [zad.l1] at h, fun _ _ _ _ _ _ _ r h => by simp [zad.j3] at h, fun _ _ _ _ _ _ _ _ _ r h => by simp [zad.l2] at h, fun _ _ _ _ _ _ _ r h => by simp [zad.l3] at h⟩
 | k + 1 => by
  obtain ⟨ih0, ih1, ih2, ih3, ih4, ih5⟩ := zad.zbw k
  refine ⟨?_, ?_, ?_, ?_, ?_, ?_⟩
  ·intro y0 y1 y2 y3 y4
   unfold zad.j0
   repeat' first
   | (with_reducible exact ih0 _ _ _ _ _)
   | (with_reducible exact ih1 _ _ _ _ _ _ _)
   | (with_reducible exact ih2 _ _ _ _ _ _)
   | (with_reducible exact ih3 _ _ _ _ _ _ _)
   | (with_reducible exact ih4 _ _ _ _ _ _ _ _ _)
   | (with_reducible exact ih5 _ _ _ _ _ _ _)
   | (with_reducible exact zbf.mono _ _ _ _)
   | (with_reducible exact za0.mono _ _ _ _ _)
   | (with_reducible exact zao.mono _ _ _ _)
   | (with_reducible exact zbp.mono _ _ _ _)
   | (with_reducible exact zbr.mono _ _ _ _ _ _)
   | (with_reducible exact LeO.refl _)
   | (with_reducible exact LeO.none _)
   | (with_reducible refine LeO.ite ?_ ?_)
   | (with_reducible refine LeO.bind ?_ (fun _ => ?_))
   | exact ih0 _ _ _ _ _
   | exact ih1 _ _ _ _ _ _ _
   | exact ih2 _ _ _ _ _ _
   | exact ih3 _ _ _ _ _ _ _
   | exact ih4 _ _ _ _ _ _ _ _ _
   | exact ih5 _ _ _ _ _ _ _
   | exact zbf.mono _ _ _ _
   | exact za0.mono _ _ _ _ _
   | exact zao.mono _ _ _ _
   | exact zbp.mono _ _ _ _
   | exact zbr.mono _ _ _ _ _ _
   | exact LeO.none _
   | refine LeO.ite ?_ ?_
   | refine LeO.bind ?_ (fun _ => ?_)
  ·intro y0 y1 y2 y3 y4 y5 y6
   unfold zad.l0
   repeat' first
   | (with_reducible exact ih0 _ _ _ _ _)
   | (with_reducible exact ih1 _ _ _ _ _ _ _)
   | (with_reducible exact ih2 _ _ _ _ _ _)
   | (with_reducible exact ih3 _ _ _ _ _ _ _)
   | (with_reducible exact ih4 _ _ _ _ _ _ _ _ _)
   | (with_reducible exact ih5 _ _ _ _ _ _ _)
   | (with_reducible exact zbf.mono _ _ _ _)
   | (with_reducible exact za0.mono _ _ _ _ _)
   | (with_reducible exact zao.mono _ _ _ _)
   | (with_reducible exact zbp.mono _ _ _ _)
   | (with_reducible exact zbr.mono _ _ _ _ _ _)
   | (with_reducible exact LeO.refl _)
   | (with_reducible exact LeO.none _)
   | (with_reducible refine LeO.ite ?_ ?_)
   | (with_reducible refine LeO.bind ?_ (fun _ => ?_))
   | exact ih0 _ _ _ _ _
   | exact ih1 _ _ _ _ _ _ _
   | exact ih2 _ _ _ _ _ _
   | exact ih3 _ _ _ _ _ _ _
   | exact ih4 _ _ _ _ _ _ _ _ _
   | exact ih5 _ _ _ _ _ _ _
   | exact zbf.mono _ _ _ _
   | exact za0.mono _ _ _ _ _
   | exact zao.mono _ _ _ _
   | exact zbp.mono _ _ _ _
   | exact zbr.mono _ _ _ _ _ _
   | exact LeO.none _
   | refine LeO.ite ?_ ?_
   | refine LeO.bind ?_ (fun _ => ?_)
  ·intro y0 y1 y2 y3 y4 y5
   unfold zad.l1
   repeat' first
   | (with_reducible exact ih0 _ _ _ _ _)
   | (with_reducible exact ih1 _ _ _ _ _ _ _)
   | (with_reducible exact ih2 _ _ _ _ _ _)
   | (with_reducible exact ih3 _ _ _ _ _ _ _)
   | (with_reducible exact ih4 _ _ _ _ _ _ _ _ _)
   | (with_reducible exact ih5 _ _ _ _ _ _ _)
   | (with_reducible exact zbf.mono _ _ _ _)
   | (with_reducible exact za0.mono _ _ _ _ _)
   | (with_reducible exact zao.mono _ _ _ _)
   | (with_reducible exact zbp.mono _ _ _ _)
   | (with_reducible exact zbr.mono _ _ _ _ _ _)
   | (with_reducible exact LeO.refl _)
   | (with_reducible exact LeO.none _)
   | (with_reducible refine LeO.ite ?_ ?_)
   | (with_reducible refine LeO.bind ?_ (fun _ => ?_))
   | exact ih0 _ _ _ _ _
   | exact ih1 _ _ _ _ _ _ _
   | exact ih2 _ _ _ _ _ _
   | exact ih3 _ _ _ _ _ _ _
   | exact ih4 _ _ _ _ _ _ _ _ _
   | exact ih5 _ _ _ _ _ _ _
   | exact zbf.mono _ _ _ _
   | exact za0.mono _ _ _ _ _
   | exact zao.mono _ _ _ _
   | exact zbp.mono _ _ _ _
   | exact zbr.mono _ _ _ _ _ _
   | exact LeO.none _
   | refine LeO.ite ?_ ?_
   | refine LeO.bind ?_ (fun _ => ?_)
  ·intro y0 y1 y2 y3 y4 y5 y6
   unfold zad.j3
   repeat' first
   | (with_reducible exact ih0 _ _ _ _ _)
   | (with_reducible exact ih1 _ _ _ _ _ _ _)
   | (with_reducible exact ih2 _ _ _ _ _ _)
   | (with_reducible exact ih3 _ _ _ _ _ _ _)
   | (with_reducible exact ih4 _ _ _ _ _ _ _ _ _)
   | (with_reducible exact ih5 _ _ _ _ _ _ _)
   | (with_reducible exact zbf.mono _ _ _ _)
   | (with_reducible exact za0.mono _ _ _ _ _)
   | (with_reducible exact zao.mono _ _ _ _)
   | (with_reducible exact zbp.mono _ _ _ _)
   | (with_reducible exact zbr.mono _ _ _ _ _ _)
   | (with_reducible exact LeO.refl _)
   | (with_reducible exact LeO.none _)
   | (with_reducible refine LeO.ite ?_ ?_)
   | (with_reducible refine LeO.bind ?_ (fun _ => ?_))
   | exact ih0 _ _ _ _ _
   | exact ih1 _ _ _ _ _ _ _
   | exact ih2 _ _ _ _ _ _
   | exact ih3 _ _ _ _ _ _ _
   | exact ih4 _ _ _ _ _ _ _ _ _
   | exact ih5 _ _ _ _ _ _ _
   | exact zbf.mono _ _ _ _
   | exact za0.mono _ _ _ _ _
   | exact zao.mono _ _ _ _
   | exact zbp.mono _ _ _ _
   | exact zbr.mono _ _ _ _ _ _
   | exact LeO.none _
   | refine LeO.ite ?_ ?_
   | refine LeO.bind ?_ (fun _ => ?_)
  ·intro y0 y1 y2 y3 y4 y5 y6 y7 y8
   unfold zad.l2
   repeat' first
   | (with_reducible exact ih0 _ _ _ _ _)
   | (with_reducible exact ih1 _ _ _ _ _ _ _)
   | (with_reducible exact ih2 _ _ _ _ _ _)
   | (with_reducible exact ih3 _ _ _ _ _ _ _)
   | (with_reducible exact ih4 _ _ _ _ _ _ _ _ _)
   | (with_reducible exact ih5 _ _ _ _ _ _ _)
   | (with_reducible exact zbf.mono _ _ _ _)
   | (with_reducible exact za0.mono _ _ _ _ _)
   | (with_reducible exact zao.mono _ _ _ _)
   | (with_reducible exact zbp.mono _ _ _ _)
   | (with_reducible exact zbr.mono _ _ _ _ _ _)
   | (with_reducible exact LeO.refl _)
   | (with_reducible exact LeO.none _)
   | (with_reducible refine LeO.ite ?_ ?_)
   | (with_reducible refine LeO.bind ?_ (fun _ => ?_))
   | exact ih0 _ _ _ _ _
   | exact ih1 _ _ _ _ _ _ _
   | exact ih2 _ _ _ _ _ _
   | exact ih3 _ _ _ _ _ _ _
   | exact ih4 _ _ _ _ _ _ _ _ _
   | exact ih5 _ _ _ _ _ _ _
   | exact zbf.mono _ _ _ _
   | exact za0.mono _ _ _ _ _
   | exact zao.mono _ _ _ _
   | exact zbp.mono _ _ _ _
   | exact zbr.mono _ _ _ _ _ _
   | exact LeO.none _
   | refine LeO.ite ?_ ?_
   | refine LeO.bind ?_ (fun _ => ?_)
  ·intro y0 y1 y2 y3 y4 y5 y6
   unfold zad.l3
   repeat' first
   | (with_reducible exact ih0 _ _ _ _ _)
   | (with_reducible exact ih1 _ _ _ _ _ _ _)
   | (with_reducible exact ih2 _ _ _ _ _ _)
   | (with_reducible exact ih3 _ _ _ _ _ _ _)
   | (with_reducible exact ih4 _ _ _ _ _ _ _ _ _)
   | (with_reducible exact ih5 _ _ _ _ _ _ _)
   | (with_reducible exact zbf.mono _ _ _ _)
   | (with_reducible exact za0.mono _ _ _ _ _)
   | (with_reducible exact zao.mono _ _ _ _)
   | (with_reducible exact zbp.mono _ _ _ _)
   | (with_reducible exact zbr.mono _ _ _ _ _ _)
   | (with_reducible exact LeO.refl _)
   | (with_reducible exact LeO.none _)
   | (with_reducible refine LeO.ite ?_ ?_)
   | (with_reducible refine LeO.bind ?_ (fun _ => ?_))
   | exact ih0 _ _ _ _ _
   | exact ih1 _ _ _ _ _ _ _
   | exact ih2 _ _ _ _ _ _
   | exact ih3 _ _ _ _ _ _ _
   | exact ih4 _ _ _ _ _ _ _ _ _
   | exact ih5 _ _ _ _ _ _ _
   | exact zbf.mono _ _ _ _
   | exact za0.mono _ _ _ _ _
   | exact zao.mono _ _ _ _
   | exact zbp.mono _ _ _ _
   | exact zbr.mono _ _ _ _ _ _
   | exact LeO.none _
   | refine LeO.ite ?_ ?_
   | refine LeO.bind ?_ (fun _ => ?_)
theorem zad.mono : ∀ a0 a1 a2 a3 k, LeO (zad.f k a0 a1 a2 a3) (zad.f (k + 1) a0 a1 a2 a3) := by
 intro a0 a1 a2 a3 k
 obtain ⟨ih0, ih1, ih2, ih3, ih4, ih5⟩ := zad.zbw k
 unfold zad.f
 repeat' first
   | (with_reducible exact ih0 _ _ _ _ _)
   | (with_reducible exact ih1 _ _ _ _ _ _ _)
   | (with_reducible exact ih2 _ _ _ _ _ _)
   | (with_reducible exact ih3 _ _ _ _ _ _ _)
   | (with_reducible exact ih4 _ _ _ _ _ _ _ _ _)
   | (with_reducible exact ih5 _ _ _ _ _ _ _)
   | (with_reducible exact zbf.mono _ _ _ _)
   | (with_reducible exact za0.mono _ _ _ _ _)
   | (with_reducible exact zao.mono _ _ _ _)
   | (with_reducible exact zbp.mono _ _ _ _)
   | (with_reducible exact zbr.mono _ _ _ _ _ _)
   | (with_reducible exact LeO.refl _)
   | (with_reducible exact LeO.none _)
   | (with_reducible refine LeO.ite ?_ ?_)
   | (with_reducible refine LeO.bind ?_ (fun _ => ?_))
   | exact ih0 _ _ _ _ _
   | exact ih1 _ _ _ _ _ _ _
   | exact ih2 _ _ _ _ _ _
   | exact ih3 _ _ _ _ _ _ _
   | exact ih4 _ _ _ _ _ _ _ _ _
   | exact ih5 _ _ _ _ _ _ _
   | exact zbf.mono _ _ _ _
   | exact za0.mono _ _ _ _ _
   | exact zao.mono _ _ _ _
   | exact zbp.mono _ _ _ _
   | exact zbr.mono _ _ _ _ _ _
   | exact LeO.none _
   | refine LeO.ite ?_ ?_
   | refine LeO.bind ?_ (fun _ => ?_)
def zad.T14 : Bool × List (List Nat × List Nat) := (true, [([], []), ([], []), ([0, 1], [0, 1]), ([2], [2]), ([], []), ([4], [4]), ([5], [5]), ([3, 6], [3, 6])])
def zad.B14 : List Nat := [0, 0, 3, 7, 0, 16, 48, 127]
theorem zad.tab14 : rtab .any (opsOf Tryz.f4 14) = zad.T14 := by kernel_rfl
theorem zad.bits14 : waitsOk zad.T14.2 zad.B14 = true := by kernel_rfl
def zad.T17 : Bool × List (List Nat × List Nat) := (true, [([], []), ([0], [0]), ([], []), ([], []), ([], []), ([4], [4]), ([3, 5], [3, 5]), ([6], [6]), ([7], [7]), ([], []), ([9], [9]), ([10], [10]), ([8, 11], [8, 11]), ([12], [12]), ([2, 13], [2, 13]), ([14], [14]), ([1, 15], [1, 15]), ([16], [16]), ([17], [17]), ([18], [18]), ([], [])])
def zad.B17 : List Nat := [0, 1, 0, 0, 0, 16, 56, 120, 248, 0, 512, 1536, 4088, 8184, 16380, 32764, 65535, 131071, 262143, 524287, 0]
theorem zad.tab17 : rtab .any (opsOf Tryz.f4 17) = zad.T17 := by kernel_rfl
theorem zad.bits17 : waitsOk zad.T17.2 zad.B17 = true := by kernel_rfl
set_option maxHeartbeats 8000000 in
set_option maxRecDepth 100000 in
theorem zad.calls (k : Nat) (A0_0 : Option Addr) (c0_0 : Nat) (l0_0 : List ByteArray) (A0_1 : Option Addr) (c0_1 : Nat) (l0_1 : List ByteArray) (A0_2 : Option Addr) (c0_2 : Nat) (l0_2 : List (S42)) (A1 : Option Addr) (c1 : Nat) (l1 : List Int) (r : Bool) (w : World) (hr0_0 : Kd.C Kd.string w A0_0 l0_0.length l0_0) (hc0_0 : l0_0.length ≤ c0_0) (hr0_1 : Kd.C Kd.string w A0_1 l0_1.length l0_1) (hc0_1 : l0_1.length ≤ c0_1) (hr0_2 : Kd.C k42 w A0_2 l0_2.length l0_2) (hc0_2 : l0_2.length ≤ c0_2) (hr1 : Kd.C (Kd.int .i64) w A1 l1.length l1) (hc1 : l1.length ≤ c1) (h : zad.f k l0_0 l0_1 l0_2 l1 = some r) :
  Calls Tryz.prog 4 #[.agg #[.slice A0_0 l0_0.length c0_0, .slice A0_1 l0_1.length c0_1, .slice A0_2 l0_2.length c0_2], .slice A1 l1.length c1] w fun e w' => e = .returned (.bool r) ∧ Below w.heap.size w w' := by
 have hu25 := Tryz.underlying25
 have hu44 := Tryz.underlying44
 have HR0_0 := zaa.mk hr0_0;have HC0_0 := zaa.mk hc0_0;clear hr0_0 hc0_0;have HR0_1 := zaa.mk hr0_1;have HC0_1 := zaa.mk hc0_1;clear hr0_1 hc0_1;have HR0_2 := zaa.mk hr0_2;have HC0_2 := zaa.mk hc0_2;clear hr0_2 hc0_2;have HR1 := zaa.mk hr1;have HC1 := zaa.mk hc1;clear hr1 hc1
 have HB := zaa.mk (Below.refl w.heap.size w)
 have H : ((zbf.f k l0_0 l0_1 l0_2).bind fun t146 => (if t146 = true then (zad.j0 k l1 (decide ((l1.length : Int) > 100)) l0_0 l0_1 l0_2) else (zad.j0 k l1 true l0_0 l0_1 l0_2))) = some r := h
 clear h;have HC3 := zaa.mk H;clear H
 go_enter Tryz.func4, Tryz.ntmps4
 go_upto_region 1 with (first | ((with_reducible refine zbh (N := 2) rfl ?_); (try (refine zbk (by rfl) ?_; dsimp only)); refine zbe ?hg (N := 2) ?hd (cs := #[.slice A0_0 l0_0.length c0_0, .slice A0_1 l0_1.length c0_1, .slice A0_2 l0_2.length c0_2]) (t := 25) ?hr ?_; (case hd => rfl); (case hg => rfl); (case hr => first | (go_simp; done) | (go_simp; rfl)); intro gb145 hg w4 hbox hb; have n0_ := zaa.mk (zaw (by repeat (first | (with_reducible first | exact HB.out | apply zah | apply zab | apply zaf) | exact HB.out)) hb); have n1_ := zaa.mk (hbox); have n2_ := zaa.mk ((by rw [hg]; exact (zas (by repeat (first | (with_reducible first | exact HB.out | apply zah | apply zab | apply zaf) | exact HB.out))) : w.heap.size ≤ gb145)); have n3_ := zaa.mk ((by rw [hg]; exact (zas (by repeat (first | (with_reducible first | exact HB.out | apply zah | apply zab | apply zaf) | exact HB.out))) : w.heap.size ≤ gb145)); clear HB; have HB := n0_; have BK145 := n1_; have GW145 := n2_; have GE145 := n3_; clear n0_ n1_ n2_ n3_; clear hb hbox hg))
 (try simp only [Act.put, Y1, Y2, Y3])
 go_cut [24] (fun v24 wc => ∃ (kq : Nat) (x24_2 : Bool), v24 = .bool x24_2 ∧ zaa (zad.j0 kq l1 x24_2 l0_0 l0_1 l0_2 = some r) ∧ zaa (kq ≤ k) ∧ zaa (wc.heap[gb145]? = some (.cells #[(.slice A0_0 l0_0.length c0_0), (.slice A0_1 l0_1.length c0_1), (.slice A0_2 l0_2.length c0_2)] 25 (0, 0))) ∧ zaa (Below w.heap.size w wc))
 case first =>
  have H := HC3.out;clear HC3;replace H := Option.bind_eq_some_iff.mp H
  obtain ⟨t146, A50, H⟩ := H
  replace H : (if t146 = true then (zad.j0 k l1 (decide ((l1.length : Int) > 100)) l0_0 l0_1 l0_2) else (zad.j0 k l1 true l0_0 l0_1 l0_2)) = some r := H
  have A5 := zaa.mk A50;clear A50
  by_cases c6 : t146 = true
  ·subst c6
   have H1 : (zad.j0 k l1 (decide ((l1.length : Int) > 100)) l0_0 l0_1 l0_2) = some r := by rw [if_pos rfl] at H; exact H
   clear H;have H := H1;clear H1
   have H' := zaa.mk H
   clear H
   have hcz7_0 : w4.cell? ⟨gb145, 0, none⟩ = some (.slice A0_0 l0_0.length c0_0) := (zac BK145.out 0).trans rfl
   have hcz7_1 : w4.cell? ⟨gb145, 1, none⟩ = some (.slice A0_1 l0_1.length c0_1) := (zac BK145.out 1).trans rfl
   have hcz7_2 : w4.cell? ⟨gb145, 2, none⟩ = some (.slice A0_2 l0_2.length c0_2) := (zac BK145.out 2).trans rfl
   have hfz7_0 := zak BK145.out 0
   have hfz7_1 := zak BK145.out 1
   have hfz7_2 := zak BK145.out 2
   go_wp2_with (first | ((with_reducible refine zbo (f := 6) rfl ?_); refine zb9 (some 18) rfl rfl Tryz.func6 (by kernel_rfl) rfl #[.agg #[.slice A0_0 l0_0.length c0_0, .slice A0_1 l0_1.length c0_1, .slice A0_2 l0_2.length c0_2]] rfl (by (try simp only [List.map_toArray, List.map_cons, List.map_nil]); first | done | rfl | (simp only [List.length_drop, List.length_take]; rfl)) ?_; (with_reducible refine (zbf.calls k _ _ l0_0 _ _ l0_1 _ _ l0_2 true _ ?side1 ?side2 ?side3 ?side4 ?side5 ?side6 A5.out).mono ?_); (case side1 => repeat (first | exact (Kd.zax HR0_0.out HB.out) | (with_reducible refine Kd.za6 ?_ _) | (with_reducible refine Kd.za7 ?_ _) | (with_reducible refine Kd.za9 ?_))); (case side2 => exact HC0_0.out); (case side3 => repeat (first | exact (Kd.zax HR0_1.out HB.out) | (with_reducible refine Kd.za6 ?_ _) | (with_reducible refine Kd.za7 ?_ _) | (with_reducible refine Kd.za9 ?_))); (case side4 => exact HC0_1.out); (case side5 => repeat (first | exact (Kd.zax HR0_2.out HB.out) | (with_reducible refine Kd.za6 ?_ _) | (with_reducible refine Kd.za7 ?_ _) | (with_reducible refine Kd.za9 ?_))); (case side6 => exact HC0_2.out); rintro e w8 ⟨rfl, hb⟩; refine ⟨_, rfl, ?_⟩; have n0_ := zaa.mk (zar (g := gb145) (o := .cells #[.slice A0_0 l0_0.length c0_0, .slice A0_1 l0_1.length c0_1, .slice A0_2 l0_2.length c0_2] 25 (0, 0)) (by (with_reducible repeat (first | refine zam ?_ _ | refine zaj ?_ | refine zai ?_ _)); exact BK145.out) hb); have n1_ := zaa.mk (zaw (by repeat (first | (with_reducible first | exact HB.out | apply zah | apply zab | apply zaf | refine zal ?_ GE145.out) | exact HB.out)) hb); clear BK145; clear HB; have BK145 := n0_; have HB := n1_; clear n0_ n1_; (try clear hb); (try clear hb2); (try clear hk); (try clear hi)))
   go_meet
   case rel => exact ⟨_, (decide ((l1.length : Int) > 100)), (by first | rfl | (simp; done) | (simp [*]; done)), H', ⟨by first | omega | exact Nat.le_refl _⟩, ⟨by (with_reducible repeat (first | refine zam ?_ _ | refine zaj ?_ | refine zai ?_ _)); exact BK145.out⟩, ⟨by repeat (first | (with_reducible first | exact HB.out | apply zah | apply zab | apply zaf | refine zal ?_ GE145.out) | exact HB.out)⟩⟩
  ·replace c6 := Bool.eq_false_iff.mpr c6
   subst c6
   have H1 : (zad.j0 k l1 true l0_0 l0_1 l0_2) = some r := by rw [if_neg (show ¬ (false = true) by decide)] at H; exact H
   clear H;have H := H1;clear H1
   have H' := zaa.mk H
   clear H
   have hcz9_0 : w4.cell? ⟨gb145, 0, none⟩ = some (.slice A0_0 l0_0.length c0_0) := (zac BK145.out 0).trans rfl
   have hcz9_1 : w4.cell? ⟨gb145, 1, none⟩ = some (.slice A0_1 l0_1.length c0_1) := (zac BK145.out 1).trans rfl
   have hcz9_2 : w4.cell? ⟨gb145, 2, none⟩ = some (.slice A0_2 l0_2.length c0_2) := (zac BK145.out 2).trans rfl
   have hfz9_0 := zak BK145.out 0
   have hfz9_1 := zak BK145.out 1
   have hfz9_2 := zak BK145.out 2
   go_wp2_with (first | ((with_reducible refine zbo (f := 6) rfl ?_); refine zb9 (some 18) rfl rfl Tryz.func6 (by kernel_rfl) rfl #[.agg #[.slice A0_0 l0_0.length c0_0, .slice A0_1 l0_1.length c0_1, .slice A0_2 l0_2.length c0_2]] rfl (by (try simp only [List.map_toArray, List.map_cons, List.map_nil]); first | done | rfl | (simp only [List.length_drop, List.length_take]; rfl)) ?_; (with_reducible refine (zbf.calls k _ _ l0_0 _ _ l0_1 _ _ l0_2 false _ ?side1 ?side2 ?side3 ?side4 ?side5 ?side6 A5.out).mono ?_); (case side1 => repeat (first | exact (Kd.zax HR0_0.out HB.out) | (with_reducible refine Kd.za6 ?_ _) | (with_reducible refine Kd.za7 ?_ _) | (with_reducible refine Kd.za9 ?_))); (case side2 => exact HC0_0.out); (case side3 => repeat (first | exact (Kd.zax HR0_1.out HB.out) | (with_reducible refine Kd.za6 ?_ _) | (with_reducible refine Kd.za7 ?_ _) | (with_reducible refine Kd.za9 ?_))); (case side4 => exact HC0_1.out); (case side5 => repeat (first | exact (Kd.zax HR0_2.out HB.out) | (with_reducible refine Kd.za6 ?_ _) | (with_reducible refine Kd.za7 ?_ _) | (with_reducible refine Kd.za9 ?_))); (case side6 => exact HC0_2.out); rintro e w10 ⟨rfl, hb⟩; refine ⟨_, rfl, ?_⟩; have n0_ := zaa.mk (zar (g := gb145) (o := .cells #[.slice A0_0 l0_0.length c0_0, .slice A0_1 l0_1.length c0_1, .slice A0_2 l0_2.length c0_2] 25 (0, 0)) (by (with_reducible repeat (first | refine zam ?_ _ | refine zaj ?_ | refine zai ?_ _)); exact BK145.out) hb); have n1_ := zaa.mk (zaw (by repeat (first | (with_reducible first | exact HB.out | apply zah | apply zab | apply zaf | refine zal ?_ GE145.out) | exact HB.out)) hb); clear BK145; clear HB; have BK145 := n0_; have HB := n1_; clear n0_ n1_; (try clear hb); (try clear hb2); (try clear hk); (try clear hi)))
   go_meet
   case rel => exact ⟨_, (true), (by first | rfl | (simp; done) | (simp [*]; done)), H', ⟨by first | omega | exact Nat.le_refl _⟩, ⟨by (with_reducible repeat (first | refine zam ?_ _ | refine zaj ?_ | refine zai ?_ _)); exact BK145.out⟩, ⟨by repeat (first | (with_reducible first | exact HB.out | apply zah | apply zab | apply zaf | refine zal ?_ GE145.out) | exact HB.out)⟩⟩
 case rest =>
  clear HC3;(try clear c1);(try clear p2);(try clear c4);(try clear c6);(try clear hcz7_0);(try clear hcz7_1);(try clear hcz7_2);(try clear hcz9_0);(try clear hcz9_1);(try clear hcz9_2);(try clear hfz7_0);(try clear hfz7_1);(try clear hfz7_2);(try clear hfz9_0);(try clear hfz9_1);(try clear hfz9_2)
  obtain ⟨kq, x24_2, rfl, HA, HJ2, BK145, HB⟩ := hcut
  cases kq with
  | zero => exact absurd HA.out (by simp [zad.j0])
  | succ kj2 =>
   have H := HA.out;clear HA
   simp only [zad.j0] at H
   by_cases c11 : x24_2 = true
   ·subst c11
    have H1 : ((zbm.f).bind fun t147 => (some t147)) = some r := by rw [if_pos rfl] at H; exact H
    clear H;have H := H1;clear H1;replace H := Option.bind_eq_some_iff.mp H
    obtain ⟨t147, A120, H⟩ := H
    replace H : (some t147) = some r := H
    have A12 := zaa.mk A120;clear A120;obtain rfl := Option.some.inj H
    go_wp2_with (first | ((with_reducible refine zbo (f := 7) rfl ?_); refine zb9 (some 25) rfl rfl Tryz.func7 (by kernel_rfl) rfl #[] rfl (by (try simp only [List.map_toArray, List.map_cons, List.map_nil]); first | done | rfl | (simp only [List.length_drop, List.length_take]; rfl)) ?_; (with_reducible refine (zbm.calls  t147 _ A12.out).mono ?_); rintro e w13 ⟨rfl, hb⟩; refine ⟨_, rfl, ?_⟩; have n0_ := zaa.mk (zar (g := gb145) (o := .cells #[.slice A0_0 l0_0.length c0_0, .slice A0_1 l0_1.length c0_1, .slice A0_2 l0_2.length c0_2] 25 (0, 0)) (by (with_reducible repeat (first | refine zam ?_ _ | refine zaj ?_ | refine zai ?_ _)); exact BK145.out) hb); have n1_ := zaa.mk (zaw (by repeat (first | (with_reducible first | exact HB.out | apply zah | apply zab | apply zaf | refine zal ?_ GE145.out) | exact HB.out)) hb); clear BK145; clear HB; have BK145 := n0_; have HB := n1_; clear n0_ n1_; (try clear hb); (try clear hb2); (try clear hk); (try clear hi)))
    go_ret
    exact ⟨by first | rfl | (simp [za2, za3] <;> rfl) | (simp [*, za2, za3] <;> rfl), by repeat (first | (with_reducible first | exact HB.out | apply zah | apply zab | apply zaf | refine zal ?_ GE145.out) | exact HB.out)⟩
   ·replace c11 := Bool.eq_false_iff.mpr c11
    subst c11
    have H1 : ((zao.f kj2 l0_0 l0_1 l0_2).bind fun t148 => (zad.l0 kj2 l1 t148 (t148.length : Int) 0 l0_0 l0_1 l0_2)) = some r := by rw [if_neg (show ¬ (false = true) by decide)] at H; exact H
    clear H;have H := H1;clear H1;replace H := Option.bind_eq_some_iff.mp H
    obtain ⟨t148, A140, H⟩ := H
    replace H : (zad.l0 kj2 l1 t148 (t148.length : Int) 0 l0_0 l0_1 l0_2) = some r := H
    have A14 := zaa.mk A140;clear A140
    have H' := zaa.mk H
    clear H
    have hcz15_0 : wc.cell? ⟨gb145, 0, none⟩ = some (.slice A0_0 l0_0.length c0_0) := (zac BK145.out 0).trans rfl
    have hcz15_1 : wc.cell? ⟨gb145, 1, none⟩ = some (.slice A0_1 l0_1.length c0_1) := (zac BK145.out 1).trans rfl
    have hcz15_2 : wc.cell? ⟨gb145, 2, none⟩ = some (.slice A0_2 l0_2.length c0_2) := (zac BK145.out 2).trans rfl
    have hfz15_0 := zak BK145.out 0
    have hfz15_1 := zak BK145.out 1
    have hfz15_2 := zak BK145.out 2
    go_wp2_with (first | ((with_reducible refine zbo (f := 11) rfl ?_); refine zb9 (some 27) rfl rfl Tryz.func11 (by kernel_rfl) rfl #[.agg #[.slice A0_0 l0_0.length c0_0, .slice A0_1 l0_1.length c0_1, .slice A0_2 l0_2.length c0_2]] rfl (by (try simp only [List.map_toArray, List.map_cons, List.map_nil]); first | done | rfl | (simp only [List.length_drop, List.length_take]; rfl)) ?_; (with_reducible refine (zao.calls kj2 _ _ l0_0 _ _ l0_1 _ _ l0_2 t148 _ ?side1 ?side2 ?side3 ?side4 ?side5 ?side6 A14.out).mono ?_); (case side1 => repeat (first | exact (Kd.zax HR0_0.out HB.out) | (with_reducible refine Kd.za6 ?_ _) | (with_reducible refine Kd.za7 ?_ _) | (with_reducible refine Kd.za9 ?_))); (case side2 => exact HC0_0.out); (case side3 => repeat (first | exact (Kd.zax HR0_1.out HB.out) | (with_reducible refine Kd.za6 ?_ _) | (with_reducible refine Kd.za7 ?_ _) | (with_reducible refine Kd.za9 ?_))); (case side4 => exact HC0_1.out); (case side5 => repeat (first | exact (Kd.zax HR0_2.out HB.out) | (with_reducible refine Kd.za6 ?_ _) | (with_reducible refine Kd.za7 ?_ _) | (with_reducible refine Kd.za9 ?_))); (case side6 => exact HC0_2.out); rintro e w16 ⟨v149, rfl, ho0, hb⟩; refine ⟨_, rfl, ?_⟩; have n0_ := zaa.mk (Kd.zb1 ho0 (zas (by repeat (first | (with_reducible first | exact HB.out | apply zah | apply zab | apply zaf | refine zal ?_ GE145.out) | exact HB.out)))); have n1_ := zaa.mk (zar (g := gb145) (o := .cells #[.slice A0_0 l0_0.length c0_0, .slice A0_1 l0_1.length c0_1, .slice A0_2 l0_2.length c0_2] 25 (0, 0)) (by (with_reducible repeat (first | refine zam ?_ _ | refine zaj ?_ | refine zai ?_ _)); exact BK145.out) hb); have n2_ := zaa.mk (zaw (by repeat (first | (with_reducible first | exact HB.out | apply zah | apply zab | apply zaf | refine zal ?_ GE145.out) | exact HB.out)) hb); clear BK145; clear HB; have HO150 := n0_; have BK145 := n1_; have HB := n2_; clear n0_ n1_ n2_; (try clear hb); (try clear hb2); (try clear hk); (try clear hi); (try clear ho0); obtain ⟨Ao17, co17, eo17⟩ := Kd.zbt HO150.out; subst eo17))
    go_loopg [29] kj2 (fun kq v29 w' => ∃ (x29_2 : Int), v29 = .int .i64 x29_2 ∧ zaa (zad.l0 kq l1 t148 (t148.length : Int) x29_2 l0_0 l0_1 l0_2 = some r) ∧ zaa (kq ≤ kj2) ∧ zaa (Kd.R Kd.bool 4 w' w.heap.size (fun _ => True) (.slice Ao17 t148.length co17) t148) ∧ zaa (w'.heap[gb145]? = some (.cells #[(.slice A0_0 l0_0.length c0_0), (.slice A0_1 l0_1.length c0_1), (.slice A0_2 l0_2.length c0_2)] 25 (0, 0))) ∧ zaa (Below w.heap.size w w'))
    case atStart => exact ⟨(0), (by first | rfl | (simp; done) | (simp [*]; done)), H', ⟨Nat.le_refl _⟩, ⟨by (with_reducible repeat (first | apply Kd.zbc | apply Kd.zbd | apply Kd.zbg)); exact HO150.out⟩, ⟨by (with_reducible repeat (first | refine zam ?_ _ | refine zaj ?_ | refine zai ?_ _)); exact BK145.out⟩, ⟨by repeat (first | (with_reducible first | exact HB.out | apply zah | apply zab | apply zaf | refine zal ?_ GE145.out) | exact HB.out)⟩⟩
    case round =>
     clear H';(try clear c1);(try clear p2);(try clear c4);(try clear c6);(try clear c7);(try clear c11);(try clear hcz15_0);(try clear hcz15_1);(try clear hcz15_2);(try clear hcz7_0);(try clear hcz7_1);(try clear hcz7_2);(try clear hcz9_0);(try clear hcz9_1);(try clear hcz9_2);(try clear hfz15_0);(try clear hfz15_1);(try clear hfz15_2);(try clear hfz7_0);(try clear hfz7_1);(try clear hfz7_2);(try clear hfz9_0);(try clear hfz9_1);(try clear hfz9_2);(try clear p2)
     obtain ⟨x29_2, rfl, HA, HK2, HO_27, BK145, HB⟩ := hrel
     cases gk with
     | zero => exact absurd HA.out (by simp [zad.l0])
     | succ k2 =>
      have H := HA.out;clear HA
      simp only [zad.l0] at H
      by_cases c18 : x29_2 < (t148.length : Int)
      ·rw [if_pos c18] at H
       have c18b0 : decide (x29_2 < (t148.length : Int)) = true := decide_eq_true c18
       clear c18
       by_cases c19 : 0 ≤ x29_2
       ·rw [if_pos c19] at H
        have c19b0 : decide (0 ≤ x29_2) = true := decide_eq_true c19
        clear c19
        by_cases c20 : x29_2 < (t148.length : Int)
        ·rw [if_pos c20] at H
         have c20b0 : decide (x29_2 < (t148.length : Int)) = true := decide_eq_true c20
         clear c20
         obtain ⟨bq21, hbq21⟩ : ∃ b_ : Bool, b_ = (rdOf false t148 x29_2) := ⟨_, rfl⟩
         replace H : (if bq21 = true then (zad.l0 k2 l1 t148 (t148.length : Int) (wrap64 (x29_2 + 1)) l0_0 l0_1 l0_2) else ((zbm.f).bind fun t152 => (some t152))) = some r := by rw [← hbq21] at H; exact H
         have Nbq21 := zaa.mk hbq21;clear hbq21
         by_cases c22 : bq21 = true
         ·subst c22
          have H1 : (zad.l0 k2 l1 t148 (t148.length : Int) (wrap64 (x29_2 + 1)) l0_0 l0_1 l0_2) = some r := by rw [if_pos rfl] at H; exact H
          clear H;have H := H1;clear H1
          have H' := zaa.mk H
          clear H
          have p151 : 0 ≤ (x29_2 : Int) := of_decide_eq_true (by first | (with_reducible assumption) | assumption)
          have q151 : x29_2 < (t148.length : Int) := of_decide_eq_true (by first | (with_reducible assumption) | assumption)
          obtain ⟨ad151, e151, hx151_0⟩ := Kd.at_bool (Kd.R_reads' HO_27.out).2.2 x29_2 p151 q151
          (try rw [← Nbq21.out] at hx151_0)
          cases e151
          replace p151 := eq_true p151
          replace q151 := eq_true q151
          go_wp2
          go_roundg k2
          case measure => have := HJ2.out; have := HK2.out; omega
          case rel => exact ⟨(wrap64 (x29_2 + 1)), (by first | rfl | (simp; done) | (simp [*]; done)), H', ⟨by have := HJ2.out; have := HK2.out; omega⟩, ⟨by (with_reducible repeat (first | apply Kd.zbc | apply Kd.zbd | apply Kd.zbg)); exact HO_27.out⟩, ⟨by (with_reducible repeat (first | refine zam ?_ _ | refine zaj ?_ | refine zai ?_ _)); exact BK145.out⟩, ⟨by repeat (first | (with_reducible first | exact HB.out | apply zah | apply zab | apply zaf | refine zal ?_ GE145.out) | exact HB.out)⟩⟩
         ·replace c22 := Bool.eq_false_iff.mpr c22
          subst c22
          have H1 : ((zbm.f).bind fun t152 => (some t152)) = some r := by rw [if_neg (show ¬ (false = true) by decide)] at H; exact H
          clear H;have H := H1;clear H1;replace H := Option.bind_eq_some_iff.mp H
          obtain ⟨t152, A230, H⟩ := H
          replace H : (some t152) = some r := H
          have A23 := zaa.mk A230;clear A230;obtain rfl := Option.some.inj H
          have p151 : 0 ≤ (x29_2 : Int) := of_decide_eq_true (by first | (with_reducible assumption) | assumption)
          have q151 : x29_2 < (t148.length : Int) := of_decide_eq_true (by first | (with_reducible assumption) | assumption)
          obtain ⟨ad151, e151, hx151_0⟩ := Kd.at_bool (Kd.R_reads' HO_27.out).2.2 x29_2 p151 q151
          (try rw [← Nbq21.out] at hx151_0)
          cases e151
          replace p151 := eq_true p151
          replace q151 := eq_true q151
          go_wp2_with (first | ((with_reducible refine zbo (f := 7) rfl ?_); refine zb9 (some 35) rfl rfl Tryz.func7 (by kernel_rfl) rfl #[] rfl (by (try simp only [List.map_toArray, List.map_cons, List.map_nil]); first | done | rfl | (simp only [List.length_drop, List.length_take]; rfl)) ?_; (with_reducible refine (zbm.calls  t152 _ A23.out).mono ?_); rintro e w24 ⟨rfl, hb⟩; refine ⟨_, rfl, ?_⟩; have n0_ := zaa.mk (Kd.zbq (by (with_reducible repeat (first | apply Kd.zbc | apply Kd.zbd | apply Kd.zbg)); exact HO_27.out) hb); have n1_ := zaa.mk (zar (g := gb145) (o := .cells #[.slice A0_0 l0_0.length c0_0, .slice A0_1 l0_1.length c0_1, .slice A0_2 l0_2.length c0_2] 25 (0, 0)) (by (with_reducible repeat (first | refine zam ?_ _ | refine zaj ?_ | refine zai ?_ _)); exact BK145.out) hb); have n2_ := zaa.mk (zaw (by repeat (first | (with_reducible first | exact HB.out | apply zah | apply zab | apply zaf | refine zal ?_ GE145.out) | exact HB.out)) hb); clear HO_27; clear BK145; clear HB; have HO_27 := n0_; have BK145 := n1_; have HB := n2_; clear n0_ n1_ n2_; (try clear hb); (try clear hb2); (try clear hk); (try clear hi)))
          go_ret
          exact ⟨by first | rfl | (simp [za2, za3] <;> rfl) | (simp [*, za2, za3] <;> rfl), by repeat (first | (with_reducible first | exact HB.out | apply zah | apply zab | apply zaf | refine zal ?_ GE145.out) | exact HB.out)⟩
        ·rw [if_neg c20] at H
         exact absurd H (by simp)
       ·rw [if_neg c19] at H
        exact absurd H (by simp)
      ·rw [if_neg c18] at H
       have c18b0 : decide (x29_2 < (t148.length : Int)) = false := decide_eq_false c18
       clear c18
       obtain ⟨y153, hy153⟩ : ∃ y_ : List Int, y_ = (([(l0_0.length : Int)] : List Int)) := ⟨_, rfl⟩
       replace H : (zad.l1 k2 l1 y153 0 l0_0 l0_1 l0_2) = some r := by first | (rw [hy153]; with_reducible exact H) | (have H2_ := (Option.bind_some _ _).symm.trans H; rw [hy153]; with_reducible exact H2_) | (have H2_ := (Option.bind_some _ _).symm.trans H; with_reducible exact H2_) | with_reducible exact H | (rw [hy153]; exact H) | exact H
       have Ny153 := zaa.mk hy153;clear hy153
       have H' := zaa.mk H
       clear H
       have hcz25_0 : wr.cell? ⟨gb145, 0, none⟩ = some (.slice A0_0 l0_0.length c0_0) := (zac BK145.out 0).trans rfl
       have hcz25_1 : wr.cell? ⟨gb145, 1, none⟩ = some (.slice A0_1 l0_1.length c0_1) := (zac BK145.out 1).trans rfl
       have hcz25_2 : wr.cell? ⟨gb145, 2, none⟩ = some (.slice A0_2 l0_2.length c0_2) := (zac BK145.out 2).trans rfl
       have hfz25_0 := zak BK145.out 0
       have hfz25_1 := zak BK145.out 1
       have hfz25_2 := zak BK145.out 2
       go_wp2_with (first | ((with_reducible refine zbh (N := 40) rfl ?_); (try (refine zbk (by rfl) ?_; dsimp only)); refine Kd.R_lit (Kd.int .i64) _ 3 ?hg (N := 40) ?hd (xs := ([(l0_0.length : Int)] : List Int)) (inner := [.int .i64 (l0_0.length : Int)]) (ok := fun _ => True) (okp := fun _ => True) ?hr ?hp (fun _ hk => hk) trivial (Below.refl _ _) (Nat.le_refl _) (by simp) ?_; (case hd => rfl); (case hg => rfl); (case hr => first | (go_simp; done) | (go_simp; rfl)); (case hp => exact (Reps.one (show Kd.M (Kd.int .i64) _ _ _ (l0_0.length : Int) [.int .i64 (l0_0.length : Int)] from rfl) (Reps.none _ _))); intro v154 w26 ho27 hb hg_ hnew_; clear hg_ hnew_; (first | rw [← Ny153.out] at ho27 | (simp only [Int.reduceToNat] at ho27; rw [← Ny153.out] at ho27)); have n0_ := zaa.mk (Kd.zbq (by (with_reducible repeat (first | apply Kd.zbc | apply Kd.zbd | apply Kd.zbg)); exact HO_27.out) hb); have n1_ := zaa.mk (Kd.zb1 ho27 (zas (by repeat (first | (with_reducible first | exact HB.out | apply zah | apply zab | apply zaf | refine zal ?_ GE145.out) | exact HB.out)))); have n2_ := zaa.mk (zar (g := gb145) (o := .cells #[.slice A0_0 l0_0.length c0_0, .slice A0_1 l0_1.length c0_1, .slice A0_2 l0_2.length c0_2] 25 (0, 0)) (by (with_reducible repeat (first | refine zam ?_ _ | refine zaj ?_ | refine zai ?_ _)); exact BK145.out) hb); have n3_ := zaa.mk (zaw (by repeat (first | (with_reducible first | exact HB.out | apply zah | apply zab | apply zaf | refine zal ?_ GE145.out) | exact HB.out)) hb); clear HO_27; clear BK145; clear HB; have HO_27 := n0_; have HO155 := n1_; have BK145 := n2_; have HB := n3_; clear n0_ n1_ n2_ n3_; clear hb ho27))
       go_loopg [7, 8] k2 (fun kq v7 v8 w' => ∃ (x7_3 : List Int) (x8_3 : Int), v8 = .int .i64 x8_3 ∧ zaa (zad.l1 kq l1 x7_3 x8_3 l0_0 l0_1 l0_2 = some r) ∧ zaa (kq ≤ k2) ∧ zaa (Kd.R (Kd.int .i64) 3 w' w.heap.size (fun _ => True) v7 x7_3) ∧ zaa (w'.heap[gb145]? = some (.cells #[(.slice A0_0 l0_0.length c0_0), (.slice A0_1 l0_1.length c0_1), (.slice A0_2 l0_2.length c0_2)] 25 (0, 0))) ∧ zaa (Below w.heap.size w w'))
       case atStart => exact ⟨(y153), (0), (by first | rfl | (simp; done) | (simp [*]; done)), H', ⟨Nat.le_refl _⟩, ⟨by (with_reducible repeat (first | apply Kd.zbc | apply Kd.zbd | apply Kd.zbg)); exact HO155.out⟩, ⟨by (with_reducible repeat (first | refine zam ?_ _ | refine zaj ?_ | refine zai ?_ _)); exact BK145.out⟩, ⟨by repeat (first | (with_reducible first | exact HB.out | apply zah | apply zab | apply zaf | refine zal ?_ GE145.out) | exact HB.out)⟩⟩
       case round =>
        clear H';(try clear c1);(try clear p1);(try clear q1);(try clear hx1);(try clear c2);(try clear p2);(try clear q2);(try clear c4);(try clear c6);(try clear p6);(try clear c7);(try clear c11);(try clear p15);(try clear q15);(try clear hx15);(try clear c18);(try clear c18b0);(try clear c19);(try clear c19b0);(try clear c20);(try clear c20b0);(try clear q21);(try clear c22);(try clear hcz15_0);(try clear hcz15_1);(try clear hcz15_2);(try clear hcz25_0);(try clear hcz25_1);(try clear hcz25_2);(try clear hcz7_0);(try clear hcz7_1);(try clear hcz7_2);(try clear hcz9_0);(try clear hcz9_1);(try clear hcz9_2);(try clear hfz15_0);(try clear hfz15_1);(try clear hfz15_2);(try clear hfz25_0);(try clear hfz25_1);(try clear hfz25_2);(try clear hfz7_0);(try clear hfz7_1);(try clear hfz7_2);(try clear hfz9_0);(try clear hfz9_1);(try clear hfz9_2);(try clear hx151_0);(try clear p151);(try clear p2);(try clear q151)
        obtain ⟨x7_3, x8_3, rfl, HA, HK3, HO_7, BK145, HB⟩ := hrel
        cases gk with
        | zero => exact absurd HA.out (by simp [zad.l1])
        | succ k3 =>
         have H := HA.out;clear HA
         simp only [zad.l1] at H
         have HC28 := zaa.mk H;clear H
         go_upto_region 11 with (fail)
         go_cut [54] (fun v54 wc => ∃ (kq : Nat) (x54_27 : Bool), v54 = .bool x54_27 ∧ zaa (zad.j3 kq l1 x7_3 x8_3 x54_27 l0_0 l0_1 l0_2 = some r) ∧ zaa (kq ≤ k3) ∧ zaa (Kd.R (Kd.int .i64) 3 wc w.heap.size (fun _ => True) u7 x7_3) ∧ zaa (wc.heap[gb145]? = some (.cells #[(.slice A0_0 l0_0.length c0_0), (.slice A0_1 l0_1.length c0_1), (.slice A0_2 l0_2.length c0_2)] 25 (0, 0))) ∧ zaa (Below w.heap.size w wc))
         case first =>
          have H := HC28.out;clear HC28
          by_cases c29 : (wrap64 (x8_3 + 1)) < (l1.length : Int)
          ·rw [if_pos c29] at H
           have c29b0 : decide ((wrap64 (x8_3 + 1)) < (l1.length : Int)) = true := decide_eq_true c29
           clear c29
           (first | rw [c29b0] | (simp only [i64_w, i32_w]; rw [c29b0]) | skip)
           by_cases c30 : x8_3 < 12
           ·rw [if_pos c30] at H
            have c30b0 : decide (x8_3 < 12) = true := decide_eq_true c30
            clear c30
            have H' := zaa.mk H
            clear H
            obtain ⟨Ao31, co31, eo31⟩ := Kd.zbt HO_7.out
            subst eo31;go_wp2
            go_meet
            case rel => exact ⟨_, (decide ((x7_3.length : Int) > 0)), (by first | rfl | (simp; done) | (simp [*]; done)), H', ⟨by have := HJ2.out; have := HK2.out; have := HK3.out; first | omega | exact Nat.le_refl _⟩, ⟨by (with_reducible repeat (first | apply Kd.zbc | apply Kd.zbd | apply Kd.zbg)); exact HO_7.out⟩, ⟨by (with_reducible repeat (first | refine zam ?_ _ | refine zaj ?_ | refine zai ?_ _)); exact BK145.out⟩, ⟨by repeat (first | (with_reducible first | exact HB.out | apply zah | apply zab | apply zaf | refine zal ?_ GE145.out) | exact HB.out)⟩⟩
           ·rw [if_neg c30] at H
            have c30b0 : decide (x8_3 < 12) = false := decide_eq_false c30
            clear c30
            have H' := zaa.mk H
            clear H;go_wp2
            go_meet
            case rel => exact ⟨_, (false), (by first | rfl | (simp; done) | (simp [*]; done)), H', ⟨by have := HJ2.out; have := HK2.out; have := HK3.out; first | omega | exact Nat.le_refl _⟩, ⟨by (with_reducible repeat (first | apply Kd.zbc | apply Kd.zbd | apply Kd.zbg)); exact HO_7.out⟩, ⟨by (with_reducible repeat (first | refine zam ?_ _ | refine zaj ?_ | refine zai ?_ _)); exact BK145.out⟩, ⟨by repeat (first | (with_reducible first | exact HB.out | apply zah | apply zab | apply zaf | refine zal ?_ GE145.out) | exact HB.out)⟩⟩
          ·rw [if_neg c29] at H
           have c29b0 : decide ((wrap64 (x8_3 + 1)) < (l1.length : Int)) = false := decide_eq_false c29
           clear c29
           (first | rw [c29b0] | (simp only [i64_w, i32_w]; rw [c29b0]) | skip)
           have H' := zaa.mk H
           clear H;go_wp2
           go_meet
           case rel => exact ⟨_, (false), (by first | rfl | (simp; done) | (simp [*]; done)), H', ⟨by have := HJ2.out; have := HK2.out; have := HK3.out; first | omega | exact Nat.le_refl _⟩, ⟨by (with_reducible repeat (first | apply Kd.zbc | apply Kd.zbd | apply Kd.zbg)); exact HO_7.out⟩, ⟨by (with_reducible repeat (first | refine zam ?_ _ | refine zaj ?_ | refine zai ?_ _)); exact BK145.out⟩, ⟨by repeat (first | (with_reducible first | exact HB.out | apply zah | apply zab | apply zaf | refine zal ?_ GE145.out) | exact HB.out)⟩⟩
         case rest =>
          clear HC28;(try clear c1);(try clear p1);(try clear q1);(try clear hx1);(try clear c2);(try clear p2);(try clear q2);(try clear c3);(try clear c4);(try clear c6);(try clear p6);(try clear c7);(try clear c11);(try clear p15);(try clear q15);(try clear hx15);(try clear c18);(try clear c18b0);(try clear c19);(try clear c19b0);(try clear c20);(try clear c20b0);(try clear q21);(try clear c22);(try clear c29);(try clear c29b0);(try clear c30);(try clear c30b0);(try clear hcz15_0);(try clear hcz15_1);(try clear hcz15_2);(try clear hcz25_0);(try clear hcz25_1);(try clear hcz25_2);(try clear hcz7_0);(try clear hcz7_1);(try clear hcz7_2);(try clear hcz9_0);(try clear hcz9_1);(try clear hcz9_2);(try clear hfz15_0);(try clear hfz15_1);(try clear hfz15_2);(try clear hfz25_0);(try clear hfz25_1);(try clear hfz25_2);(try clear hfz7_0);(try clear hfz7_1);(try clear hfz7_2);(try clear hfz9_0);(try clear hfz9_1);(try clear hfz9_2);(try clear hx151_0);(try clear p1);(try clear p15);(try clear p151);(try clear p2);(try clear p6);(try clear q1);(try clear q15);(try clear q151);(try clear q2);(try clear q21)
          obtain ⟨kq, x54_27, rfl, HA, HJ27, HO_7, BK145, HB⟩ := hcut
          cases kq with
          | zero => exact absurd HA.out (by simp [zad.j3])
          | succ kj27 =>
           have H := HA.out;clear HA
           simp only [zad.j3] at H
           by_cases c32 : x54_27 = true
           ·subst c32
            have H1 : (if 0 ≤ x8_3 then (if x8_3 < (l1.length : Int) then (if (IntKind.u64.wrap ((x7_3.length : Int))) = 0 then (none) else (if 0 ≤ (wrap64 (Int.tmod (IntKind.u64.wrap (rd l1 x8_3)) (IntKind.u64.wrap ((x7_3.length : Int))))) then (if (wrap64 (Int.tmod (IntKind.u64.wrap (rd l1 x8_3)) (IntKind.u64.wrap ((x7_3.length : Int))))) < (x7_3.length : Int) then (if (rd x7_3 (wrap64 (Int.tmod (IntKind.u64.wrap (rd l1 x8_3)) (IntKind.u64.wrap ((x7_3.length : Int)))))) < (l0_0.length : Int) then (zad.l1 kj27 l1 x7_3 (wrap64 (x8_3 + 2)) l0_0 l0_1 l0_2) else ((za0.f kj27 l0_0 l0_1 l0_2 (rd x7_3 (wrap64 (Int.tmod (IntKind.u64.wrap (rd l1 x8_3)) (IntKind.u64.wrap ((x7_3.length : Int))))))).bind fun t159 => ((some (([] : List Int) : List Int)).bind fun y162 => (if (wrap64 (Int.tmod (IntKind.u64.wrap (rd l1 x8_3)) (IntKind.u64.wrap ((x7_3.length : Int))))) ≤ (x7_3.length : Int) then ((some (x7_3.take ((wrap64 (Int.tmod (IntKind.u64.wrap (rd l1 x8_3)) (IntKind.u64.wrap ((x7_3.length : Int))))) : Int).toNat : List Int)).bind fun y165 => (if y162.length + y165.length < 17592186044416 then (if 0 ≤ (wrap64 (x8_3 + 1)) then (if (wrap64 (x8_3 + 1)) < (l1.length : Int) then (if (IntKind.u64.wrap ((t159.length : Int))) = 0 then (none) else (if 0 ≤ (wrap64 (Int.tmod (IntKind.u64.wrap (rd l1 (wrap64 (x8_3 + 1)))) (IntKind.u64.wrap ((t159.length : Int))))) then (if (wrap64 (Int.tmod (IntKind.u64.wrap (rd l1 (wrap64 (x8_3 + 1)))) (IntKind.u64.wrap ((t159.length : Int))))) < (t159.length : Int) then (if 0 ≤ (rd t159 (wrap64 (Int.tmod (IntKind.u64.wrap (rd l1 (wrap64 (x8_3 + 1)))) (IntKind.u64.wrap ((t159.length : Int)))))) then (if (rd t159 (wrap64 (Int.tmod (IntKind.u64.wrap (rd l1 (wrap64 (x8_3 + 1)))) (IntKind.u64.wrap ((t159.length : Int)))))) < (l0_2.length : Int) then (zad.l2 kj27 l1 x8_3 (y162 ++ y165) ((zae l0_2 (rd t159 (wrap64 (Int.tmod (IntKind.u64.wrap (rd l1 (wrap64 (x8_3 + 1)))) (IntKind.u64.wrap ((t159.length : Int))))))).f1) (((zae l0_2 (rd t159 (wrap64 (Int.tmod (IntKind.u64.wrap (rd l1 (wrap64 (x8_3 + 1)))) (IntKind.u64.wrap ((t159.length : Int))))))).f1).length : Int) 0 l0_0 l0_1 l0_2) else (none)) else (none)) else (none)) else (none))) else (none)) else (none)) else (none))) else (none))))) else (none)) else (none))) else (none)) else (none)) = some r := by rw [if_pos rfl] at H; exact H
            clear H;have H := H1;clear H1
            by_cases c33 : 0 ≤ x8_3
            ·rw [if_pos c33] at H
             have c33b0 : decide (0 ≤ x8_3) = true := decide_eq_true c33
             clear c33
             by_cases c34 : x8_3 < (l1.length : Int)
             ·rw [if_pos c34] at H
              have c34b0 : decide (x8_3 < (l1.length : Int)) = true := decide_eq_true c34
              clear c34
              by_cases c35 : (IntKind.u64.wrap ((x7_3.length : Int))) = 0
              ·rw [if_pos c35] at H
               exact absurd H (by simp)
              ·rw [if_neg c35] at H
               have c35b0 : ((IntKind.u64.wrap ((x7_3.length : Int))) == 0) = false := beq_eq_false_iff_ne.mpr c35
               have c35b1 : ((IntKind.u64.wrap ((x7_3.length : Int))) != 0) = true := bne_iff_ne.mpr c35
               obtain ⟨ji36, hji36⟩ : ∃ j_ : Int, (wrap64 (Int.tmod (IntKind.u64.wrap (rd l1 x8_3)) (IntKind.u64.wrap ((x7_3.length : Int))))) = j_ := ⟨_, rfl⟩
               replace H : (if 0 ≤ (ji36) then (if (ji36) < (x7_3.length : Int) then (if (rd x7_3 (ji36)) < (l0_0.length : Int) then (zad.l1 kj27 l1 x7_3 (wrap64 (x8_3 + 2)) l0_0 l0_1 l0_2) else ((za0.f kj27 l0_0 l0_1 l0_2 (rd x7_3 (ji36))).bind fun t159 => ((some (([] : List Int) : List Int)).bind fun y162 => (if (ji36) ≤ (x7_3.length : Int) then ((some (x7_3.take ((ji36) : Int).toNat : List Int)).bind fun y165 => (if y162.length + y165.length < 17592186044416 then (if 0 ≤ (wrap64 (x8_3 + 1)) then (if (wrap64 (x8_3 + 1)) < (l1.length : Int) then (if (IntKind.u64.wrap ((t159.length : Int))) = 0 then (none) else (if 0 ≤ (wrap64 (Int.tmod (IntKind.u64.wrap (rd l1 (wrap64 (x8_3 + 1)))) (IntKind.u64.wrap ((t159.length : Int))))) then (if (wrap64 (Int.tmod (IntKind.u64.wrap (rd l1 (wrap64 (x8_3 + 1)))) (IntKind.u64.wrap ((t159.length : Int))))) < (t159.length : Int) then (if 0 ≤ (rd t159 (wrap64 (Int.tmod (IntKind.u64.wrap (rd l1 (wrap64 (x8_3 + 1)))) (IntKind.u64.wrap ((t159.length : Int)))))) then (if (rd t159 (wrap64 (Int.tmod (IntKind.u64.wrap (rd l1 (wrap64 (x8_3 + 1)))) (IntKind.u64.wrap ((t159.length : Int)))))) < (l0_2.length : Int) then (zad.l2 kj27 l1 x8_3 (y162 ++ y165) ((zae l0_2 (rd t159 (wrap64 (Int.tmod (IntKind.u64.wrap (rd l1 (wrap64 (x8_3 + 1)))) (IntKind.u64.wrap ((t159.length : Int))))))).f1) (((zae l0_2 (rd t159 (wrap64 (Int.tmod (IntKind.u64.wrap (rd l1 (wrap64 (x8_3 + 1)))) (IntKind.u64.wrap ((t159.length : Int))))))).f1).length : Int) 0 l0_0 l0_1 l0_2) else (none)) else (none)) else (none)) else (none))) else (none)) else (none)) else (none))) else (none))))) else (none)) else (none)) = some r := by first | (rw [hji36] at H; exact H) | (simp only [hji36] at H ⊢; exact H)
               have hji36w : (IntKind.i64.wrap (Int.tmod (IntKind.u64.wrap (rd l1 x8_3)) (IntKind.u64.wrap ((x7_3.length : Int))))) = ji36 := (i64_w _).trans hji36
               by_cases c37 : 0 ≤ (ji36)
               ·rw [if_pos c37] at H
                have c37b0 : decide (0 ≤ (ji36)) = true := decide_eq_true c37
                clear c37
                by_cases c38 : (ji36) < (x7_3.length : Int)
                ·rw [if_pos c38] at H
                 have c38b0 : decide ((ji36) < (x7_3.length : Int)) = true := decide_eq_true c38
                 clear c38
                 by_cases c39 : (rd x7_3 (ji36)) < (l0_0.length : Int)
                 ·rw [if_pos c39] at H
                  have c39b0 : decide ((rd x7_3 (ji36)) < (l0_0.length : Int)) = true := decide_eq_true c39
                  clear c39
                  have H' := zaa.mk H
                  clear H
                  have p156 : 0 ≤ (x8_3 : Int) := of_decide_eq_true (by first | (with_reducible assumption) | assumption)
                  have q156 : x8_3 < (l1.length : Int) := of_decide_eq_true (by first | (with_reducible assumption) | assumption)
                  obtain ⟨ad156, e156, hx156_0⟩ := Kd.at_int HR1.out x8_3 p156 q156
                  cases e156
                  replace hx156_0 := (HB.out.cell (World.block_lt_of_cell? w _ hx156_0)).trans hx156_0
                  replace p156 := eq_true p156
                  replace q156 := eq_true q156
                  obtain ⟨Ao40, co40, eo40⟩ := Kd.zbt HO_7.out
                  subst eo40
                  try go_wp2
                  have n0_ := zaa.mk (Kd.zbg HO_7.out)
                  have n1_ := zaa.mk (zaj BK145.out)
                  have n2_ := zaa.mk (zaf HB.out)
                  clear HO_7;clear BK145;clear HB;have HO_7 := n0_;have BK145 := n1_;have HB := n2_;clear n0_ n1_ n2_
                  have p157 : 0 ≤ ((ji36) : Int) := of_decide_eq_true (by first | (with_reducible assumption) | assumption)
                  have q157 : (ji36) < (x7_3.length : Int) := of_decide_eq_true (by first | (with_reducible assumption) | assumption)
                  obtain ⟨ad157, e157, hx157_0⟩ := Kd.at_int (Kd.R_reads' HO_7.out).2.2 (ji36) p157 q157
                  cases e157
                  replace p157 := eq_true p157
                  replace q157 := eq_true q157
                  refine zb0 (n := 8) (S := fun w' => w'.cell? ⟨gb145, 0, none⟩ = some (.slice A0_0 l0_0.length c0_0) ∧ w'.cell? ⟨gb145, 1, none⟩ = some (.slice A0_1 l0_1.length c0_1) ∧ w'.cell? ⟨gb145, 2, none⟩ = some (.slice A0_2 l0_2.length c0_2) ∧ w'.cell? (ad157.add ((ji36)).toNat) = some (.int .i64 (rd x7_3 (ji36)))) (ds := []) #[Nf,Nf,Nf,Nf,Nf,Nf,Nf,Nf] (by kernel_rfl) rfl rfl ⟨(zac BK145.out 0).trans rfl, (zac BK145.out 1).trans rfl, (zac BK145.out 2).trans rfl, hx157_0⟩ (fun hHeld => ?_); refine with_tabW zad.tab14 zad.bits14 (fun HT_ HW_ => ?_)
                  generalize wc.drew = w41 at HO_7 BK145 HB hx157_0 hHeld ⊢
                  refine pure_ (i := 0) (N := some 67) (v := ?_) (a' := ?_) (Ymk 8 1) rfl rfl (zat HT_.out (by kernel_rfl)) (fun _ _ _ h => h) (Or.inl ⟨by rfl, ?_⟩) ?_ ?_
                  rotate_left; · intro w'; go_simp; with_reducible rfl
                  rotate_left; · simp only [Act.put, Y1, Y2, Y3, i64_w, i32_w]; rfl
                  refine pure_ (i := 1) (N := some 68) (v := ?_) (a' := ?_) (Ymk 8 3) rfl rfl (zat HT_.out (by kernel_rfl)) (fun _ _ _ h => h) (Or.inl ⟨by rfl, ?_⟩) ?_ ?_
                  rotate_left; · intro w'; go_simp; with_reducible rfl
                  rotate_left; · simp only [Act.put, Y1, Y2, Y3, i64_w, i32_w]; rfl
                  refine pure_ (i := 2) (N := some 69) (v := ?_) (a' := ?_) (Ymk 8 7) rfl rfl (zat HT_.out (by kernel_rfl)) (fun _ _ _ h => h) (Or.inl ⟨by rfl, ?_⟩) ?_ ?_
                  rotate_left; · intro w'; go_simp; with_reducible rfl
                  rotate_left; · simp only [Act.put, Y1, Y2, Y3, i64_w, i32_w]; rfl
                  refine pure_ (i := 4) (N := some 71) (v := ?_) (a' := ?_) (Ymk 8 23) rfl rfl (zat HT_.out (by kernel_rfl)) (fun _ _ _ h => h) (Or.inl ⟨by rfl, ?_⟩) ?_ ?_
                  rotate_left; · intro w'; go_simp; with_reducible rfl
                  rotate_left; · simp only [Act.put, Y1, Y2, Y3, i64_w, i32_w]; rfl
                  refine take_ (i := 3) (N := some 70) (v := ?_) (a' := ?_) (Ymk 8 31) rfl rfl (zbv HT_.out HW_.out (by kernel_rfl)) (fun _ _ _ h => h) (Or.inl ⟨by rfl, ?_⟩) hHeld ?_ ?_
                  rotate_left
                  ·rintro w' ⟨s0, s1, s2, s3⟩
                   go_simp
                   with_reducible rfl
                  rotate_left; · simp only [Act.put, Y1, Y2, Y3, i64_w, i32_w]; rfl
                  refine take_ (i := 5) (N := some 72) (v := ?_) (a' := ?_) (Ymk 8 63) rfl rfl (zbv HT_.out HW_.out (by kernel_rfl)) (fun _ _ _ h => h) (Or.inl ⟨by rfl, ?_⟩) hHeld ?_ ?_
                  rotate_left
                  ·rintro w' ⟨s0, s1, s2, s3⟩
                   go_simp
                   with_reducible rfl
                  rotate_left; · simp only [Act.put, Y1, Y2, Y3, i64_w, i32_w]; rfl
                  refine pure_ (i := 6) (N := some 73) (v := ?_) (a' := ?_) (Ymk 8 127) rfl rfl (zat HT_.out (by kernel_rfl)) (fun _ _ _ h => h) (Or.inl ⟨by rfl, ?_⟩) ?_ ?_
                  rotate_left; · intro w'; go_simp; with_reducible rfl
                  rotate_left; · simp only [Act.put, Y1, Y2, Y3, i64_w, i32_w]; rfl
                  refine pure_ (i := 7) (N := some 74) (v := ?_) (a' := ?_) (Ymk 8 255) rfl rfl (zat HT_.out (by kernel_rfl)) (fun _ _ _ h => h) (Or.inl ⟨by rfl, ?_⟩) ?_ ?_
                  rotate_left; · intro w'; go_simp; with_reducible rfl
                  rotate_left; · simp only [Act.put, Y1, Y2, Y3, i64_w, i32_w]; rfl
                  refine done_ (done_of HT_.out (by kernel_rfl)) ?_
                  try go_wp2
                  go_roundg kj27
                  case measure => have := HJ2.out; have := HK2.out; have := HK3.out; have := HJ27.out; omega
                  case rel => exact ⟨(x7_3), (wrap64 (x8_3 + 2)), (by first | rfl | (simp; done) | (simp [*]; done)), H', ⟨by have := HJ2.out; have := HK2.out; have := HK3.out; have := HJ27.out; omega⟩, ⟨by (with_reducible repeat (first | apply Kd.zbc | apply Kd.zbd | apply Kd.zbg)); exact HO_7.out⟩, ⟨by (with_reducible repeat (first | refine zam ?_ _ | refine zaj ?_ | refine zai ?_ _)); exact BK145.out⟩, ⟨by repeat (first | (with_reducible first | exact HB.out | apply zah | apply zab | apply zaf | refine zal ?_ GE145.out) | exact HB.out)⟩⟩
                 ·rw [if_neg c39] at H
                  have c39b0 : decide ((rd x7_3 (ji36)) < (l0_0.length : Int)) = false := decide_eq_false c39
                  clear c39;replace H := Option.bind_eq_some_iff.mp H
                  obtain ⟨t159, A420, H⟩ := H
                  replace H : ((some (([] : List Int) : List Int)).bind fun y162 => (if (ji36) ≤ (x7_3.length : Int) then ((some (x7_3.take ((ji36) : Int).toNat : List Int)).bind fun y165 => (if y162.length + y165.length < 17592186044416 then (if 0 ≤ (wrap64 (x8_3 + 1)) then (if (wrap64 (x8_3 + 1)) < (l1.length : Int) then (if (IntKind.u64.wrap ((t159.length : Int))) = 0 then (none) else (if 0 ≤ (wrap64 (Int.tmod (IntKind.u64.wrap (rd l1 (wrap64 (x8_3 + 1)))) (IntKind.u64.wrap ((t159.length : Int))))) then (if (wrap64 (Int.tmod (IntKind.u64.wrap (rd l1 (wrap64 (x8_3 + 1)))) (IntKind.u64.wrap ((t159.length : Int))))) < (t159.length : Int) then (if 0 ≤ (rd t159 (wrap64 (Int.tmod (IntKind.u64.wrap (rd l1 (wrap64 (x8_3 + 1)))) (IntKind.u64.wrap ((t159.length : Int)))))) then (if (rd t159 (wrap64 (Int.tmod (IntKind.u64.wrap (rd l1 (wrap64 (x8_3 + 1)))) (IntKind.u64.wrap ((t159.length : Int)))))) < (l0_2.length : Int) then (zad.l2 kj27 l1 x8_3 (y162 ++ y165) ((zae l0_2 (rd t159 (wrap64 (Int.tmod (IntKind.u64.wrap (rd l1 (wrap64 (x8_3 + 1)))) (IntKind.u64.wrap ((t159.length : Int))))))).f1) (((zae l0_2 (rd t159 (wrap64 (Int.tmod (IntKind.u64.wrap (rd l1 (wrap64 (x8_3 + 1)))) (IntKind.u64.wrap ((t159.length : Int))))))).f1).length : Int) 0 l0_0 l0_1 l0_2) else (none)) else (none)) else (none)) else (none))) else (none)) else (none)) else (none))) else (none))) = some r := H
                  have A42 := zaa.mk A420;clear A420
                  obtain ⟨y162, hy162⟩ : ∃ y_ : List Int, y_ = (([] : List Int)) := ⟨_, rfl⟩
                  replace H : (if (ji36) ≤ (x7_3.length : Int) then ((some (x7_3.take ((ji36) : Int).toNat : List Int)).bind fun y165 => (if y162.length + y165.length < 17592186044416 then (if 0 ≤ (wrap64 (x8_3 + 1)) then (if (wrap64 (x8_3 + 1)) < (l1.length : Int) then (if (IntKind.u64.wrap ((t159.length : Int))) = 0 then (none) else (if 0 ≤ (wrap64 (Int.tmod (IntKind.u64.wrap (rd l1 (wrap64 (x8_3 + 1)))) (IntKind.u64.wrap ((t159.length : Int))))) then (if (wrap64 (Int.tmod (IntKind.u64.wrap (rd l1 (wrap64 (x8_3 + 1)))) (IntKind.u64.wrap ((t159.length : Int))))) < (t159.length : Int) then (if 0 ≤ (rd t159 (wrap64 (Int.tmod (IntKind.u64.wrap (rd l1 (wrap64 (x8_3 + 1)))) (IntKind.u64.wrap ((t159.length : Int)))))) then (if (rd t159 (wrap64 (Int.tmod (IntKind.u64.wrap (rd l1 (wrap64 (x8_3 + 1)))) (IntKind.u64.wrap ((t159.length : Int)))))) < (l0_2.length : Int) then (zad.l2 kj27 l1 x8_3 (y162 ++ y165) ((zae l0_2 (rd t159 (wrap64 (Int.tmod (IntKind.u64.wrap (rd l1 (wrap64 (x8_3 + 1)))) (IntKind.u64.wrap ((t159.length : Int))))))).f1) (((zae l0_2 (rd t159 (wrap64 (Int.tmod (IntKind.u64.wrap (rd l1 (wrap64 (x8_3 + 1)))) (IntKind.u64.wrap ((t159.length : Int))))))).f1).length : Int) 0 l0_0 l0_1 l0_2) else (none)) else (none)) else (none)) else (none))) else (none)) else (none)) else (none))) else (none)) = some r := by first | (rw [hy162]; with_reducible exact H) | (have H2_ := (Option.bind_some _ _).symm.trans H; rw [hy162]; with_reducible exact H2_) | (have H2_ := (Option.bind_some _ _).symm.trans H; with_reducible exact H2_) | with_reducible exact H | (rw [hy162]; exact H) | exact H
                  have Ny162 := zaa.mk hy162;clear hy162
                  have c43b0 := eq_true (of_decide_eq_true (by first | (with_reducible assumption) | assumption) : 0 ≤ (ji36))
                  by_cases c44 : (ji36) ≤ (x7_3.length : Int)
                  ·rw [if_pos c44] at H
                   have c44b0 := eq_true c44
                   have c44b1 : decide ((ji36) ≤ (x7_3.length : Int)) = true := decide_eq_true c44
                   clear c44
                   obtain ⟨y165, hy165⟩ : ∃ y_ : List Int, y_ = (x7_3.take ((ji36) : Int).toNat) := ⟨_, rfl⟩
                   replace H : (if y162.length + y165.length < 17592186044416 then (if 0 ≤ (wrap64 (x8_3 + 1)) then (if (wrap64 (x8_3 + 1)) < (l1.length : Int) then (if (IntKind.u64.wrap ((t159.length : Int))) = 0 then (none) else (if 0 ≤ (wrap64 (Int.tmod (IntKind.u64.wrap (rd l1 (wrap64 (x8_3 + 1)))) (IntKind.u64.wrap ((t159.length : Int))))) then (if (wrap64 (Int.tmod (IntKind.u64.wrap (rd l1 (wrap64 (x8_3 + 1)))) (IntKind.u64.wrap ((t159.length : Int))))) < (t159.length : Int) then (if 0 ≤ (rd t159 (wrap64 (Int.tmod (IntKind.u64.wrap (rd l1 (wrap64 (x8_3 + 1)))) (IntKind.u64.wrap ((t159.length : Int)))))) then (if (rd t159 (wrap64 (Int.tmod (IntKind.u64.wrap (rd l1 (wrap64 (x8_3 + 1)))) (IntKind.u64.wrap ((t159.length : Int)))))) < (l0_2.length : Int) then (zad.l2 kj27 l1 x8_3 (y162 ++ y165) ((zae l0_2 (rd t159 (wrap64 (Int.tmod (IntKind.u64.wrap (rd l1 (wrap64 (x8_3 + 1)))) (IntKind.u64.wrap ((t159.length : Int))))))).f1) (((zae l0_2 (rd t159 (wrap64 (Int.tmod (IntKind.u64.wrap (rd l1 (wrap64 (x8_3 + 1)))) (IntKind.u64.wrap ((t159.length : Int))))))).f1).length : Int) 0 l0_0 l0_1 l0_2) else (none)) else (none)) else (none)) else (none))) else (none)) else (none)) else (none)) = some r := by first | (rw [hy165]; with_reducible exact H) | (have H2_ := (Option.bind_some _ _).symm.trans H; rw [hy165]; with_reducible exact H2_) | (have H2_ := (Option.bind_some _ _).symm.trans H; with_reducible exact H2_) | with_reducible exact H | (rw [hy165]; exact H) | exact H
                   have Ny165 := zaa.mk hy165;clear hy165
                   by_cases c45 : y162.length + y165.length < 17592186044416
                   ·rw [if_pos c45] at H
                    have LMc45 := zaa.mk c45;clear c45
                    obtain ⟨y169, hy169⟩ : ∃ y_ : List Int, y_ = (y162 ++ y165) := ⟨_, rfl⟩
                    replace H : (if 0 ≤ (wrap64 (x8_3 + 1)) then (if (wrap64 (x8_3 + 1)) < (l1.length : Int) then (if (IntKind.u64.wrap ((t159.length : Int))) = 0 then (none) else (if 0 ≤ (wrap64 (Int.tmod (IntKind.u64.wrap (rd l1 (wrap64 (x8_3 + 1)))) (IntKind.u64.wrap ((t159.length : Int))))) then (if (wrap64 (Int.tmod (IntKind.u64.wrap (rd l1 (wrap64 (x8_3 + 1)))) (IntKind.u64.wrap ((t159.length : Int))))) < (t159.length : Int) then (if 0 ≤ (rd t159 (wrap64 (Int.tmod (IntKind.u64.wrap (rd l1 (wrap64 (x8_3 + 1)))) (IntKind.u64.wrap ((t159.length : Int)))))) then (if (rd t159 (wrap64 (Int.tmod (IntKind.u64.wrap (rd l1 (wrap64 (x8_3 + 1)))) (IntKind.u64.wrap ((t159.length : Int)))))) < (l0_2.length : Int) then (zad.l2 kj27 l1 x8_3 y169 ((zae l0_2 (rd t159 (wrap64 (Int.tmod (IntKind.u64.wrap (rd l1 (wrap64 (x8_3 + 1)))) (IntKind.u64.wrap ((t159.length : Int))))))).f1) (((zae l0_2 (rd t159 (wrap64 (Int.tmod (IntKind.u64.wrap (rd l1 (wrap64 (x8_3 + 1)))) (IntKind.u64.wrap ((t159.length : Int))))))).f1).length : Int) 0 l0_0 l0_1 l0_2) else (none)) else (none)) else (none)) else (none))) else (none)) else (none)) = some r := by first | (rw [hy169]; with_reducible exact H) | (have H2_ := (Option.bind_some _ _).symm.trans H; rw [hy169]; with_reducible exact H2_) | (have H2_ := (Option.bind_some _ _).symm.trans H; with_reducible exact H2_) | with_reducible exact H | (rw [hy169]; exact H) | exact H
                    have Ny169 := zaa.mk hy169;clear hy169
                    obtain ⟨ji46, hji46⟩ : ∃ j_ : Int, (wrap64 (x8_3 + 1)) = j_ := ⟨_, rfl⟩
                    replace H : (if 0 ≤ (ji46) then (if (ji46) < (l1.length : Int) then (if (IntKind.u64.wrap ((t159.length : Int))) = 0 then (none) else (if 0 ≤ (wrap64 (Int.tmod (IntKind.u64.wrap (rd l1 (ji46))) (IntKind.u64.wrap ((t159.length : Int))))) then (if (wrap64 (Int.tmod (IntKind.u64.wrap (rd l1 (ji46))) (IntKind.u64.wrap ((t159.length : Int))))) < (t159.length : Int) then (if 0 ≤ (rd t159 (wrap64 (Int.tmod (IntKind.u64.wrap (rd l1 (ji46))) (IntKind.u64.wrap ((t159.length : Int)))))) then (if (rd t159 (wrap64 (Int.tmod (IntKind.u64.wrap (rd l1 (ji46))) (IntKind.u64.wrap ((t159.length : Int)))))) < (l0_2.length : Int) then (zad.l2 kj27 l1 x8_3 y169 ((zae l0_2 (rd t159 (wrap64 (Int.tmod (IntKind.u64.wrap (rd l1 (ji46))) (IntKind.u64.wrap ((t159.length : Int))))))).f1) (((zae l0_2 (rd t159 (wrap64 (Int.tmod (IntKind.u64.wrap (rd l1 (ji46))) (IntKind.u64.wrap ((t159.length : Int))))))).f1).length : Int) 0 l0_0 l0_1 l0_2) else (none)) else (none)) else (none)) else (none))) else (none)) else (none)) = some r := by first | (rw [hji46] at H; exact H) | (simp only [hji46] at H ⊢; exact H)
                    (try rw [hji46] at A42)
                    have hji46w : (IntKind.i64.wrap (x8_3 + 1)) = ji46 := (i64_w _).trans hji46
                    by_cases c47 : 0 ≤ (ji46)
                    ·rw [if_pos c47] at H
                     have c47b0 : decide (0 ≤ (ji46)) = true := decide_eq_true c47
                     clear c47
                     by_cases c48 : (ji46) < (l1.length : Int)
                     ·rw [if_pos c48] at H
                      have c48b0 : decide ((ji46) < (l1.length : Int)) = true := decide_eq_true c48
                      clear c48
                      by_cases c49 : (IntKind.u64.wrap ((t159.length : Int))) = 0
                      ·rw [if_pos c49] at H
                       exact absurd H (by simp)
                      ·rw [if_neg c49] at H
                       have c49b0 : ((IntKind.u64.wrap ((t159.length : Int))) == 0) = false := beq_eq_false_iff_ne.mpr c49
                       have c49b1 : ((IntKind.u64.wrap ((t159.length : Int))) != 0) = true := bne_iff_ne.mpr c49
                       obtain ⟨ji50, hji50⟩ : ∃ j_ : Int, (wrap64 (Int.tmod (IntKind.u64.wrap (rd l1 (ji46))) (IntKind.u64.wrap ((t159.length : Int))))) = j_ := ⟨_, rfl⟩
                       replace H : (if 0 ≤ (ji50) then (if (ji50) < (t159.length : Int) then (if 0 ≤ (rd t159 (ji50)) then (if (rd t159 (ji50)) < (l0_2.length : Int) then (zad.l2 kj27 l1 x8_3 y169 ((zae l0_2 (rd t159 (ji50))).f1) (((zae l0_2 (rd t159 (ji50))).f1).length : Int) 0 l0_0 l0_1 l0_2) else (none)) else (none)) else (none)) else (none)) = some r := by first | (rw [hji50] at H; exact H) | (simp only [hji50] at H ⊢; exact H)
                       (try rw [hji50] at A42)
                       have hji50w : (IntKind.i64.wrap (Int.tmod (IntKind.u64.wrap (rd l1 (ji46))) (IntKind.u64.wrap ((t159.length : Int))))) = ji50 := (i64_w _).trans hji50
                       by_cases c51 : 0 ≤ (ji50)
                       ·rw [if_pos c51] at H
                        have c51b0 : decide (0 ≤ (ji50)) = true := decide_eq_true c51
                        clear c51
                        by_cases c52 : (ji50) < (t159.length : Int)
                        ·rw [if_pos c52] at H
                         have c52b0 : decide ((ji50) < (t159.length : Int)) = true := decide_eq_true c52
                         clear c52
                         by_cases c53 : 0 ≤ (rd t159 (ji50))
                         ·rw [if_pos c53] at H
                          have c53b0 : decide (0 ≤ (rd t159 (ji50))) = true := decide_eq_true c53
                          clear c53
                          by_cases c54 : (rd t159 (ji50)) < (l0_2.length : Int)
                          ·rw [if_pos c54] at H
                           have c54b0 : decide ((rd t159 (ji50)) < (l0_2.length : Int)) = true := decide_eq_true c54
                           clear c54
                           have H' := zaa.mk H
                           clear H
                           have p156 : 0 ≤ (x8_3 : Int) := of_decide_eq_true (by first | (with_reducible assumption) | assumption)
                           have q156 : x8_3 < (l1.length : Int) := of_decide_eq_true (by first | (with_reducible assumption) | assumption)
                           obtain ⟨ad156, e156, hx156_0⟩ := Kd.at_int HR1.out x8_3 p156 q156
                           cases e156
                           replace hx156_0 := (HB.out.cell (World.block_lt_of_cell? w _ hx156_0)).trans hx156_0
                           replace p156 := eq_true p156
                           replace q156 := eq_true q156
                           obtain ⟨Ao55, co55, eo55⟩ := Kd.zbt HO_7.out
                           subst eo55
                           try go_wp2
                           have n0_ := zaa.mk (Kd.zbg HO_7.out)
                           have n1_ := zaa.mk (zaj BK145.out)
                           have n2_ := zaa.mk (zaf HB.out)
                           clear HO_7;clear BK145;clear HB;have HO_7 := n0_;have BK145 := n1_;have HB := n2_;clear n0_ n1_ n2_
                           have p157 : 0 ≤ ((ji36) : Int) := of_decide_eq_true (by first | (with_reducible assumption) | assumption)
                           have q157 : (ji36) < (x7_3.length : Int) := of_decide_eq_true (by first | (with_reducible assumption) | assumption)
                           obtain ⟨ad157, e157, hx157_0⟩ := Kd.at_int (Kd.R_reads' HO_7.out).2.2 (ji36) p157 q157
                           cases e157
                           replace p157 := eq_true p157
                           replace q157 := eq_true q157
                           refine zb0 (n := 8) (S := fun w' => w'.cell? ⟨gb145, 0, none⟩ = some (.slice A0_0 l0_0.length c0_0) ∧ w'.cell? ⟨gb145, 1, none⟩ = some (.slice A0_1 l0_1.length c0_1) ∧ w'.cell? ⟨gb145, 2, none⟩ = some (.slice A0_2 l0_2.length c0_2) ∧ w'.cell? (ad157.add ((ji36)).toNat) = some (.int .i64 (rd x7_3 (ji36)))) (ds := []) #[Nf,Nf,Nf,Nf,Nf,Nf,Nf,Nf] (by kernel_rfl) rfl rfl ⟨(zac BK145.out 0).trans rfl, (zac BK145.out 1).trans rfl, (zac BK145.out 2).trans rfl, hx157_0⟩ (fun hHeld => ?_); refine with_tabW zad.tab14 zad.bits14 (fun HT_ HW_ => ?_)
                           generalize wc.drew = w56 at HO_7 BK145 HB hx157_0 hHeld ⊢
                           refine pure_ (i := 0) (N := some 67) (v := ?_) (a' := ?_) (Ymk 8 1) rfl rfl (zat HT_.out (by kernel_rfl)) (fun _ _ _ h => h) (Or.inl ⟨by rfl, ?_⟩) ?_ ?_
                           rotate_left; · intro w'; go_simp; with_reducible rfl
                           rotate_left; · simp only [Act.put, Y1, Y2, Y3, i64_w, i32_w]; rfl
                           refine pure_ (i := 1) (N := some 68) (v := ?_) (a' := ?_) (Ymk 8 3) rfl rfl (zat HT_.out (by kernel_rfl)) (fun _ _ _ h => h) (Or.inl ⟨by rfl, ?_⟩) ?_ ?_
                           rotate_left; · intro w'; go_simp; with_reducible rfl
                           rotate_left; · simp only [Act.put, Y1, Y2, Y3, i64_w, i32_w]; rfl
                           refine pure_ (i := 2) (N := some 69) (v := ?_) (a' := ?_) (Ymk 8 7) rfl rfl (zat HT_.out (by kernel_rfl)) (fun _ _ _ h => h) (Or.inl ⟨by rfl, ?_⟩) ?_ ?_
                           rotate_left; · intro w'; go_simp; with_reducible rfl
                           rotate_left; · simp only [Act.put, Y1, Y2, Y3, i64_w, i32_w]; rfl
                           refine pure_ (i := 4) (N := some 71) (v := ?_) (a' := ?_) (Ymk 8 23) rfl rfl (zat HT_.out (by kernel_rfl)) (fun _ _ _ h => h) (Or.inl ⟨by rfl, ?_⟩) ?_ ?_
                           rotate_left; · intro w'; go_simp; with_reducible rfl
                           rotate_left; · simp only [Act.put, Y1, Y2, Y3, i64_w, i32_w]; rfl
                           refine take_ (i := 3) (N := some 70) (v := ?_) (a' := ?_) (Ymk 8 31) rfl rfl (zbv HT_.out HW_.out (by kernel_rfl)) (fun _ _ _ h => h) (Or.inl ⟨by rfl, ?_⟩) hHeld ?_ ?_
                           rotate_left
                           ·rintro w' ⟨s0, s1, s2, s3⟩
                            go_simp
                            with_reducible rfl
                           rotate_left; · simp only [Act.put, Y1, Y2, Y3, i64_w, i32_w]; rfl
                           refine take_ (i := 5) (N := some 72) (v := ?_) (a' := ?_) (Ymk 8 63) rfl rfl (zbv HT_.out HW_.out (by kernel_rfl)) (fun _ _ _ h => h) (Or.inl ⟨by rfl, ?_⟩) hHeld ?_ ?_
                           rotate_left
                           ·rintro w' ⟨s0, s1, s2, s3⟩
                            go_simp
                            with_reducible rfl
                           rotate_left; · simp only [Act.put, Y1, Y2, Y3, i64_w, i32_w]; rfl
                           refine pure_ (i := 6) (N := some 73) (v := ?_) (a' := ?_) (Ymk 8 127) rfl rfl (zat HT_.out (by kernel_rfl)) (fun _ _ _ h => h) (Or.inl ⟨by rfl, ?_⟩) ?_ ?_
                           rotate_left; · intro w'; go_simp; with_reducible rfl
                           rotate_left; · simp only [Act.put, Y1, Y2, Y3, i64_w, i32_w]; rfl
                           refine pure_ (i := 7) (N := some 74) (v := ?_) (a' := ?_) (Ymk 8 255) rfl rfl (zat HT_.out (by kernel_rfl)) (fun _ _ _ h => h) (Or.inl ⟨by rfl, ?_⟩) ?_ ?_
                           rotate_left; · intro w'; go_simp; with_reducible rfl
                           rotate_left; · simp only [Act.put, Y1, Y2, Y3, i64_w, i32_w]; rfl
                           refine done_ (done_of HT_.out (by kernel_rfl)) ?_
                           try go_wp2
                           have n0_ := zaa.mk (Kd.zbg HO_7.out)
                           have n1_ := zaa.mk (zaj BK145.out)
                           have n2_ := zaa.mk (zaf HB.out)
                           clear HO_7;clear BK145;clear HB;have HO_7 := n0_;have BK145 := n1_;have HB := n2_;clear n0_ n1_ n2_
                           have p158 : 0 ≤ ((ji36) : Int) := of_decide_eq_true (by first | (with_reducible assumption) | assumption)
                           have q158 : (ji36) < (x7_3.length : Int) := of_decide_eq_true (by first | (with_reducible assumption) | assumption)
                           obtain ⟨ad158, e158, hx158_0⟩ := Kd.at_int (Kd.R_reads' HO_7.out).2.2 (ji36) p158 q158
                           obtain rfl : ad157 = ad158 := (by injection e158)
                           replace p158 := eq_true p158
                           replace q158 := eq_true q158
                           refine zb0 (n := 7) (S := fun w' => w'.cell? ⟨gb145, 0, none⟩ = some (.slice A0_0 l0_0.length c0_0) ∧ w'.cell? ⟨gb145, 1, none⟩ = some (.slice A0_1 l0_1.length c0_1) ∧ w'.cell? ⟨gb145, 2, none⟩ = some (.slice A0_2 l0_2.length c0_2) ∧ w'.cell? (ad157.add ((ji36)).toNat) = some (.int .i64 (rd x7_3 (ji36)))) (ds := []) #[Nf,Nf,Nf,Nf,Nf,Nf,Nf] (by kernel_rfl) rfl rfl ⟨(zac BK145.out 0).trans rfl, (zac BK145.out 1).trans rfl, (zac BK145.out 2).trans rfl, hx158_0⟩ (fun hHeld => ?_)
                           generalize w56.drew = w57 at HO_7 BK145 HB hx158_0 hHeld ⊢
                           refine pure_ (i := 1) (N := some 76) (v := ?_) (a' := ?_) (Ymk 7 2) rfl rfl (by kernel_rfl) (fun _ _ _ h => h) (Or.inl ⟨by rfl, ?_⟩) ?_ ?_
                           rotate_left; · intro w'; go_simp; with_reducible rfl
                           rotate_left; · simp only [Act.put, Y1, Y2, Y3, i64_w, i32_w]; rfl
                           refine pure_ (i := 2) (N := some 77) (v := ?_) (a' := ?_) (Ymk 7 6) rfl rfl (by kernel_rfl) (fun _ _ _ h => h) (Or.inl ⟨by rfl, ?_⟩) ?_ ?_
                           rotate_left; · intro w'; go_simp; with_reducible rfl
                           rotate_left; · simp only [Act.put, Y1, Y2, Y3, i64_w, i32_w]; rfl
                           refine pure_ (i := 3) (N := some 78) (v := ?_) (a' := ?_) (Ymk 7 14) rfl rfl (by kernel_rfl) (fun _ _ _ h => h) (Or.inl ⟨by rfl, ?_⟩) ?_ ?_
                           rotate_left; · intro w'; go_simp; with_reducible rfl
                           rotate_left; · simp only [Act.put, Y1, Y2, Y3, i64_w, i32_w]; rfl
                           refine take_ (i := 0) (N := some 75) (v := ?_) (a' := ?_) (Ymk 7 15) rfl rfl (by kernel_rfl) (fun _ _ _ h => h) (Or.inl ⟨by rfl, ?_⟩) hHeld ?_ ?_
                           rotate_left
                           ·rintro w' ⟨s0, s1, s2, s3⟩
                            go_simp
                            with_reducible rfl
                           rotate_left; · simp only [Act.put, Y1, Y2, Y3, i64_w, i32_w]; rfl
                           refine take_ (i := 4) (N := some 79) (v := ?_) (a' := ?_) (Ymk 7 31) rfl rfl (by kernel_rfl) (fun _ _ _ h => h) (Or.inl ⟨by rfl, ?_⟩) hHeld ?_ ?_
                           rotate_left
                           ·rintro w' ⟨s0, s1, s2, s3⟩
                            go_simp
                            with_reducible rfl
                           rotate_left; · simp only [Act.put, Y1, Y2, Y3, i64_w, i32_w]; rfl
                           refine one_ (i := 5) (N := some 80) (Ymk 7 63) rfl rfl (by kernel_rfl) (by decide) (fun K hK => ?_)
                           refine goes_ Tryz.func12 (by kernel_rfl) rfl #[.agg #[.slice A0_0 l0_0.length c0_0, .slice A0_1 l0_1.length c0_1, .slice A0_2 l0_2.length c0_2], .int .i64 (rd x7_3 (ji36))] (by rfl) rfl rfl (by (try simp only [List.map_toArray, List.map_cons, List.map_nil]); first | done | (simp only [hji36]; rfl) | rfl | (simp only [List.length_drop, List.length_take]; rfl)) ?_
                           with_reducible refine (za0.calls kj27 _ _ l0_0 _ _ l0_1 _ _ l0_2 (rd x7_3 (ji36)) t159 _ ?side1 ?side2 ?side3 ?side4 ?side5 ?side6 A42.out).mono ?_
                           (case side1 => repeat (first | exact (Kd.zax HR0_0.out HB.out) | (with_reducible refine Kd.za6 ?_ _) | (with_reducible refine Kd.za7 ?_ _) | (with_reducible refine Kd.za9 ?_)))
                           (case side2 => exact HC0_0.out)
                           (case side3 => repeat (first | exact (Kd.zax HR0_1.out HB.out) | (with_reducible refine Kd.za6 ?_ _) | (with_reducible refine Kd.za7 ?_ _) | (with_reducible refine Kd.za9 ?_)))
                           (case side4 => exact HC0_1.out)
                           (case side5 => repeat (first | exact (Kd.zax HR0_2.out HB.out) | (with_reducible refine Kd.za6 ?_ _) | (with_reducible refine Kd.za7 ?_ _) | (with_reducible refine Kd.za9 ?_)))
                           (case side6 => exact HC0_2.out)
                           rintro e w58 ⟨v160, rfl, ho0, hb⟩
                           have HS3_ := (hb.cell (World.block_lt_of_cell? _ _ (hHeld.2.2.2))).trans (hHeld.2.2.2)
                           refine ⟨_, rfl, ?_⟩
                           have n0_ := zaa.mk (Kd.R_elder' (by (with_reducible repeat (first | apply Kd.zbc | apply Kd.zbd | apply Kd.zbg)); exact HO_7.out) (Kd.R_base ho0) hb)
                           have n1_ := zaa.mk (Kd.zb1 (Kd.R_new' ho0 (Kd.R_lt (by (with_reducible repeat (first | apply Kd.zbc | apply Kd.zbd | apply Kd.zbg)); exact HO_7.out))) (zas (by repeat (first | (with_reducible first | exact HB.out | apply zah | apply zab | apply zaf | refine zal ?_ GE145.out) | exact HB.out))))
                           have n2_ := zaa.mk (zar (g := gb145) (o := .cells #[.slice A0_0 l0_0.length c0_0, .slice A0_1 l0_1.length c0_1, .slice A0_2 l0_2.length c0_2] 25 (0, 0)) (by (with_reducible repeat (first | refine zam ?_ _ | refine zaj ?_ | refine zai ?_ _)); exact BK145.out) hb)
                           have n3_ := zaa.mk (zaw (by repeat (first | (with_reducible first | exact HB.out | apply zah | apply zab | apply zaf | refine zal ?_ GE145.out) | exact HB.out)) hb)
                           clear HO_7;clear BK145;clear HB;have HO_7 := n0_;have HO161 := n1_;have BK145 := n2_;have HB := n3_;clear n0_ n1_ n2_ n3_
                           (try clear hb)
                           (try clear hb2)
                           (try clear hk)
                           (try clear hi)
                           (try clear ho0)
                           refine hK.out _ _ ⟨(zac BK145.out 0).trans rfl, (zac BK145.out 1).trans rfl, (zac BK145.out 2).trans rfl, HS3_⟩ (fun hHeld => ?_)
                           clear hK K
                           refine norm_ (a' := ?_) ?_ ?_
                           rotate_left
                           ·show Act.put _ (some 80) _ = _
                            simp only [Act.put, Y1, Y2, Y3, i64_w, i32_w]
                            rfl
                           refine pure_ (i := 6) (N := some 10) (v := ?_) (a' := ?_) (Ymk 7 127) rfl rfl (by kernel_rfl) (fun _ _ _ h => h) (Or.inl ⟨by rfl, ?_⟩) ?_ ?_
                           rotate_left; · intro w'; go_simp; with_reducible rfl
                           rotate_left; · simp only [Act.put, Y1, Y2, Y3, i64_w, i32_w]; rfl
                           refine done_ (by kernel_rfl) ?_
                           try go_wp2_with (first | ((with_reducible refine zbh (N := 81) rfl ?_); (try (refine zbk (by rfl) ?_; dsimp only)); refine Kd.R_lit (Kd.int .i64) _ 3 ?hg (N := 81) ?hd (xs := ([] : List Int)) (inner := []) (ok := fun _ => True) (okp := fun _ => True) ?hr ?hp (fun _ hk => hk) trivial (Below.refl _ _) (Nat.le_refl _) (by simp) ?_; (case hd => rfl); (case hg => rfl); (case hr => first | (go_simp; done) | (go_simp; rfl)); (case hp => exact (Reps.none _ _)); intro v163 w59 ho60 hb hg_ hnew_; clear hg_ hnew_; (first | rw [← Ny162.out] at ho60 | (simp only [Int.reduceToNat] at ho60; rw [← Ny162.out] at ho60)); have n0_ := zaa.mk (Kd.R_elder' (by (with_reducible repeat (first | apply Kd.zbc | apply Kd.zbd | apply Kd.zbg)); exact HO_7.out) (Kd.R_base ho60) hb); have n1_ := zaa.mk (Kd.R_elder' (by (with_reducible repeat (first | apply Kd.zbc | apply Kd.zbd | apply Kd.zbg)); exact HO161.out) (Kd.R_base ho60) hb); have n2_ := zaa.mk (Kd.zb1 (Kd.R_new' (Kd.R_new' ho60 (Kd.R_lt (by (with_reducible repeat (first | apply Kd.zbc | apply Kd.zbd | apply Kd.zbg)); exact HO_7.out))) (Kd.R_lt (by (with_reducible repeat (first | apply Kd.zbc | apply Kd.zbd | apply Kd.zbg)); exact HO161.out))) (zas (by repeat (first | (with_reducible first | exact HB.out | apply zah | apply zab | apply zaf | refine zal ?_ GE145.out) | exact HB.out)))); have n3_ := zaa.mk (zar (g := gb145) (o := .cells #[.slice A0_0 l0_0.length c0_0, .slice A0_1 l0_1.length c0_1, .slice A0_2 l0_2.length c0_2] 25 (0, 0)) (by (with_reducible repeat (first | refine zam ?_ _ | refine zaj ?_ | refine zai ?_ _)); exact BK145.out) hb); have n4_ := zaa.mk (zaw (by repeat (first | (with_reducible first | exact HB.out | apply zah | apply zab | apply zaf | refine zal ?_ GE145.out) | exact HB.out)) hb); clear HO_7; clear HO161; clear BK145; clear HB; have HO_7 := n0_; have HO161 := n1_; have HO164 := n2_; have BK145 := n3_; have HB := n4_; clear n0_ n1_ n2_ n3_ n4_; clear hb ho60; have q61 : ((ji36) : Int) ≤ ((x7_3.length : Int) : Int) := of_decide_eq_true (by first | (with_reducible assumption) | assumption); obtain ⟨i061, hi061, _, hsz61, _⟩ := info_parts info3; have hroom61 : x7_3.length ≤ co55 := (Kd.R_reads' HO_7.out).2.1; have hC61 : Kd.C (Kd.int .i64) _ (some ad157) x7_3.length x7_3 := (Kd.R_reads' HO_7.out).2.2; have hcut61 := cut_to (P := Tryz.prog) 35 3 .i64 Tryz.underlying35 hi061 (some ad157) x7_3.length co55 (ji36) (of_decide_eq_true (by first | (with_reducible assumption) | assumption)) q61 hroom61; have hr61 := Kd.C_take (m := ((ji36) : Int).toNat) hC61 (by omega); have hy61 : y165.length = ((ji36) : Int).toNat := (by rw [Ny165.out, List.length_take]; omega); rw [← Ny165.out] at hr61; rw [← hy61] at hcut61; have HR168 := zaa.mk hr61; have HC168 := zaa.mk (show y165.length ≤ co55 from by omega); clear hr61 hC61 hroom61 hi061 hsz61; have KY61 := zaa.mk hy61; clear hy61; have KL61 := zaa.mk (show ((ji36) : Int).toNat ≤ x7_3.length from by omega); replace q61 := eq_true q61) | ((with_reducible refine gate_builtin (b := .append) (xs := #[.tmp 81, .tmp 84]) rfl ?_); (try (refine zbk (by rfl) ?_; dsimp only)); at_builtin; refine Kd.R_append_rows (Kd.int .i64) (w0 := w) w.heap.size rfl (.tmp 81) (.tmp 84) 35 3 (.int .i64 0) 8 rfl Tryz.underlying35 info3 rfl (by decide) (by omega) v163 y162 y165 _ _ _ (fun k_ => some k_ ≠ (.slice (some ad157) x7_3.length co55 : Value).ownBlock ∧ some k_ ≠ (v160 : Value).ownBlock) (fun _ => False) rfl rfl ?aO ?aR (fun _ _ h => h) (fun _ h => h.elim) ?aF ?aB ?aS ?aL ?_; (case aR => repeat (first | exact (by repeat (first | (with_reducible exact HR168.out) | (with_reducible refine Kd.za6 ?_ _) | (with_reducible refine Kd.za7 ?_ _) | (with_reducible refine Kd.za9 ?_) | exact HR168.out)) | (with_reducible refine Kd.za6 ?_ _) | (with_reducible refine Kd.za7 ?_ _) | (with_reducible refine Kd.za9 ?_))); (case aB => exact (by repeat (first | (with_reducible first | exact HB.out | apply zah | apply zab | apply zaf | refine zal ?_ GE145.out) | exact HB.out))); (case aF => exact (fun k_ hk => ⟨Kd.fresh' (Kd.R_lt (by (with_reducible repeat (first | apply Kd.zbc | apply Kd.zbd | apply Kd.zbg)); exact HO_7.out)) k_ hk, Kd.fresh' (Kd.R_lt (by (with_reducible repeat (first | apply Kd.zbc | apply Kd.zbd | apply Kd.zbg)); exact HO161.out)) k_ hk⟩)); (case aO => exact (by (with_reducible repeat (first | apply Kd.zbc | apply Kd.zbd | apply Kd.zbg)); exact Kd.zbx HO164.out (fun _ hk => ⟨hk.1.2, hk.2⟩))); (case aS => exact (zas (by repeat (first | (with_reducible first | exact HB.out | apply zah | apply zab | apply zaf | refine zal ?_ GE145.out) | exact HB.out)))); (case aL => have := LMc45.out; omega); intro v170 w62 ho hb hg hat; rw [← Ny169.out] at ho; have n0_ := zaa.mk (Kd.R_after (ok := (fun k_ => some k_ ≠ (v160 : Value).ownBlock)) (by (with_reducible repeat (first | apply Kd.zbc | apply Kd.zbd | apply Kd.zbg)); exact Kd.zbx HO_7.out (fun _ hk => ⟨hk.1.2, hk.2⟩)) hg hat); have n1_ := zaa.mk (zcg (g := gb145) (o := .cells #[.slice A0_0 l0_0.length c0_0, .slice A0_1 l0_1.length c0_1, .slice A0_2 l0_2.length c0_2] 25 (0, 0)) (by (with_reducible repeat (first | refine zam ?_ _ | refine zaj ?_ | refine zai ?_ _)); exact BK145.out) hg (Kd.R_ne HO164.out BK145.out (by decide))); have n2_ := zaa.mk (Kd.R_after (ok := (fun k_ => some k_ ≠ (.slice (some ad157) x7_3.length co55 : Value).ownBlock)) (by (with_reducible repeat (first | apply Kd.zbc | apply Kd.zbd | apply Kd.zbg)); exact Kd.zbx HO161.out (fun _ hk => ⟨hk.1.2, hk.2⟩)) hg hat); have n3_ := zaa.mk (hb); have n4_ := zaa.mk ((show Kd.C (Kd.int .i64) w62 (some ad157) y165.length y165 from by rw [Ny165.out]; exact Kd.C_take (m := ((ji36) : Int).toNat) ((Kd.R_reads' (Kd.R_after (ok := (fun k_ => some k_ ≠ (v160 : Value).ownBlock)) (by (with_reducible repeat (first | apply Kd.zbc | apply Kd.zbd | apply Kd.zbg)); exact Kd.zbx HO_7.out (fun _ hk => ⟨hk.1.2, hk.2⟩)) hg hat)).2.2) KL61.out)); have n5_ := zaa.mk (ho); clear HO_7; clear BK145; clear HO161; clear HB; clear HR168; clear HO164; have HO_7 := n0_; have BK145 := n1_; have HO161 := n2_; have HB := n3_; have HR168 := n4_; have HO171 := n5_; clear n0_ n1_ n2_ n3_ n4_ n5_; clear ho hb hg hat))
                           have n0_ := zaa.mk (Kd.zbg HO_7.out)
                           have n1_ := zaa.mk (Kd.zbg HO161.out)
                           have n2_ := zaa.mk (Kd.zbg HO171.out)
                           have n3_ := zaa.mk (zaj BK145.out)
                           have n4_ := zaa.mk (Kd.za9 HR168.out)
                           have n5_ := zaa.mk (zaf HB.out)
                           clear HO_7;clear HO161;clear HO171;clear BK145;clear HR168;clear HB;have HO_7 := n0_;have HO161 := n1_;have HO171 := n2_;have BK145 := n3_;have HR168 := n4_;have HB := n5_;clear n0_ n1_ n2_ n3_ n4_ n5_
                           have p172 : 0 ≤ ((ji46) : Int) := of_decide_eq_true (by first | (with_reducible assumption) | assumption)
                           have q172 : (ji46) < (l1.length : Int) := of_decide_eq_true (by first | (with_reducible assumption) | assumption)
                           obtain ⟨ad172, e172, hx172_0⟩ := Kd.at_int HR1.out (ji46) p172 q172
                           have hw172_0 := hx172_0
                           obtain rfl : ad156 = ad172 := (by injection e172)
                           replace hx172_0 := (HB.out.cell (World.block_lt_of_cell? w _ hx172_0)).trans hx172_0
                           replace p172 := eq_true p172
                           replace q172 := eq_true q172
                           obtain ⟨Ao64, co64, eo64⟩ := Kd.zbt HO161.out
                           (first | subst eo64 | (injection eo64 with f1_ f2_ f3_; have f4_ := f1_.symm; have f5_ := f3_.symm; clear f1_ f2_ f3_; subst f4_; subst f5_))
                           have p173 : 0 ≤ ((ji50) : Int) := of_decide_eq_true (by first | (with_reducible assumption) | assumption)
                           have q173 : (ji50) < (t159.length : Int) := of_decide_eq_true (by first | (with_reducible assumption) | assumption)
                           obtain ⟨ad173, e173, hx173_0⟩ := Kd.at_int (Kd.R_reads' HO161.out).2.2 (ji50) p173 q173
                           cases e173
                           replace p173 := eq_true p173
                           replace q173 := eq_true q173
                           have p174 : 0 ≤ ((rd t159 (ji50)) : Int) := of_decide_eq_true (by first | (with_reducible assumption) | assumption)
                           have q174 : (rd t159 (ji50)) < (l0_2.length : Int) := of_decide_eq_true (by first | (with_reducible assumption) | assumption)
                           obtain ⟨ad174, A174_1, c174_1, e174, hx174_0, hx174_1, hx174_2, hl174_1, hi174_1⟩ := at_T42 HR0_2.out (rd t159 (ji50)) p174 q174
                           have hw174_2 := hx174_2;have hw174_1 := hx174_1;have hw174_0 := hx174_0
                           cases e174
                           replace hx174_0 := (HB.out.cell (World.block_lt_of_cell? w _ hx174_0)).trans hx174_0
                           replace hx174_1 := (HB.out.cell (World.block_lt_of_cell? w _ hx174_1)).trans hx174_1
                           replace hx174_2 := (HB.out.cell (World.block_lt_of_cell? w _ hx174_2)).trans hx174_2
                           have HR174_1 := zaa.mk hi174_1;have HC174_1 := zaa.mk hl174_1;clear hi174_1 hl174_1
                           replace p174 := eq_true p174
                           replace q174 := eq_true q174
                           refine zb0 (n := 21) (S := fun w' => w'.cell? ⟨gb145, 0, none⟩ = some (.slice A0_0 l0_0.length c0_0) ∧ w'.cell? ⟨gb145, 1, none⟩ = some (.slice A0_1 l0_1.length c0_1) ∧ w'.cell? ⟨gb145, 2, none⟩ = some (.slice (some ad174) l0_2.length c0_2) ∧ w'.cell? (ad156.add ((ji46)).toNat) = some (.int .i64 (rd l1 (ji46))) ∧ w'.cell? (ad173.add ((ji50)).toNat) = some (.int .i64 (rd t159 (ji50))) ∧ w'.cell? (ad174.add (((rd t159 (ji50))).toNat * 3)) = some (.int .i64 ((zae l0_2 (rd t159 (ji50))).f0)) ∧ w'.cell? ⟨(ad174.add (((rd t159 (ji50))).toNat * 3)).block, (ad174.add (((rd t159 (ji50))).toNat * 3)).off + 1, none⟩ = some (.slice A174_1 ((zae l0_2 (rd t159 (ji50))).f1).length c174_1) ∧ w'.cell? ⟨(ad174.add (((rd t159 (ji50))).toNat * 3)).block, (ad174.add (((rd t159 (ji50))).toNat * 3)).off + 2, none⟩ = some (.int .i64 ((zae l0_2 (rd t159 (ji50))).f2))) (ds := []) #[Nf,Nf,Nf,Nf,Nf,Nf,Nf,Nf,Nf,Nf,Nf,Nf,Nf,Nf,Nf,Nf,Nf,Nf,Nf,Nf,Nf] (by kernel_rfl) rfl rfl ⟨(zac BK145.out 0).trans rfl, (zac BK145.out 1).trans rfl, (zac BK145.out 2).trans rfl, ((HB.out.cell (World.block_lt_of_cell? w _ hw172_0)).trans hw172_0), hx173_0, ((HB.out.cell (World.block_lt_of_cell? w _ hw174_0)).trans hw174_0), ((HB.out.cell (World.block_lt_of_cell? w _ hw174_1)).trans hw174_1), ((HB.out.cell (World.block_lt_of_cell? w _ hw174_2)).trans hw174_2)⟩ (fun hHeld => ?_); refine with_tabW zad.tab17 zad.bits17 (fun HT_ HW_ => ?_)
                           generalize w62.drew = w63 at HO_7 HO161 HO171 BK145 HR168 HB HR174_1 hx172_0 hx173_0 hx174_0 hx174_1 hx174_2 hHeld ⊢
                           refine pure_ (i := 0) (N := some 86) (v := ?_) (a' := ?_) (Ymk 21 1) rfl rfl (zat HT_.out (by kernel_rfl)) (fun _ _ _ h => h) (Or.inl ⟨by rfl, ?_⟩) ?_ ?_
                           rotate_left; · intro w'; go_simp; with_reducible rfl
                           rotate_left; · simp only [Act.put, Y1, Y2, Y3, i64_w, i32_w]; rfl
                           refine pure_ (i := 2) (N := some 88) (v := ?_) (a' := ?_) (Ymk 21 5) rfl rfl (zat HT_.out (by kernel_rfl)) (fun _ _ _ h => h) (Or.inl ⟨by rfl, ?_⟩) ?_ ?_
                           rotate_left; · intro w'; go_simp; with_reducible rfl
                           rotate_left; · simp only [Act.put, Y1, Y2, Y3, i64_w, i32_w]; rfl
                           refine pure_ (i := 3) (N := some 89) (v := ?_) (a' := ?_) (Ymk 21 13) rfl rfl (zat HT_.out (by kernel_rfl)) (fun _ _ _ h => h) (Or.inl ⟨by rfl, ?_⟩) ?_ ?_
                           rotate_left; · intro w'; go_simp; with_reducible rfl
                           rotate_left; · simp only [Act.put, Y1, Y2, Y3, i64_w, i32_w]; rfl
                           refine pure_ (i := 4) (N := some 90) (v := ?_) (a' := ?_) (Ymk 21 29) rfl rfl (zat HT_.out (by kernel_rfl)) (fun _ _ _ h => h) (Or.inl ⟨by rfl, ?_⟩) ?_ ?_
                           rotate_left; · intro w'; go_simp; with_reducible rfl
                           rotate_left; · simp only [Act.put, Y1, Y2, Y3, i64_w, i32_w]; rfl
                           refine pure_ (i := 5) (N := some 91) (v := ?_) (a' := ?_) (Ymk 21 61) rfl rfl (zat HT_.out (by kernel_rfl)) (fun _ _ _ h => h) (Or.inl ⟨by rfl, ?_⟩) ?_ ?_
                           rotate_left; · intro w'; go_simp; with_reducible rfl
                           rotate_left; · simp only [Act.put, Y1, Y2, Y3, i64_w, i32_w]; rfl
                           refine pure_ (i := 6) (N := some 92) (v := ?_) (a' := ?_) (Ymk 21 125) rfl rfl (zat HT_.out (by kernel_rfl)) (fun _ _ _ h => h) (Or.inl ⟨by rfl, ?_⟩) ?_ ?_
                           rotate_left; · intro w'; go_simp; with_reducible rfl
                           rotate_left; · simp only [Act.put, Y1, Y2, Y3, i64_w, i32_w]; rfl
                           refine pure_ (i := 9) (N := some 95) (v := ?_) (a' := ?_) (Ymk 21 637) rfl rfl (zat HT_.out (by kernel_rfl)) (fun _ _ _ h => h) (Or.inl ⟨by rfl, ?_⟩) ?_ ?_
                           rotate_left; · intro w'; go_simp; with_reducible rfl
                           rotate_left; · simp only [Act.put, Y1, Y2, Y3, i64_w, i32_w]; rfl
                           refine pure_ (i := 10) (N := some 96) (v := ?_) (a' := ?_) (Ymk 21 1661) rfl rfl (zat HT_.out (by kernel_rfl)) (fun _ _ _ h => h) (Or.inl ⟨by rfl, ?_⟩) ?_ ?_
                           rotate_left; · intro w'; go_simp; with_reducible rfl
                           rotate_left; · simp only [Act.put, Y1, Y2, Y3, i64_w, i32_w]; rfl
                           refine pure_ (i := 11) (N := some 97) (v := ?_) (a' := ?_) (Ymk 21 3709) rfl rfl (zat HT_.out (by kernel_rfl)) (fun _ _ _ h => h) (Or.inl ⟨by rfl, ?_⟩) ?_ ?_
                           rotate_left; · intro w'; go_simp; with_reducible rfl
                           rotate_left; · simp only [Act.put, Y1, Y2, Y3, i64_w, i32_w]; rfl
                           refine pure_ (i := 20) (N := some 106) (v := ?_) (a' := ?_) (Ymk 21 1052285) rfl rfl (zat HT_.out (by kernel_rfl)) (fun _ _ _ h => h) (Or.inl ⟨by rfl, ?_⟩) ?_ ?_
                           rotate_left; · intro w'; go_simp; with_reducible rfl
                           rotate_left; · simp only [Act.put, Y1, Y2, Y3, i64_w, i32_w]; rfl
                           refine take_ (i := 1) (N := some 87) (v := ?_) (a' := ?_) (Ymk 21 1052287) rfl rfl (zbv HT_.out HW_.out (by kernel_rfl)) (fun _ _ _ h => h) (Or.inl ⟨by rfl, ?_⟩) hHeld ?_ ?_
                           rotate_left
                           ·rintro w' ⟨s0, s1, s2, s3, s4, s5, s6, s7⟩
                            go_simp
                            with_reducible rfl
                           rotate_left; · simp only [Act.put, Y1, Y2, Y3, i64_w, i32_w]; rfl
                           refine take_ (i := 7) (N := some 93) (v := ?_) (a' := ?_) (Ymk 21 1052415) rfl rfl (zbv HT_.out HW_.out (by kernel_rfl)) (fun _ _ _ h => h) (Or.inl ⟨by rfl, ?_⟩) hHeld ?_ ?_
                           rotate_left
                           ·rintro w' ⟨s0, s1, s2, s3, s4, s5, s6, s7⟩
                            go_simp
                            with_reducible rfl
                           rotate_left; · simp only [Act.put, Y1, Y2, Y3, i64_w, i32_w]; rfl
                           refine pure_ (i := 8) (N := some 94) (v := ?_) (a' := ?_) (Ymk 21 1052671) rfl rfl (zat HT_.out (by kernel_rfl)) (fun _ _ _ h => h) (Or.inl ⟨by rfl, ?_⟩) ?_ ?_
                           rotate_left; · intro w'; go_simp; with_reducible rfl
                           rotate_left; · simp only [Act.put, Y1, Y2, Y3, i64_w, i32_w]; rfl
                           refine pure_ (i := 12) (N := some 98) (v := ?_) (a' := ?_) (Ymk 21 1056767) rfl rfl (zat HT_.out (by kernel_rfl)) (fun _ _ _ h => h) (Or.inl ⟨by rfl, ?_⟩) ?_ ?_
                           rotate_left; · intro w'; go_simp; with_reducible rfl
                           rotate_left; · simp only [Act.put, Y1, Y2, Y3, i64_w, i32_w]; rfl
                           refine pure_ (i := 13) (N := some 99) (v := ?_) (a' := ?_) (Ymk 21 1064959) rfl rfl (zat HT_.out (by kernel_rfl)) (fun _ _ _ h => h) (Or.inl ⟨by rfl, ?_⟩) ?_ ?_
                           rotate_left; · intro w'; go_simp; with_reducible rfl
                           rotate_left; · simp only [Act.put, Y1, Y2, Y3, i64_w, i32_w]; rfl
                           refine pure_ (i := 14) (N := some 100) (v := ?_) (a' := ?_) (Ymk 21 1081343) rfl rfl (zat HT_.out (by kernel_rfl)) (fun _ _ _ h => h) (Or.inl ⟨by rfl, ?_⟩) ?_ ?_
                           rotate_left; · intro w'; go_simp; with_reducible rfl
                           rotate_left; · simp only [Act.put, Y1, Y2, Y3, i64_w, i32_w]; rfl
                           refine take_ (i := 15) (N := some 101) (v := ?_) (a' := ?_) (Ymk 21 1114111) rfl rfl (zbv HT_.out HW_.out (by kernel_rfl)) (fun _ _ _ h => h) (Or.inl ⟨by rfl, ?_⟩) hHeld ?_ ?_
                           rotate_left
                           ·rintro w' ⟨s0, s1, s2, s3, s4, s5, s6, s7⟩
                            go_simp
                            with_reducible rfl
                           rotate_left; · simp only [Act.put, Y1, Y2, Y3, i64_w, i32_w]; rfl
                           refine pure_ (i := 16) (N := some 102) (v := ?_) (a' := ?_) (Ymk 21 1179647) rfl rfl (zat HT_.out (by kernel_rfl)) (fun _ _ _ h => h) (Or.inl ⟨by rfl, ?_⟩) ?_ ?_
                           rotate_left; · intro w'; go_simp; with_reducible rfl
                           rotate_left; · simp only [Act.put, Y1, Y2, Y3, i64_w, i32_w]; rfl
                           refine pure_ (i := 17) (N := some 103) (v := ?_) (a' := ?_) (Ymk 21 1310719) rfl rfl (zat HT_.out (by kernel_rfl)) (fun _ _ _ h => h) (Or.inl ⟨by rfl, ?_⟩) ?_ ?_
                           rotate_left; · intro w'; go_simp; with_reducible rfl
                           rotate_left; · simp only [Act.put, Y1, Y2, Y3, i64_w, i32_w]; rfl
                           refine take_ (i := 18) (N := some 104) (v := ?_) (a' := ?_) (Ymk 21 1572863) rfl rfl (zbv HT_.out HW_.out (by kernel_rfl)) (fun _ _ _ h => h) (Or.inl ⟨by rfl, ?_⟩) hHeld ?_ ?_
                           rotate_left
                           ·rintro w' ⟨s0, s1, s2, s3, s4, s5, s6, s7⟩
                            go_simp
                            with_reducible rfl
                           rotate_left; · simp only [Act.put, Y1, Y2, Y3, i64_w, i32_w]; rfl
                           refine pure_ (i := 19) (N := some 105) (v := ?_) (a' := ?_) (Ymk 21 2097151) rfl rfl (zat HT_.out (by kernel_rfl)) (fun _ _ _ h => h) (Or.inl ⟨by rfl, ?_⟩) ?_ ?_
                           rotate_left; · intro w'; go_simp; with_reducible rfl
                           rotate_left; · simp only [Act.put, Y1, Y2, Y3, i64_w, i32_w]; rfl
                           refine done_ (done_of HT_.out (by kernel_rfl)) ?_
                           try go_wp2
                           go_loopg [11, 106] kj27 (fun kq v11 v106 w' => ∃ (x11_5 : List Int) (x106_5 : Int), v106 = .int .i64 x106_5 ∧ zaa (zad.l2 kq l1 x8_3 x11_5 ((zae l0_2 (rd t159 (ji50))).f1) (((zae l0_2 (rd t159 (ji50))).f1).length : Int) x106_5 l0_0 l0_1 l0_2 = some r) ∧ zaa (kq ≤ kj27) ∧ zaa (Kd.R (Kd.int .i64) 3 w' w.heap.size (fun _ => True) v11 x11_5) ∧ zaa (w'.heap[gb145]? = some (.cells #[(.slice A0_0 l0_0.length c0_0), (.slice A0_1 l0_1.length c0_1), (.slice (some ad174) l0_2.length c0_2)] 25 (0, 0))) ∧ zaa (Below w.heap.size w w'))
                           case atStart => exact ⟨(y169), (0), (by first | rfl | (simp; done) | (simp [*]; done)), H', ⟨Nat.le_refl _⟩, ⟨by (with_reducible repeat (first | apply Kd.zbc | apply Kd.zbd | apply Kd.zbg)); exact Kd.zbx HO171.out (fun _ hk => trivial)⟩, ⟨by (with_reducible repeat (first | refine zam ?_ _ | refine zaj ?_ | refine zai ?_ _)); exact BK145.out⟩, ⟨by repeat (first | (with_reducible first | exact HB.out | apply zah | apply zab | apply zaf | refine zal ?_ GE145.out) | exact HB.out)⟩⟩
                           case round =>
                            clear H';(try clear c1);(try clear p1);(try clear q1);(try clear hx1);(try clear p2);(try clear c3);(try clear c4);(try clear c5);(try clear p6);(try clear q6);(try clear c12);(try clear p15);(try clear q15);(try clear hx15);(try clear c17);(try clear p17);(try clear q17);(try clear hx17);(try clear c38);(try clear c38b0);(try clear c39);(try clear c39b0);(try clear c43);(try clear c43b0);(try clear c44);(try clear c44b0);(try clear c44b1);(try clear c45);(try clear c47);(try clear c47b0);(try clear c48);(try clear c48b0);(try clear c49);(try clear c49b0);(try clear c49b1);(try clear c51);(try clear c51b0);(try clear c52);(try clear c52b0);(try clear c53);(try clear c53b0);(try clear c54);(try clear c54b0);(try clear q61);(try clear p64);(try clear hx156_0);(try clear hx157_0);(try clear hx158_0);(try clear hx172_0);(try clear hx173_0);(try clear hx174_0);(try clear hx174_1);(try clear hx174_2);(try clear p156);(try clear p157);(try clear p158);(try clear p172);(try clear p173);(try clear p174);(try clear q156);(try clear q157);(try clear q158);(try clear q172);(try clear q173);(try clear q174);(try clear q61)
                            obtain ⟨x11_5, x106_5, rfl, HA, HK5, HO_11, BK145, HB⟩ := hrel
                            cases gk with
                            | zero => exact absurd HA.out (by simp [zad.l2])
                            | succ k5 =>
                             have H := HA.out;clear HA
                             simp only [zad.l2] at H
                             by_cases c65 : x106_5 < (((zae l0_2 (rd t159 (ji50))).f1).length : Int)
                             ·rw [if_pos c65] at H
                              have c65b0 : decide (x106_5 < (((zae l0_2 (rd t159 (ji50))).f1).length : Int)) = true := decide_eq_true c65
                              clear c65
                              by_cases c66 : 0 ≤ x106_5
                              ·rw [if_pos c66] at H
                               have c66b0 : decide (0 ≤ x106_5) = true := decide_eq_true c66
                               clear c66
                               by_cases c67 : x106_5 < (((zae l0_2 (rd t159 (ji50))).f1).length : Int)
                               ·rw [if_pos c67] at H
                                have c67b0 : decide (x106_5 < (((zae l0_2 (rd t159 (ji50))).f1).length : Int)) = true := decide_eq_true c67
                                clear c67
                                by_cases c68 : x11_5.length < 17592186044416
                                ·rw [if_pos c68] at H
                                 have LMc68 := zaa.mk c68;clear c68
                                 obtain ⟨y177, hy177⟩ : ∃ y_ : List Int, y_ = (x11_5 ++ [(zba ((zae l0_2 (rd t159 (ji50))).f1) x106_5).f0]) := ⟨_, rfl⟩
                                 replace H : (zad.l2 k5 l1 x8_3 y177 ((zae l0_2 (rd t159 (ji50))).f1) (((zae l0_2 (rd t159 (ji50))).f1).length : Int) (wrap64 (x106_5 + 1)) l0_0 l0_1 l0_2) = some r := by first | (rw [hy177]; with_reducible exact H) | (have H2_ := (Option.bind_some _ _).symm.trans H; rw [hy177]; with_reducible exact H2_) | (have H2_ := (Option.bind_some _ _).symm.trans H; with_reducible exact H2_) | with_reducible exact H | (rw [hy177]; exact H) | exact H
                                 have Ny177 := zaa.mk hy177;clear hy177
                                 have H' := zaa.mk H
                                 clear H
                                 have p175 : 0 ≤ (x106_5 : Int) := of_decide_eq_true (by first | (with_reducible assumption) | assumption)
                                 have q175 : x106_5 < (((zae l0_2 (rd t159 (ji50))).f1).length : Int) := of_decide_eq_true (by first | (with_reducible assumption) | assumption)
                                 obtain ⟨ad175, e175, hx175_0, hx175_1, hx175_2⟩ := at_T44 HR174_1.out x106_5 p175 q175
                                 cases e175
                                 replace hx175_0 := (HB.out.cell (World.block_lt_of_cell? w _ hx175_0)).trans hx175_0
                                 replace hx175_1 := (HB.out.cell (World.block_lt_of_cell? w _ hx175_1)).trans hx175_1
                                 replace hx175_2 := (HB.out.cell (World.block_lt_of_cell? w _ hx175_2)).trans hx175_2
                                 replace p175 := eq_true p175
                                 replace q175 := eq_true q175
                                 go_wp2_with (first | ((with_reducible refine zbh (N := 13) rfl ?_); (try (refine zbk (by rfl) ?_; dsimp only)); refine zbe ?hg (N := 13) ?hd (cs := #[.int .i64 0, .string (⟨#[]⟩ : ByteArray), .string (⟨#[]⟩ : ByteArray)]) (t := 44) ?hr ?_; (case hd => rfl); (case hg => rfl); (case hr => first | (go_simp; done) | (go_simp; rfl)); intro gb176 hg w69 hbox hb; have n0_ := zaa.mk (Kd.zbq (by (with_reducible repeat (first | apply Kd.zbc | apply Kd.zbd | apply Kd.zbg)); exact HO_11.out) hb); have n1_ := zaa.mk (zar (g := gb145) (o := .cells #[.slice A0_0 l0_0.length c0_0, .slice A0_1 l0_1.length c0_1, .slice (some ad174) l0_2.length c0_2] 25 (0, 0)) (by (with_reducible repeat (first | refine zam ?_ _ | refine zaj ?_ | refine zai ?_ _)); exact BK145.out) hb); have n2_ := zaa.mk (zaw (by repeat (first | (with_reducible first | exact HB.out | apply zah | apply zab | apply zaf | refine zal ?_ GE145.out) | exact HB.out)) hb); have n3_ := zaa.mk (hbox); have n4_ := zaa.mk ((by rw [hg]; exact (zas (by repeat (first | (with_reducible first | exact HB.out | apply zah | apply zab | apply zaf | refine zal ?_ GE145.out) | exact HB.out))) : w.heap.size ≤ gb176)); have n5_ := zaa.mk ((by rw [hg]; exact (zas (by repeat (first | (with_reducible first | exact HB.out | apply zah | apply zab | apply zaf | refine zal ?_ GE145.out) | exact HB.out))) : w.heap.size ≤ gb176)); have n6_ := zaa.mk ((by rw [hg]; exact Nat.ne_of_lt (zav (g := gb145) (o := .cells #[.slice A0_0 l0_0.length c0_0, .slice A0_1 l0_1.length c0_1, .slice (some ad174) l0_2.length c0_2] 25 (0, 0)) (by (with_reducible repeat (first | refine zam ?_ _ | refine zaj ?_ | refine zai ?_ _)); exact BK145.out)) : gb145 ≠ gb176)); have n7_ := zaa.mk ((by rw [hg]; exact Nat.ne_of_gt (zav (g := gb145) (o := .cells #[.slice A0_0 l0_0.length c0_0, .slice A0_1 l0_1.length c0_1, .slice (some ad174) l0_2.length c0_2] 25 (0, 0)) (by (with_reducible repeat (first | refine zam ?_ _ | refine zaj ?_ | refine zai ?_ _)); exact BK145.out)) : gb176 ≠ gb145)); clear HO_11; clear BK145; clear HB; have HO_11 := n0_; have BK145 := n1_; have HB := n2_; have BK176 := n3_; have GW176 := n4_; have GE176 := n5_; have NB145_176 := n6_; have NB176_145 := n7_; clear n0_ n1_ n2_ n3_ n4_ n5_ n6_ n7_; clear hb hbox hg; have hnb70 := NB176_145.out; have hnc70 := NB145_176.out; have hcz71_0 : w69.cell? ⟨gb176, 0, none⟩ = some (.int .i64 0) := (zac BK176.out 0).trans rfl; have hcz71_1 : w69.cell? ⟨gb176, 1, none⟩ = some (.string (⟨#[]⟩ : ByteArray)) := (zac BK176.out 1).trans rfl; have hcz71_2 : w69.cell? ⟨gb176, 2, none⟩ = some (.string (⟨#[]⟩ : ByteArray)) := (zac BK176.out 2).trans rfl; have hfz71_0 := zak BK176.out 0; have hfz71_1 := zak BK176.out 1; have hfz71_2 := zak BK176.out 2) | ((with_reducible refine gate_builtin (b := .append) (xs := #[.tmp 110, .tmp 113]) rfl ?_); (try (refine zbk (by rfl) ?_; dsimp only)); at_builtin; refine Kd.R_append (Kd.int .i64) (w0 := w) w.heap.size rfl (.tmp 110) (.tmp 113) 35 3 (.int .i64 0) 8 rfl Tryz.underlying35 info3 rfl (by decide) (by omega) u11 x11_5 ((zba ((zae l0_2 (rd t159 (ji50))).f1) x106_5).f0) [.int .i64 ((zba ((zae l0_2 (rd t159 (ji50))).f1) x106_5).f0)] (fun _ => True) (fun _ => False) rfl (by first | (go_simp; done) | (go_simp; rfl)) ?aP (fun _ hk => hk.elim) ?aF ?aO ?aB ?aS ?aL ?_; (case aP => exact rfl); (case aB => exact (by repeat (first | (with_reducible first | exact HB.out | apply zah | apply zab | apply zaf | refine zal ?_ GE145.out | refine zal ?_ GE176.out) | exact HB.out))); (case aF => exact (fun _ _ => trivial)); (case aO => exact (by (with_reducible repeat (first | apply Kd.zbc | apply Kd.zbd | apply Kd.zbg)); exact Kd.zbx (Kd.R_far (p := ⟨gb176, 2, none⟩) (Kd.R_far (p := ⟨gb176, 1, none⟩) (Kd.R_far (p := ⟨gb176, 0, none⟩) (Kd.R_types HO_11.out BK176.out (by decide)) (fun _ hk => hk.2) (.int .i64 ((zba ((zae l0_2 (rd t159 (ji50))).f1) x106_5).f0))) (fun _ hk => hk.2) (.string ((zba ((zae l0_2 (rd t159 (ji50))).f1) x106_5).f1))) (fun _ hk => hk.2) (.string ((zba ((zae l0_2 (rd t159 (ji50))).f1) x106_5).f2))) (fun _ hk => trivial))); (case aS => exact (zas (by repeat (first | (with_reducible first | exact HB.out | apply zah | apply zab | apply zaf | refine zal ?_ GE145.out | refine zal ?_ GE176.out) | exact HB.out)))); (case aL => have := LMc68.out; omega); intro v178 w72 ho hb hg hat; rw [← Ny177.out] at ho; have n0_ := zaa.mk (zcg (g := gb145) (o := .cells #[.slice A0_0 l0_0.length c0_0, .slice A0_1 l0_1.length c0_1, .slice (some ad174) l0_2.length c0_2] 25 (0, 0)) (by (with_reducible repeat (first | refine zam ?_ _ | refine zaj ?_ | refine zai ?_ _)); refine zbl ?_ NB145_176.out _; (with_reducible repeat (first | refine zam ?_ _ | refine zaj ?_ | refine zai ?_ _)); refine zbl ?_ NB145_176.out _; (with_reducible repeat (first | refine zam ?_ _ | refine zaj ?_ | refine zai ?_ _)); refine zbl ?_ NB145_176.out _; (with_reducible repeat (first | refine zam ?_ _ | refine zaj ?_ | refine zai ?_ _)); exact BK145.out) hg (Kd.R_ne HO_11.out BK145.out (by decide))); have n1_ := zaa.mk (zcg (g := gb176) (o := .cells #[.int .i64 ((zba ((zae l0_2 (rd t159 (ji50))).f1) x106_5).f0), .string ((zba ((zae l0_2 (rd t159 (ji50))).f1) x106_5).f1), .string ((zba ((zae l0_2 (rd t159 (ji50))).f1) x106_5).f2)] 44 (0, 0)) (by (with_reducible repeat (first | refine zam ?_ _ | refine zaj ?_ | refine zai ?_ _)); refine zbn (cs := #[.int .i64 ((zba ((zae l0_2 (rd t159 (ji50))).f1) x106_5).f0), .string ((zba ((zae l0_2 (rd t159 (ji50))).f1) x106_5).f1), .string (⟨#[]⟩ : ByteArray)]) ?_ 2 _ rfl; (with_reducible repeat (first | refine zam ?_ _ | refine zaj ?_ | refine zai ?_ _)); refine zbn (cs := #[.int .i64 ((zba ((zae l0_2 (rd t159 (ji50))).f1) x106_5).f0), .string (⟨#[]⟩ : ByteArray), .string (⟨#[]⟩ : ByteArray)]) ?_ 1 _ rfl; (with_reducible repeat (first | refine zam ?_ _ | refine zaj ?_ | refine zai ?_ _)); refine zbn (cs := #[.int .i64 0, .string (⟨#[]⟩ : ByteArray), .string (⟨#[]⟩ : ByteArray)]) ?_ 0 _ rfl; (with_reducible repeat (first | refine zam ?_ _ | refine zaj ?_ | refine zai ?_ _)); exact BK176.out) hg (Kd.R_ne HO_11.out BK176.out (by decide))); have n2_ := zaa.mk (hb); have n3_ := zaa.mk (ho); clear BK145; clear BK176; clear HB; clear HO_11; have BK145 := n0_; have BK176 := n1_; have HB := n2_; have HO179 := n3_; clear n0_ n1_ n2_ n3_; clear ho hb hg hat))
                                 go_roundg k5
                                 case measure => have := HJ2.out; have := HK2.out; have := HK3.out; have := HJ27.out; have := HK5.out; omega
                                 case rel => exact ⟨(y177), (wrap64 (x106_5 + 1)), (by first | rfl | (simp; done) | (simp [*]; done)), H', ⟨by have := HJ2.out; have := HK2.out; have := HK3.out; have := HJ27.out; have := HK5.out; omega⟩, ⟨by (with_reducible repeat (first | apply Kd.zbc | apply Kd.zbd | apply Kd.zbg)); exact HO179.out⟩, ⟨by (with_reducible repeat (first | refine zam ?_ _ | refine zaj ?_ | refine zai ?_ _)); exact BK145.out⟩, ⟨by repeat (first | (with_reducible first | exact HB.out | apply zah | apply zab | apply zaf | refine zal ?_ GE145.out | refine zal ?_ GE176.out) | exact HB.out)⟩⟩
                                ·rw [if_neg c68] at H
                                 exact absurd H (by simp)
                               ·rw [if_neg c67] at H
                                exact absurd H (by simp)
                              ·rw [if_neg c66] at H
                               exact absurd H (by simp)
                             ·rw [if_neg c65] at H
                              have c65b0 : decide (x106_5 < (((zae l0_2 (rd t159 (ji50))).f1).length : Int)) = false := decide_eq_false c65
                              clear c65
                              have H' := zaa.mk H
                              clear H;go_wp2
                              go_roundg k5
                              case measure => have := HJ2.out; have := HK2.out; have := HK3.out; have := HJ27.out; have := HK5.out; omega
                              case rel => exact ⟨(x11_5), (wrap64 (x8_3 + 2)), (by first | rfl | (simp; done) | (simp [*]; done)), H', ⟨by have := HJ2.out; have := HK2.out; have := HK3.out; have := HJ27.out; have := HK5.out; omega⟩, ⟨by (with_reducible repeat (first | apply Kd.zbc | apply Kd.zbd | apply Kd.zbg)); exact HO_11.out⟩, ⟨by (with_reducible repeat (first | refine zam ?_ _ | refine zaj ?_ | refine zai ?_ _)); exact BK145.out⟩, ⟨by repeat (first | (with_reducible first | exact HB.out | apply zah | apply zab | apply zaf | refine zal ?_ GE145.out) | exact HB.out)⟩⟩
                          ·rw [if_neg c54] at H
                           exact absurd H (by simp)
                         ·rw [if_neg c53] at H
                          exact absurd H (by simp)
                        ·rw [if_neg c52] at H
                         exact absurd H (by simp)
                       ·rw [if_neg c51] at H
                        exact absurd H (by simp)
                     ·rw [if_neg c48] at H
                      exact absurd H (by simp)
                    ·rw [if_neg c47] at H
                     exact absurd H (by simp)
                   ·rw [if_neg c45] at H
                    exact absurd H (by simp)
                  ·rw [if_neg c44] at H
                   exact absurd H (by simp)
                ·rw [if_neg c38] at H
                 exact absurd H (by simp)
               ·rw [if_neg c37] at H
                exact absurd H (by simp)
             ·rw [if_neg c34] at H
              exact absurd H (by simp)
            ·rw [if_neg c33] at H
             exact absurd H (by simp)
           ·replace c32 := Bool.eq_false_iff.mpr c32
            subst c32
            have H1 : (if (x7_3.length : Int) > 40 then ((zbm.f).bind fun t180 => (some t180)) else ((zbp.f kj27 l0_0 l0_1 l0_2).bind fun t181 => (zad.l3 kj27 t181 x7_3 (x7_3.length : Int) 0 l0_0 l0_1 l0_2))) = some r := by rw [if_neg (show ¬ (false = true) by decide)] at H; exact H
            clear H;have H := H1;clear H1
            by_cases c73 : (x7_3.length : Int) > 40
            ·rw [if_pos c73] at H
             have c73b0 : decide (40 < (x7_3.length : Int)) = true := decide_eq_true c73
             have c73b1 : decide (40 < x7_3.length) = true := decide_eq_true (by omega)
             clear c73;replace H := Option.bind_eq_some_iff.mp H
             obtain ⟨t180, A740, H⟩ := H
             replace H : (some t180) = some r := H
             have A74 := zaa.mk A740;clear A740;obtain rfl := Option.some.inj H
             obtain ⟨Ao75, co75, eo75⟩ := Kd.zbt HO_7.out
             subst eo75
             go_wp2_with (first | ((with_reducible refine zbo (f := 7) rfl ?_); refine zb9 (some 120) rfl rfl Tryz.func7 (by kernel_rfl) rfl #[] rfl (by (try simp only [List.map_toArray, List.map_cons, List.map_nil]); first | done | rfl | (simp only [List.length_drop, List.length_take]; rfl)) ?_; (with_reducible refine (zbm.calls  t180 _ A74.out).mono ?_); rintro e w76 ⟨rfl, hb⟩; refine ⟨_, rfl, ?_⟩; have n0_ := zaa.mk (Kd.zbq (by (with_reducible repeat (first | apply Kd.zbc | apply Kd.zbd | apply Kd.zbg)); exact HO_7.out) hb); have n1_ := zaa.mk (zar (g := gb145) (o := .cells #[.slice A0_0 l0_0.length c0_0, .slice A0_1 l0_1.length c0_1, .slice A0_2 l0_2.length c0_2] 25 (0, 0)) (by (with_reducible repeat (first | refine zam ?_ _ | refine zaj ?_ | refine zai ?_ _)); exact BK145.out) hb); have n2_ := zaa.mk (zaw (by repeat (first | (with_reducible first | exact HB.out | apply zah | apply zab | apply zaf | refine zal ?_ GE145.out) | exact HB.out)) hb); clear HO_7; clear BK145; clear HB; have HO_7 := n0_; have BK145 := n1_; have HB := n2_; clear n0_ n1_ n2_; (try clear hb); (try clear hb2); (try clear hk); (try clear hi)))
             go_ret
             exact ⟨by first | rfl | (simp [za2, za3] <;> rfl) | (simp [*, za2, za3] <;> rfl), by repeat (first | (with_reducible first | exact HB.out | apply zah | apply zab | apply zaf | refine zal ?_ GE145.out) | exact HB.out)⟩
            ·rw [if_neg c73] at H
             have c73b0 : decide (40 < (x7_3.length : Int)) = false := decide_eq_false c73
             have c73b1 : decide (40 < x7_3.length) = false := decide_eq_false (by omega)
             clear c73;replace H := Option.bind_eq_some_iff.mp H
             obtain ⟨t181, A770, H⟩ := H
             replace H : (zad.l3 kj27 t181 x7_3 (x7_3.length : Int) 0 l0_0 l0_1 l0_2) = some r := H
             have A77 := zaa.mk A770;clear A770
             have H' := zaa.mk H
             clear H
             obtain ⟨Ao78, co78, eo78⟩ := Kd.zbt HO_7.out
             subst eo78
             have hcz79_0 : wc.cell? ⟨gb145, 0, none⟩ = some (.slice A0_0 l0_0.length c0_0) := (zac BK145.out 0).trans rfl
             have hcz79_1 : wc.cell? ⟨gb145, 1, none⟩ = some (.slice A0_1 l0_1.length c0_1) := (zac BK145.out 1).trans rfl
             have hcz79_2 : wc.cell? ⟨gb145, 2, none⟩ = some (.slice A0_2 l0_2.length c0_2) := (zac BK145.out 2).trans rfl
             have hfz79_0 := zak BK145.out 0
             have hfz79_1 := zak BK145.out 1
             have hfz79_2 := zak BK145.out 2
             go_wp2_with (first | ((with_reducible refine zbo (f := 13) rfl ?_); refine zb9 (some 122) rfl rfl Tryz.func13 (by kernel_rfl) rfl #[.agg #[.slice A0_0 l0_0.length c0_0, .slice A0_1 l0_1.length c0_1, .slice A0_2 l0_2.length c0_2]] rfl (by (try simp only [List.map_toArray, List.map_cons, List.map_nil]); first | done | rfl | (simp only [List.length_drop, List.length_take]; rfl)) ?_; (with_reducible refine (zbp.calls kj27 _ _ l0_0 _ _ l0_1 _ _ l0_2 t181 _ ?side1 ?side2 ?side3 ?side4 ?side5 ?side6 A77.out).mono ?_); (case side1 => repeat (first | exact (Kd.zax HR0_0.out HB.out) | (with_reducible refine Kd.za6 ?_ _) | (with_reducible refine Kd.za7 ?_ _) | (with_reducible refine Kd.za9 ?_))); (case side2 => exact HC0_0.out); (case side3 => repeat (first | exact (Kd.zax HR0_1.out HB.out) | (with_reducible refine Kd.za6 ?_ _) | (with_reducible refine Kd.za7 ?_ _) | (with_reducible refine Kd.za9 ?_))); (case side4 => exact HC0_1.out); (case side5 => repeat (first | exact (Kd.zax HR0_2.out HB.out) | (with_reducible refine Kd.za6 ?_ _) | (with_reducible refine Kd.za7 ?_ _) | (with_reducible refine Kd.za9 ?_))); (case side6 => exact HC0_2.out); rintro e w80 ⟨v182, rfl, ho0, hb⟩; refine ⟨_, rfl, ?_⟩; have n0_ := zaa.mk (Kd.zbq (by (with_reducible repeat (first | apply Kd.zbc | apply Kd.zbd | apply Kd.zbg)); exact HO_7.out) hb); have n1_ := zaa.mk (Kd.zb1 ho0 (zas (by repeat (first | (with_reducible first | exact HB.out | apply zah | apply zab | apply zaf | refine zal ?_ GE145.out) | exact HB.out)))); have n2_ := zaa.mk (zar (g := gb145) (o := .cells #[.slice A0_0 l0_0.length c0_0, .slice A0_1 l0_1.length c0_1, .slice A0_2 l0_2.length c0_2] 25 (0, 0)) (by (with_reducible repeat (first | refine zam ?_ _ | refine zaj ?_ | refine zai ?_ _)); exact BK145.out) hb); have n3_ := zaa.mk (zaw (by repeat (first | (with_reducible first | exact HB.out | apply zah | apply zab | apply zaf | refine zal ?_ GE145.out) | exact HB.out)) hb); clear HO_7; clear BK145; clear HB; have HO_7 := n0_; have HO183 := n1_; have BK145 := n2_; have HB := n3_; clear n0_ n1_ n2_ n3_; (try clear hb); (try clear hb2); (try clear hk); (try clear hi); (try clear ho0)))
             go_loopg [14, 125] kj27 (fun kq v14 v125 w' => ∃ (x14_5 : List (S50)) (x125_5 : Int), v125 = .int .i64 x125_5 ∧ zaa (zad.l3 kq x14_5 x7_3 (x7_3.length : Int) x125_5 l0_0 l0_1 l0_2 = some r) ∧ zaa (kq ≤ kj27) ∧ zaa (Kd.R k50 50 w' w.heap.size (fun _ => True) v14 x14_5) ∧ zaa (Kd.R (Kd.int .i64) 3 w' w.heap.size (fun _ => True) (.slice Ao78 x7_3.length co78) x7_3) ∧ zaa (w'.heap[gb145]? = some (.cells #[(.slice A0_0 l0_0.length c0_0), (.slice A0_1 l0_1.length c0_1), (.slice A0_2 l0_2.length c0_2)] 25 (0, 0))) ∧ zaa (Below w.heap.size w w'))
             case atStart => exact ⟨(t181), (0), (by first | rfl | (simp; done) | (simp [*]; done)), H', ⟨Nat.le_refl _⟩, ⟨by (with_reducible repeat (first | apply Kd.zbc | apply Kd.zbd | apply Kd.zbg)); exact HO183.out⟩, ⟨by (with_reducible repeat (first | apply Kd.zbc | apply Kd.zbd | apply Kd.zbg)); exact HO_7.out⟩, ⟨by (with_reducible repeat (first | refine zam ?_ _ | refine zaj ?_ | refine zai ?_ _)); exact BK145.out⟩, ⟨by repeat (first | (with_reducible first | exact HB.out | apply zah | apply zab | apply zaf | refine zal ?_ GE145.out) | exact HB.out)⟩⟩
             case round =>
              clear H';(try clear c1);(try clear p1);(try clear q1);(try clear hx1);(try clear p2);(try clear c3);(try clear c4);(try clear c5);(try clear c6);(try clear p6);(try clear q6);(try clear c7);(try clear c12);(try clear c13);(try clear p15);(try clear q15);(try clear hx15);(try clear c17);(try clear p17);(try clear q17);(try clear hx17);(try clear c32);(try clear c33);(try clear c34);(try clear c37);(try clear c38);(try clear c38b0);(try clear c39);(try clear c39b0);(try clear c43);(try clear c43b0);(try clear c44);(try clear c44b0);(try clear c44b1);(try clear c45);(try clear c47);(try clear c47b0);(try clear c48);(try clear c48b0);(try clear c49);(try clear c49b0);(try clear c49b1);(try clear c51);(try clear c51b0);(try clear c52);(try clear c52b0);(try clear c53);(try clear c53b0);(try clear c54);(try clear c54b0);(try clear q61);(try clear p64);(try clear c65);(try clear c65b0);(try clear c66);(try clear c66b0);(try clear c67);(try clear c67b0);(try clear c68);(try clear c70);(try clear c73);(try clear c73b0);(try clear c73b1);(try clear hcz71_0);(try clear hcz71_1);(try clear hcz71_2);(try clear hcz79_0);(try clear hcz79_1);(try clear hcz79_2);(try clear hfz71_0);(try clear hfz71_1);(try clear hfz71_2);(try clear hfz79_0);(try clear hfz79_1);(try clear hfz79_2);(try clear hx156_0);(try clear hx157_0);(try clear hx158_0);(try clear hx172_0);(try clear hx173_0);(try clear hx174_0);(try clear hx174_1);(try clear hx174_2);(try clear hx175_0);(try clear hx175_1);(try clear hx175_2);(try clear p1);(try clear p15);(try clear p156);(try clear p157);(try clear p158);(try clear p17);(try clear p172);(try clear p173);(try clear p174);(try clear p175);(try clear p2);(try clear p6);(try clear p64);(try clear q1);(try clear q15);(try clear q156);(try clear q157);(try clear q158);(try clear q17);(try clear q172);(try clear q173);(try clear q174);(try clear q175);(try clear q6);(try clear q61)
              obtain ⟨x14_5, x125_5, rfl, HA, HK5, HO_14, HO_123, BK145, HB⟩ := hrel
              cases gk with
              | zero => exact absurd HA.out (by simp [zad.l3])
              | succ k5 =>
               have H := HA.out;clear HA
               simp only [zad.l3] at H
               by_cases c81 : x125_5 < (x7_3.length : Int)
               ·rw [if_pos c81] at H
                have c81b0 : decide (x125_5 < (x7_3.length : Int)) = true := decide_eq_true c81
                clear c81
                by_cases c82 : 0 ≤ x125_5
                ·rw [if_pos c82] at H
                 have c82b0 : decide (0 ≤ x125_5) = true := decide_eq_true c82
                 clear c82
                 by_cases c83 : x125_5 < (x7_3.length : Int)
                 ·rw [if_pos c83] at H
                  have c83b0 : decide (x125_5 < (x7_3.length : Int)) = true := decide_eq_true c83
                  clear c83;replace H := Option.bind_eq_some_iff.mp H
                  obtain ⟨t185, A840, H⟩ := H
                  replace H : (if (t185.length : Int) = 0 then (some false) else (zad.l3 k5 t185 x7_3 (x7_3.length : Int) (wrap64 (x125_5 + 1)) l0_0 l0_1 l0_2)) = some r := H
                  have A84 := zaa.mk A840;clear A840
                  by_cases c85 : (t185.length : Int) = 0
                  ·rw [if_pos c85] at H
                   have c85b0 : ((t185.length : Int) == 0) = true := beq_iff_eq.mpr c85
                   have c85b1 : ((t185.length : Int) != 0) = false := bne_eq_false_iff_eq.mpr c85
                   clear c85;obtain rfl := Option.some.inj H
                   have p184 : 0 ≤ (x125_5 : Int) := of_decide_eq_true (by first | (with_reducible assumption) | assumption)
                   have q184 : x125_5 < (x7_3.length : Int) := of_decide_eq_true (by first | (with_reducible assumption) | assumption)
                   obtain ⟨ad184, e184, hx184_0⟩ := Kd.at_int (Kd.R_reads' HO_123.out).2.2 x125_5 p184 q184
                   cases e184
                   replace p184 := eq_true p184
                   replace q184 := eq_true q184
                   have hcz86_0 : wr.cell? ⟨gb145, 0, none⟩ = some (.slice A0_0 l0_0.length c0_0) := (zac BK145.out 0).trans rfl
                   have hcz86_1 : wr.cell? ⟨gb145, 1, none⟩ = some (.slice A0_1 l0_1.length c0_1) := (zac BK145.out 1).trans rfl
                   have hcz86_2 : wr.cell? ⟨gb145, 2, none⟩ = some (.slice A0_2 l0_2.length c0_2) := (zac BK145.out 2).trans rfl
                   have hfz86_0 := zak BK145.out 0
                   have hfz86_1 := zak BK145.out 1
                   have hfz86_2 := zak BK145.out 2
                   obtain ⟨Ao87, co87, eo87⟩ := Kd.zbt HO_14.out
                   subst eo87
                   go_wp2_with (first | ((with_reducible refine zbo (f := 14) rfl ?_); refine zb9 (some 132) rfl rfl Tryz.func14 (by kernel_rfl) rfl #[.agg #[.slice A0_0 l0_0.length c0_0, .slice A0_1 l0_1.length c0_1, .slice A0_2 l0_2.length c0_2], .slice Ao87 x14_5.length co87, .int .i64 (rd x7_3 x125_5)] rfl (by (try simp only [List.map_toArray, List.map_cons, List.map_nil]); first | done | rfl | (simp only [List.length_drop, List.length_take]; rfl)) ?_; (with_reducible refine (zbr.calls k5 _ _ l0_0 _ _ l0_1 _ _ l0_2 _ _ x14_5 (rd x7_3 x125_5) t185 _ ?side1 ?side2 ?side3 ?side4 ?side5 ?side6 ?side7 ?side8 A84.out).mono ?_); (case side1 => repeat (first | exact (Kd.zax HR0_0.out HB.out) | (with_reducible refine Kd.za6 ?_ _) | (with_reducible refine Kd.za7 ?_ _) | (with_reducible refine Kd.za9 ?_))); (case side2 => exact HC0_0.out); (case side3 => repeat (first | exact (Kd.zax HR0_1.out HB.out) | (with_reducible refine Kd.za6 ?_ _) | (with_reducible refine Kd.za7 ?_ _) | (with_reducible refine Kd.za9 ?_))); (case side4 => exact HC0_1.out); (case side5 => repeat (first | exact (Kd.zax HR0_2.out HB.out) | (with_reducible refine Kd.za6 ?_ _) | (with_reducible refine Kd.za7 ?_ _) | (with_reducible refine Kd.za9 ?_))); (case side6 => exact HC0_2.out); (case side7 => repeat (first | exact (Kd.R_reads' HO_14.out).2.2 | (with_reducible refine Kd.za6 ?_ _) | (with_reducible refine Kd.za7 ?_ _) | (with_reducible refine Kd.za9 ?_))); (case side8 => exact (Kd.R_reads' HO_14.out).2.1); rintro e w88 ⟨v186, rfl, ho0, hb⟩; refine ⟨_, rfl, ?_⟩; have n0_ := zaa.mk (Kd.R_elder' (by (with_reducible repeat (first | apply Kd.zbc | apply Kd.zbd | apply Kd.zbg)); exact HO_14.out) (Kd.R_base ho0) hb); have n1_ := zaa.mk (Kd.zbq (by (with_reducible repeat (first | apply Kd.zbc | apply Kd.zbd | apply Kd.zbg)); exact HO_123.out) hb); have n2_ := zaa.mk (Kd.zb1 (Kd.R_new' ho0 (Kd.R_lt (by (with_reducible repeat (first | apply Kd.zbc | apply Kd.zbd | apply Kd.zbg)); exact HO_14.out))) (zas (by repeat (first | (with_reducible first | exact HB.out | apply zah | apply zab | apply zaf | refine zal ?_ GE145.out) | exact HB.out)))); have n3_ := zaa.mk (zar (g := gb145) (o := .cells #[.slice A0_0 l0_0.length c0_0, .slice A0_1 l0_1.length c0_1, .slice A0_2 l0_2.length c0_2] 25 (0, 0)) (by (with_reducible repeat (first | refine zam ?_ _ | refine zaj ?_ | refine zai ?_ _)); exact BK145.out) hb); have n4_ := zaa.mk (zaw (by repeat (first | (with_reducible first | exact HB.out | apply zah | apply zab | apply zaf | refine zal ?_ GE145.out) | exact HB.out)) hb); clear HO_14; clear HO_123; clear BK145; clear HB; have HO_14 := n0_; have HO_123 := n1_; have HO187 := n2_; have BK145 := n3_; have HB := n4_; clear n0_ n1_ n2_ n3_ n4_; (try clear hb); (try clear hb2); (try clear hk); (try clear hi); (try clear ho0); obtain ⟨Ao89, co89, eo89⟩ := Kd.zbt HO187.out; subst eo89))
                   go_ret
                   exact ⟨by first | rfl | (simp [za2, za3] <;> rfl) | (simp [*, za2, za3] <;> rfl), by repeat (first | (with_reducible first | exact HB.out | apply zah | apply zab | apply zaf | refine zal ?_ GE145.out) | exact HB.out)⟩
                  ·rw [if_neg c85] at H
                   have c85b0 : ((t185.length : Int) == 0) = false := beq_eq_false_iff_ne.mpr c85
                   have c85b1 : ((t185.length : Int) != 0) = true := bne_iff_ne.mpr c85
                   have c85b2 : ¬ (t185 = []) := fun h_ => c85 (by rw [h_]; rfl)
                   have H' := zaa.mk H
                   clear H
                   have p184 : 0 ≤ (x125_5 : Int) := of_decide_eq_true (by first | (with_reducible assumption) | assumption)
                   have q184 : x125_5 < (x7_3.length : Int) := of_decide_eq_true (by first | (with_reducible assumption) | assumption)
                   obtain ⟨ad184, e184, hx184_0⟩ := Kd.at_int (Kd.R_reads' HO_123.out).2.2 x125_5 p184 q184
                   cases e184
                   replace p184 := eq_true p184
                   replace q184 := eq_true q184
                   have hcz90_0 : wr.cell? ⟨gb145, 0, none⟩ = some (.slice A0_0 l0_0.length c0_0) := (zac BK145.out 0).trans rfl
                   have hcz90_1 : wr.cell? ⟨gb145, 1, none⟩ = some (.slice A0_1 l0_1.length c0_1) := (zac BK145.out 1).trans rfl
                   have hcz90_2 : wr.cell? ⟨gb145, 2, none⟩ = some (.slice A0_2 l0_2.length c0_2) := (zac BK145.out 2).trans rfl
                   have hfz90_0 := zak BK145.out 0
                   have hfz90_1 := zak BK145.out 1
                   have hfz90_2 := zak BK145.out 2
                   obtain ⟨Ao91, co91, eo91⟩ := Kd.zbt HO_14.out
                   subst eo91
                   go_wp2_with (first | ((with_reducible refine zbo (f := 14) rfl ?_); refine zb9 (some 132) rfl rfl Tryz.func14 (by kernel_rfl) rfl #[.agg #[.slice A0_0 l0_0.length c0_0, .slice A0_1 l0_1.length c0_1, .slice A0_2 l0_2.length c0_2], .slice Ao91 x14_5.length co91, .int .i64 (rd x7_3 x125_5)] rfl (by (try simp only [List.map_toArray, List.map_cons, List.map_nil]); first | done | rfl | (simp only [List.length_drop, List.length_take]; rfl)) ?_; (with_reducible refine (zbr.calls k5 _ _ l0_0 _ _ l0_1 _ _ l0_2 _ _ x14_5 (rd x7_3 x125_5) t185 _ ?side1 ?side2 ?side3 ?side4 ?side5 ?side6 ?side7 ?side8 A84.out).mono ?_); (case side1 => repeat (first | exact (Kd.zax HR0_0.out HB.out) | (with_reducible refine Kd.za6 ?_ _) | (with_reducible refine Kd.za7 ?_ _) | (with_reducible refine Kd.za9 ?_))); (case side2 => exact HC0_0.out); (case side3 => repeat (first | exact (Kd.zax HR0_1.out HB.out) | (with_reducible refine Kd.za6 ?_ _) | (with_reducible refine Kd.za7 ?_ _) | (with_reducible refine Kd.za9 ?_))); (case side4 => exact HC0_1.out); (case side5 => repeat (first | exact (Kd.zax HR0_2.out HB.out) | (with_reducible refine Kd.za6 ?_ _) | (with_reducible refine Kd.za7 ?_ _) | (with_reducible refine Kd.za9 ?_))); (case side6 => exact HC0_2.out); (case side7 => repeat (first | exact (Kd.R_reads' HO_14.out).2.2 | (with_reducible refine Kd.za6 ?_ _) | (with_reducible refine Kd.za7 ?_ _) | (with_reducible refine Kd.za9 ?_))); (case side8 => exact (Kd.R_reads' HO_14.out).2.1); rintro e w92 ⟨v186, rfl, ho0, hb⟩; refine ⟨_, rfl, ?_⟩; have n0_ := zaa.mk (Kd.R_elder' (by (with_reducible repeat (first | apply Kd.zbc | apply Kd.zbd | apply Kd.zbg)); exact HO_14.out) (Kd.R_base ho0) hb); have n1_ := zaa.mk (Kd.zbq (by (with_reducible repeat (first | apply Kd.zbc | apply Kd.zbd | apply Kd.zbg)); exact HO_123.out) hb); have n2_ := zaa.mk (Kd.zb1 (Kd.R_new' ho0 (Kd.R_lt (by (with_reducible repeat (first | apply Kd.zbc | apply Kd.zbd | apply Kd.zbg)); exact HO_14.out))) (zas (by repeat (first | (with_reducible first | exact HB.out | apply zah | apply zab | apply zaf | refine zal ?_ GE145.out) | exact HB.out)))); have n3_ := zaa.mk (zar (g := gb145) (o := .cells #[.slice A0_0 l0_0.length c0_0, .slice A0_1 l0_1.length c0_1, .slice A0_2 l0_2.length c0_2] 25 (0, 0)) (by (with_reducible repeat (first | refine zam ?_ _ | refine zaj ?_ | refine zai ?_ _)); exact BK145.out) hb); have n4_ := zaa.mk (zaw (by repeat (first | (with_reducible first | exact HB.out | apply zah | apply zab | apply zaf | refine zal ?_ GE145.out) | exact HB.out)) hb); clear HO_14; clear HO_123; clear BK145; clear HB; have HO_14 := n0_; have HO_123 := n1_; have HO187 := n2_; have BK145 := n3_; have HB := n4_; clear n0_ n1_ n2_ n3_ n4_; (try clear hb); (try clear hb2); (try clear hk); (try clear hi); (try clear ho0); obtain ⟨Ao93, co93, eo93⟩ := Kd.zbt HO187.out; subst eo93))
                   go_roundg k5
                   case measure => have := HJ2.out; have := HK2.out; have := HK3.out; have := HJ27.out; have := HK5.out; omega
                   case rel => exact ⟨(t185), (wrap64 (x125_5 + 1)), (by first | rfl | (simp; done) | (simp [*]; done)), H', ⟨by have := HJ2.out; have := HK2.out; have := HK3.out; have := HJ27.out; have := HK5.out; omega⟩, ⟨by (with_reducible repeat (first | apply Kd.zbc | apply Kd.zbd | apply Kd.zbg)); exact Kd.zbx HO187.out (fun _ hk => trivial)⟩, ⟨by (with_reducible repeat (first | apply Kd.zbc | apply Kd.zbd | apply Kd.zbg)); exact HO_123.out⟩, ⟨by (with_reducible repeat (first | refine zam ?_ _ | refine zaj ?_ | refine zai ?_ _)); exact BK145.out⟩, ⟨by repeat (first | (with_reducible first | exact HB.out | apply zah | apply zab | apply zaf | refine zal ?_ GE145.out) | exact HB.out)⟩⟩
                 ·rw [if_neg c83] at H
                  exact absurd H (by simp)
                ·rw [if_neg c82] at H
                 exact absurd H (by simp)
               ·rw [if_neg c81] at H
                have c81b0 : decide (x125_5 < (x7_3.length : Int)) = false := decide_eq_false c81
                clear c81;replace H := Option.bind_eq_some_iff.mp H
                obtain ⟨t188, A940, H⟩ := H
                replace H : (some t188) = some r := H
                have A94 := zaa.mk A940;clear A940;obtain rfl := Option.some.inj H
                go_wp2_with (first | ((with_reducible refine zbo (f := 7) rfl ?_); refine zb9 (some 137) rfl rfl Tryz.func7 (by kernel_rfl) rfl #[] rfl (by (try simp only [List.map_toArray, List.map_cons, List.map_nil]); first | done | rfl | (simp only [List.length_drop, List.length_take]; rfl)) ?_; (with_reducible refine (zbm.calls  t188 _ A94.out).mono ?_); rintro e w95 ⟨rfl, hb⟩; refine ⟨_, rfl, ?_⟩; have n0_ := zaa.mk (Kd.zbq (by (with_reducible repeat (first | apply Kd.zbc | apply Kd.zbd | apply Kd.zbg)); exact HO_14.out) hb); have n1_ := zaa.mk (Kd.zbq (by (with_reducible repeat (first | apply Kd.zbc | apply Kd.zbd | apply Kd.zbg)); exact HO_123.out) hb); have n2_ := zaa.mk (zar (g := gb145) (o := .cells #[.slice A0_0 l0_0.length c0_0, .slice A0_1 l0_1.length c0_1, .slice A0_2 l0_2.length c0_2] 25 (0, 0)) (by (with_reducible repeat (first | refine zam ?_ _ | refine zaj ?_ | refine zai ?_ _)); exact BK145.out) hb); have n3_ := zaa.mk (zaw (by repeat (first | (with_reducible first | exact HB.out | apply zah | apply zab | apply zaf | refine zal ?_ GE145.out) | exact HB.out)) hb); clear HO_14; clear HO_123; clear BK145; clear HB; have HO_14 := n0_; have HO_123 := n1_; have BK145 := n2_; have HB := n3_; clear n0_ n1_ n2_ n3_; (try clear hb); (try clear hb2); (try clear hk); (try clear hi)))
                go_ret
                exact ⟨by first | rfl | (simp [za2, za3] <;> rfl) | (simp [*, za2, za3] <;> rfl), by repeat (first | (with_reducible first | exact HB.out | apply zah | apply zab | apply zaf | refine zal ?_ GE145.out) | exact HB.out)⟩
end Go.Proofs.YtgdmjpehofdnpaaGreat.PItemPrefixes
end
section
namespace Go.Proofs.YtgdmjpehofdnpaaGreat.PItemPrefixes
open Go.RowKit Go.Proofs.YtgdmjpehofdnpaaGreatW.PrintWords Go.Proofs.YtgdmjpehofdnpaaGreatW.PrintLast
def ok44 (s : S44) : Prop := ((Lit.int .i64 s.f0).wf = true) ∧ (s.f1.size ≤ 140737488351232) ∧ (s.f2.size ≤ 140737488351232)
def ok42 (s : S42) : Prop := ((Lit.int .i64 s.f0).wf = true) ∧ (s.f1.length * 40 ≤ 140737488351232 ∧ ∀ y ∈ s.f1, ok44 y) ∧ ((Lit.int .i64 s.f2).wf = true)
def ok25 (s : S25) : Prop := (s.f0.length * 16 ≤ 140737488351232 ∧ ∀ y ∈ s.f0, (y.size ≤ 140737488351232)) ∧ (s.f1.length * 16 ≤ 140737488351232 ∧ ∀ y ∈ s.f1, (y.size ≤ 140737488351232)) ∧ (s.f2.length * 40 ≤ 140737488351232 ∧ ∀ y ∈ s.f2, ok42 y)
def zad.Pure : Prop := ∀ (s0 : S25) (l1 : List Int), ok25 s0 → (l1.length * 8 ≤ 140737488351232 ∧ ∀ y ∈ l1, ((Lit.int .i64 y).wf = true)) → ∃ k, zad.f k s0.f0 s0.f1 s0.f2 l1 = some true
end Go.Proofs.YtgdmjpehofdnpaaGreat.PItemPrefixes
end
