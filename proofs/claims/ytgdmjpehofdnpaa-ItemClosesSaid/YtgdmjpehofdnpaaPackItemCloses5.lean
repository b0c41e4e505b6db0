import Derived.Test.YtgdmjpehofdnpaaPackItemCloses4
section
namespace Go.Proofs.Ytgdmjpehofdnpaa.PItemCloses
open Go.RowKit Go.Proofs.YtgdmjpehofdnpaaW.PrintWords Go.Proofs.YtgdmjpehofdnpaaW.PrintLast Go.Proofs.YtgdmjpehofdnpaaW.PrintMore
attribute [local go_sem] zb8 zb9 zce zcd zb6 zb4 zb7 zca
set_option linter.unusedVariables false
set_option linter.unusedSimpArgs false
mutual
def zam.j0 : Nat → Int → Bool → List ByteArray → List ByteArray → List (S46) → Option (Bool)
 | 0, _, _, _, _, _ => none
 | k + 1, x3, x40, x109000, x109001, x109002 => if x40 = true then (some false) else (zam.l0 k x3 0 x109000 x109001 x109002)
def zam.l0 : Nat → Int → Int → List ByteArray → List ByteArray → List (S46) → Option (Bool)
 | 0, _, _, _, _, _ => none
 | k + 1, x3, x4, x109000, x109001, x109002 => if x4 < (x109002.length : Int) then (if 0 ≤ x4 then (if ((zal x109002 x4).f0) < (x109000.length : Int) then (zam.j2 k x3 x4 true x109000 x109001 x109002 ((zal x109002 x4).f0) ((zal x109002 x4).f1) ((zal x109002 x4).f2)) else (if ((zal x109002 x4).f0) ≥ x3 then (zam.j2 k x3 x4 true x109000 x109001 x109002 ((zal x109002 x4).f0) ((zal x109002 x4).f1) ((zal x109002 x4).f2)) else (if x4 > 0 then (if 0 ≤ (wrap64 (x4 - 1)) then (if (wrap64 (x4 - 1)) < (x109002.length : Int) then (if ((zal x109002 (wrap64 (x4 - 1))).f0) > ((zal x109002 x4).f0) then (zam.j2 k x3 x4 true x109000 x109001 x109002 ((zal x109002 x4).f0) ((zal x109002 x4).f1) ((zal x109002 x4).f2)) else (if (((zal x109002 x4).f1).length : Int) > 64 then (zam.j2 k x3 x4 true x109000 x109001 x109002 ((zal x109002 x4).f0) ((zal x109002 x4).f1) ((zal x109002 x4).f2)) else (if ((zal x109002 x4).f2) < (-10000) then (zam.j2 k x3 x4 true x109000 x109001 x109002 ((zal x109002 x4).f0) ((zal x109002 x4).f1) ((zal x109002 x4).f2)) else (zam.j2 k x3 x4 (decide (((zal x109002 x4).f2) > 10000)) x109000 x109001 x109002 ((zal x109002 x4).f0) ((zal x109002 x4).f1) ((zal x109002 x4).f2))))) else (none)) else (none)) else (if (((zal x109002 x4).f1).length : Int) > 64 then (zam.j2 k x3 x4 true x109000 x109001 x109002 ((zal x109002 x4).f0) ((zal x109002 x4).f1) ((zal x109002 x4).f2)) else (if ((zal x109002 x4).f2) < (-10000) then (zam.j2 k x3 x4 true x109000 x109001 x109002 ((zal x109002 x4).f0) ((zal x109002 x4).f1) ((zal x109002 x4).f2)) else (zam.j2 k x3 x4 (decide (((zal x109002 x4).f2) > 10000)) x109000 x109001 x109002 ((zal x109002 x4).f0) ((zal x109002 x4).f1) ((zal x109002 x4).f2))))))) else (none)) else (some true)
def zam.j2 : Nat → Int → Int → Bool → List ByteArray → List ByteArray → List (S46) → Int → List (S43) → Int → Option (Bool)
 | 0, _, _, _, _, _, _, _, _, _ => none
 | k + 1, x3, x4, x96, x109000, x109001, x109002, x113000, x113001, x113002 => if x96 = true then (some false) else (zam.l1 k x3 x4 0 x109000 x109001 x109002 x113000 x113001 x113002)
def zam.l1 : Nat → Int → Int → Int → List ByteArray → List ByteArray → List (S46) → Int → List (S43) → Int → Option (Bool)
 | 0, _, _, _, _, _, _, _, _, _ => none
 | k + 1, x3, x4, x6, x109000, x109001, x109002, x113000, x113001, x113002 => if x6 < (x113001.length : Int) then (if 0 ≤ x6 then (if ((zbl x113001 x6).f0) < 0 then (some false) else (if ((zbl x113001 x6).f0) ≥ x3 then (some false) else ((za0.f k ((zbl x113001 x6).f1)).bind fun t116 => (if t116 = true then ((za0.f k ((zbl x113001 x6).f2)).bind fun t117 => (if t117 = true then (zam.l1 k x3 x4 (wrap64 (x6 + 1)) x109000 x109001 x109002 x113000 x113001 x113002) else (some false))) else (some false))))) else (none)) else (zam.l0 k x3 (wrap64 (x4 + 1)) x109000 x109001 x109002)
end
def zam.f (k : Nat) (l0_0 : List ByteArray) (l0_1 : List ByteArray) (l0_2 : List (S46)) : Option (Bool) := if (l0_1.length : Int) = 0 then (zam.j0 k (wrap64 ((l0_0.length : Int) + (l0_1.length : Int))) true l0_0 l0_1 l0_2) else (if (wrap64 ((l0_0.length : Int) + (l0_1.length : Int))) > 600 then (zam.j0 k (wrap64 ((l0_0.length : Int) + (l0_1.length : Int))) true l0_0 l0_1 l0_2) else (if (l0_2.length : Int) > 400 then (zam.j0 k (wrap64 ((l0_0.length : Int) + (l0_1.length : Int))) true l0_0 l0_1 l0_2) else ((zav.f k l0_0).bind fun t109 => (if t109 = true then ((zav.f k l0_1).bind fun t110 => (zam.j0 k (wrap64 ((l0_0.length : Int) + (l0_1.length : Int))) (!t110) l0_0 l0_1 l0_2)) else (zam.j0 k (wrap64 ((l0_0.length : Int) + (l0_1.length : Int))) true l0_0 l0_1 l0_2)))))
theorem zam.zby : ∀ k, (∀ y0 y1 y2 y3 y4, LeO (zam.j0 k y0 y1 y2 y3 y4) (zam.j0 (k + 1) y0 y1 y2 y3 y4)) ∧ (∀ y0 y1 y2 y3 y4, LeO (zam.l0 k y0 y1 y2 y3 y4) (zam.l0 (k + 1) y0 y1 y2 y3 y4)) ∧ (∀ y0 y1 y2 y3 y4 y5 y6 y7 y8, LeO (zam.j2 k y0 y1 y2 y3 y4 y5 y6 y7 y8) (zam.j2 (k + 1) y0 y1 y2 y3 y4 y5 y6 y7 y8)) ∧ (∀ y0 y1 y2 y3 y4 y5 y6 y7 y8, LeO (zam.l1 k y0 y1 y2 y3 y4 y5 y6 y7 y8) (zam.l1 (k + 1) y0 y1 y2 y3 y4 y5 y6 y7 y8))
 | 0 => ⟨fun _ _ _ _ _ r h => by simp [zam.j0] at h, fun _ _ _ _ _ r h => by simp [zam.l0] at h, fun _ _ _ _ _ _ _ _ _ r h => by simp [zam.j2] at h, fun _ _ _ _ _ _ _ _ _ r h => by simp [zam.l1] at h⟩
 | k + 1 => by
  obtain ⟨ih0, ih1, ih2, ih3⟩ := zam.zby k
  refine ⟨?_, ?_, ?_, ?_⟩
  ·intro y0 y1 y2 y3 y4
   unfold zam.j0
   repeat' first
   | (with_reducible exact ih0 _ _ _ _ _)
   | (with_reducible exact ih1 _ _ _ _ _)
   | (with_reducible exact ih2 _ _ _ _ _ _ _ _ _)
   | (with_reducible exact ih3 _ _ _ _ _ _ _ _ _)
   | (with_reducible exact za0.mono _ _)
   | (with_reducible exact zav.mono _ _)
   | (with_reducible exact LeO.refl _)
   | (with_reducible exact LeO.none _)
   | (with_reducible refine LeO.ite ?_ ?_)
   | (with_reducible refine LeO.bind ?_ (fun _ => ?_))
   | exact ih0 _ _ _ _ _
   | exact ih1 _ _ _ _ _
   | exact ih2 _ _ _ _ _ _ _ _ _
   | exact ih3 _ _ _ _ _ _ _ _ _
   | exact za0.mono _ _
   | exact zav.mono _ _
   | exact LeO.none _
   | refine LeO.ite ?_ ?_
   | refine LeO.bind ?_ (fun _ => ?_)
  ·intro y0 y1 y2 y3 y4
   unfold zam.l0
   repeat' first
   | (with_reducible exact ih0 _ _ _ _ _)
   | (with_reducible exact ih1 _ _ _ _ _)
   | (with_reducible exact ih2 _ _ _ _ _ _ _ _ _)
   | (with_reducible exact ih3 _ _ _ _ _ _ _ _ _)
   | (with_reducible exact za0.mono _ _)
   | (with_reducible exact zav.mono _ _)
   | (with_reducible exact LeO.refl _)
   | (with_reducible exact LeO.none _)
   | (with_reducible refine LeO.ite ?_ ?_)
   | (with_reducible refine LeO.bind ?_ (fun _ => ?_))
   | exact ih0 _ _ _ _ _
   | exact ih1 _ _ _ _ _
   | exact ih2 _ _ _ _ _ _ _ _ _
   | exact ih3 _ _ _ _ _ _ _ _ _
   | exact za0.mono _ _
   | exact zav.mono _ _
   | exact LeO.none _
   | refine LeO.ite ?_ ?_
   | refine LeO.bind ?_ (fun _ => ?_)
  ·intro y0 y1 y2 y3 y4 y5 y6 y7 y8
   unfold zam.j2
   repeat' first
   | (with_reducible exact ih0 _ _ _ _ _)
   | (with_reducible exact ih1 _ _ _ _ _)
   | (with_reducible exact ih2 _ _ _ _ _ _ _ _ _)
   | (with_reducible exact ih3 _ _ _ _ _ _ _ _ _)
   | (with_reducible exact za0.mono _ _)
   | (with_reducible exact zav.mono _ _)
   | (with_reducible exact LeO.refl _)
   | (with_reducible exact LeO.none _)
   | (with_reducible refine LeO.ite ?_ ?_)
   | (with_reducible refine LeO.bind ?_ (fun _ => ?_))
   | exact ih0 _ _ _ _ _
   | exact ih1 _ _ _ _ _
   | exact ih2 _ _ _ _ _ _ _ _ _
   | exact ih3 _ _ _ _ _ _ _ _ _
   | exact za0.mono _ _
   | exact zav.mono _ _
   | exact LeO.none _
   | refine LeO.ite ?_ ?_
   | refine LeO.bind ?_ (fun _ => ?_)
  ·intro y0 y1 y2 y3 y4 y5 y6 y7 y8
   unfold zam.l1
   repeat' first
   | (with_reducible exact ih0 _ _ _ _ _)
   | (with_reducible exact ih1 _ _ _ _ _)
   | (with_reducible exact ih2 _ _ _ _ _ _ _ _ _)
   | (with_reducible exact ih3 _ _ _ _ _ _ _ _ _)
   | (with_reducible exact za0.mono _ _)
   | (with_reducible exact zav.mono _ _)
   | (with_reducible exact LeO.refl _)
   | (with_reducible exact LeO.none _)
   | (with_reducible refine LeO.ite ?_ ?_)
   | (with_reducible refine LeO.bind ?_ (fun _ => ?_))
   | exact ih0 _ _ _ _ _
   | exact ih1 _ _ _ _ _
   | exact ih2 _ _ _ _ _ _ _ _ _
   | exact ih3 _ _ _ _ _ _ _ _ _
   | exact za0.mono _ _
   | exact zav.mono _ _
   | exact LeO.none _
   | refine LeO.ite ?_ ?_
   | refine LeO.bind ?_ (fun _ => ?_)
theorem zam.mono : ∀ a0 a1 a2 k, LeO (zam.f k a0 a1 a2) (zam.f (k + 1) a0 a1 a2) := by
 intro a0 a1 a2 k
 obtain ⟨ih0, ih1, ih2, ih3⟩ := zam.zby k
 unfold zam.f
 repeat' first
   | (with_reducible exact ih0 _ _ _ _ _)
   | (with_reducible exact ih1 _ _ _ _ _)
   | (with_reducible exact ih2 _ _ _ _ _ _ _ _ _)
   | (with_reducible exact ih3 _ _ _ _ _ _ _ _ _)
   | (with_reducible exact za0.mono _ _)
   | (with_reducible exact zav.mono _ _)
   | (with_reducible exact LeO.refl _)
   | (with_reducible exact LeO.none _)
   | (with_reducible refine LeO.ite ?_ ?_)
   | (with_reducible refine LeO.bind ?_ (fun _ => ?_))
   | exact ih0 _ _ _ _ _
   | exact ih1 _ _ _ _ _
   | exact ih2 _ _ _ _ _ _ _ _ _
   | exact ih3 _ _ _ _ _ _ _ _ _
   | exact za0.mono _ _
   | exact zav.mono _ _
   | exact LeO.none _
   | refine LeO.ite ?_ ?_
   | refine LeO.bind ?_ (fun _ => ?_)
set_option maxHeartbeats 8000000 in
set_option maxRecDepth 100000 in
theorem zam.calls (k : Nat) (A0_0 : Option Addr) (c0_0 : Nat) (l0_0 : List ByteArray) (A0_1 : Option Addr) (c0_1 : Nat) (l0_1 : List ByteArray) (A0_2 : Option Addr) (c0_2 : Nat) (l0_2 : List (S46)) (r : Bool) (w : World) (hr0_0 : Kd.C Kd.string w A0_0 l0_0.length l0_0) (hc0_0 : l0_0.length ≤ c0_0) (hr0_1 : Kd.C Kd.string w A0_1 l0_1.length l0_1) (hc0_1 : l0_1.length ≤ c0_1) (hr0_2 : Kd.C k46 w A0_2 l0_2.length l0_2) (hc0_2 : l0_2.length ≤ c0_2) (h : zam.f k l0_0 l0_1 l0_2 = some r) :
  Calls Try.prog 14 #[.agg #[.slice A0_0 l0_0.length c0_0, .slice A0_1 l0_1.length c0_1, .slice A0_2 l0_2.length c0_2]] w fun e w' => e = .returned (.bool r) ∧ Below w.heap.size w w' := by
 have hu25 := Try.underlying25
 have hu46 := Try.underlying46
 have hu43 := Try.underlying43
 have HR0_0 := zaa.mk hr0_0
 have HC0_0 := zaa.mk hc0_0
 clear hr0_0 hc0_0
 have HR0_1 := zaa.mk hr0_1
 have HC0_1 := zaa.mk hc0_1
 clear hr0_1 hc0_1
 have HR0_2 := zaa.mk hr0_2
 have HC0_2 := zaa.mk hc0_2
 clear hr0_2 hc0_2
 have HB := zaa.mk (Below.refl w.heap.size w)
 have H : (if (l0_1.length : Int) = 0 then (zam.j0 k (wrap64 ((l0_0.length : Int) + (l0_1.length : Int))) true l0_0 l0_1 l0_2) else (if (wrap64 ((l0_0.length : Int) + (l0_1.length : Int))) > 600 then (zam.j0 k (wrap64 ((l0_0.length : Int) + (l0_1.length : Int))) true l0_0 l0_1 l0_2) else (if (l0_2.length : Int) > 400 then (zam.j0 k (wrap64 ((l0_0.length : Int) + (l0_1.length : Int))) true l0_0 l0_1 l0_2) else ((zav.f k l0_0).bind fun t109 => (if t109 = true then ((zav.f k l0_1).bind fun t110 => (zam.j0 k (wrap64 ((l0_0.length : Int) + (l0_1.length : Int))) (!t110) l0_0 l0_1 l0_2)) else (zam.j0 k (wrap64 ((l0_0.length : Int) + (l0_1.length : Int))) true l0_0 l0_1 l0_2)))))) = some r := h
 clear h
 have HC2 := zaa.mk H
 clear H
 go_enter Try.func14, Try.ntmps14
 go_upto_region 2 with (first | ((with_reducible refine zba (N := 1) rfl ?_); (try (refine zbc (by rfl) ?_; dsimp only)); refine za9 ?hg (N := 1) ?hd (cs := #[.slice A0_0 l0_0.length c0_0, .slice A0_1 l0_1.length c0_1, .slice A0_2 l0_2.length c0_2]) (t := 25) ?hr ?_; (case hd => rfl); (case hg => rfl); (case hr => first | (go_simp; done) | (go_simp; rfl)); intro gb108 hg w3 hbox hb; have n0_ := zaa.mk (zax (by repeat (first | (with_reducible first | exact HB.out | apply zaf | apply zac | apply zad) | exact HB.out)) hb); have n1_ := zaa.mk (hbox); have n2_ := zaa.mk ((by rw [hg]; exact (zat (by repeat (first | (with_reducible first | exact HB.out | apply zaf | apply zac | apply zad) | exact HB.out))) : w.heap.size ≤ gb108)); have n3_ := zaa.mk ((by rw [hg]; exact (zat (by repeat (first | (with_reducible first | exact HB.out | apply zaf | apply zac | apply zad) | exact HB.out))) : w.heap.size ≤ gb108)); clear HB; have HB := n0_; have BK108 := n1_; have GW108 := n2_; have GE108 := n3_; clear n0_ n1_ n2_ n3_; clear hb hbox hg; have hcz4_0 : w3.cell? ⟨gb108, 0, none⟩ = some (.slice A0_0 l0_0.length c0_0) := (zab BK108.out 0).trans rfl; have hcz4_1 : w3.cell? ⟨gb108, 1, none⟩ = some (.slice A0_1 l0_1.length c0_1) := (zab BK108.out 1).trans rfl; have hcz4_2 : w3.cell? ⟨gb108, 2, none⟩ = some (.slice A0_2 l0_2.length c0_2) := (zab BK108.out 2).trans rfl; have hfz4_0 := zak BK108.out 0; have hfz4_1 := zak BK108.out 1; have hfz4_2 := zak BK108.out 2))
 repeat (go_quiet (first | ((with_reducible refine zba (N := 1) rfl ?_); (try (refine zbc (by rfl) ?_; dsimp only)); refine za9 ?hg (N := 1) ?hd (cs := #[.slice A0_0 l0_0.length c0_0, .slice A0_1 l0_1.length c0_1, .slice A0_2 l0_2.length c0_2]) (t := 25) ?hr ?_; (case hd => rfl); (case hg => rfl); (case hr => first | (go_simp; done) | (go_simp; rfl)); intro gb108 hg w3 hbox hb; have n0_ := zaa.mk (zax (by repeat (first | (with_reducible first | exact HB.out | apply zaf | apply zac | apply zad) | exact HB.out)) hb); have n1_ := zaa.mk (hbox); have n2_ := zaa.mk ((by rw [hg]; exact (zat (by repeat (first | (with_reducible first | exact HB.out | apply zaf | apply zac | apply zad) | exact HB.out))) : w.heap.size ≤ gb108)); have n3_ := zaa.mk ((by rw [hg]; exact (zat (by repeat (first | (with_reducible first | exact HB.out | apply zaf | apply zac | apply zad) | exact HB.out))) : w.heap.size ≤ gb108)); clear HB; have HB := n0_; have BK108 := n1_; have GW108 := n2_; have GE108 := n3_; clear n0_ n1_ n2_ n3_; clear hb hbox hg; have hcz4_0 : w3.cell? ⟨gb108, 0, none⟩ = some (.slice A0_0 l0_0.length c0_0) := (zab BK108.out 0).trans rfl; have hcz4_1 : w3.cell? ⟨gb108, 1, none⟩ = some (.slice A0_1 l0_1.length c0_1) := (zab BK108.out 1).trans rfl; have hcz4_2 : w3.cell? ⟨gb108, 2, none⟩ = some (.slice A0_2 l0_2.length c0_2) := (zab BK108.out 2).trans rfl; have hfz4_0 := zak BK108.out 0; have hfz4_1 := zak BK108.out 1; have hfz4_2 := zak BK108.out 2)); go_upto_region 2 with (first | ((with_reducible refine zba (N := 1) rfl ?_); (try (refine zbc (by rfl) ?_; dsimp only)); refine za9 ?hg (N := 1) ?hd (cs := #[.slice A0_0 l0_0.length c0_0, .slice A0_1 l0_1.length c0_1, .slice A0_2 l0_2.length c0_2]) (t := 25) ?hr ?_; (case hd => rfl); (case hg => rfl); (case hr => first | (go_simp; done) | (go_simp; rfl)); intro gb108 hg w3 hbox hb; have n0_ := zaa.mk (zax (by repeat (first | (with_reducible first | exact HB.out | apply zaf | apply zac | apply zad) | exact HB.out)) hb); have n1_ := zaa.mk (hbox); have n2_ := zaa.mk ((by rw [hg]; exact (zat (by repeat (first | (with_reducible first | exact HB.out | apply zaf | apply zac | apply zad) | exact HB.out))) : w.heap.size ≤ gb108)); have n3_ := zaa.mk ((by rw [hg]; exact (zat (by repeat (first | (with_reducible first | exact HB.out | apply zaf | apply zac | apply zad) | exact HB.out))) : w.heap.size ≤ gb108)); clear HB; have HB := n0_; have BK108 := n1_; have GW108 := n2_; have GE108 := n3_; clear n0_ n1_ n2_ n3_; clear hb hbox hg; have hcz4_0 : w3.cell? ⟨gb108, 0, none⟩ = some (.slice A0_0 l0_0.length c0_0) := (zab BK108.out 0).trans rfl; have hcz4_1 : w3.cell? ⟨gb108, 1, none⟩ = some (.slice A0_1 l0_1.length c0_1) := (zab BK108.out 1).trans rfl; have hcz4_2 : w3.cell? ⟨gb108, 2, none⟩ = some (.slice A0_2 l0_2.length c0_2) := (zab BK108.out 2).trans rfl; have hfz4_0 := zak BK108.out 0; have hfz4_1 := zak BK108.out 1; have hfz4_2 := zak BK108.out 2)))
 (try simp only [Act.put, Y1, Y2, Y3])
 go_cut [40] (fun v40 wc => ∃ (kq : Nat) (x40_1 : Bool), v40 = .bool x40_1 ∧ zaa (zam.j0 kq (wrap64 ((l0_0.length : Int) + (l0_1.length : Int))) x40_1 l0_0 l0_1 l0_2 = some r) ∧ zaa (kq ≤ k) ∧ zaa (wc.heap[gb108]? = some (.cells #[(.slice A0_0 l0_0.length c0_0), (.slice A0_1 l0_1.length c0_1), (.slice A0_2 l0_2.length c0_2)] 25 (0, 0))) ∧ zaa (Below w.heap.size w wc))
 case first =>
  have H := HC2.out
  clear HC2
  by_cases c5 : (l0_1.length : Int) = 0
  ·rw [if_pos c5] at H
   have c5b0 : ((l0_1.length : Int) == 0) = true := beq_iff_eq.mpr c5
   have c5b1 : ((l0_1.length : Int) != 0) = false := bne_eq_false_iff_eq.mpr c5
   clear c5
   (first | rw [c5b0] | (simp only [i64_w, i32_w]; rw [c5b0]) | skip)
   have H' := zaa.mk H
   clear H
   have hcz6_0 : w3.cell? ⟨gb108, 0, none⟩ = some (.slice A0_0 l0_0.length c0_0) := (zab BK108.out 0).trans rfl
   have hcz6_1 : w3.cell? ⟨gb108, 1, none⟩ = some (.slice A0_1 l0_1.length c0_1) := (zab BK108.out 1).trans rfl
   have hcz6_2 : w3.cell? ⟨gb108, 2, none⟩ = some (.slice A0_2 l0_2.length c0_2) := (zab BK108.out 2).trans rfl
   have hfz6_0 := zak BK108.out 0
   have hfz6_1 := zak BK108.out 1
   have hfz6_2 := zak BK108.out 2
   go_wp2
   repeat (go_quiet (fail); try go_wp2)
   go_meet
   case rel => exact ⟨_, (true), (by first | rfl | (simp; done) | (simp [*]; done)), H', ⟨by first | omega | exact Nat.le_refl _⟩, ⟨by (with_reducible repeat (first | refine zai ?_ _ | refine zae ?_ | refine zah ?_ _)); exact BK108.out⟩, ⟨by repeat (first | (with_reducible first | exact HB.out | apply zaf | apply zac | apply zad | refine zaj ?_ GE108.out) | exact HB.out)⟩⟩
  ·rw [if_neg c5] at H
   have c5b0 : ((l0_1.length : Int) == 0) = false := beq_eq_false_iff_ne.mpr c5
   have c5b1 : ((l0_1.length : Int) != 0) = true := bne_iff_ne.mpr c5
   have c5b2 : ¬ (l0_1 = []) := fun h_ => c5 (by rw [h_]; rfl)
   (first | rw [c5b0] | (simp only [i64_w, i32_w]; rw [c5b0]) | skip)
   by_cases c7 : (wrap64 ((l0_0.length : Int) + (l0_1.length : Int))) > 600
   ·rw [if_pos c7] at H
    have c7b0 : decide (600 < (wrap64 ((l0_0.length : Int) + (l0_1.length : Int)))) = true := decide_eq_true c7
    clear c7
    have H' := zaa.mk H
    clear H
    have hcz8_0 : w3.cell? ⟨gb108, 0, none⟩ = some (.slice A0_0 l0_0.length c0_0) := (zab BK108.out 0).trans rfl
    have hcz8_1 : w3.cell? ⟨gb108, 1, none⟩ = some (.slice A0_1 l0_1.length c0_1) := (zab BK108.out 1).trans rfl
    have hcz8_2 : w3.cell? ⟨gb108, 2, none⟩ = some (.slice A0_2 l0_2.length c0_2) := (zab BK108.out 2).trans rfl
    have hfz8_0 := zak BK108.out 0
    have hfz8_1 := zak BK108.out 1
    have hfz8_2 := zak BK108.out 2
    go_wp2
    repeat (go_quiet (fail); try go_wp2)
    go_meet
    case rel => exact ⟨_, (true), (by first | rfl | (simp; done) | (simp [*]; done)), H', ⟨by first | omega | exact Nat.le_refl _⟩, ⟨by (with_reducible repeat (first | refine zai ?_ _ | refine zae ?_ | refine zah ?_ _)); exact BK108.out⟩, ⟨by repeat (first | (with_reducible first | exact HB.out | apply zaf | apply zac | apply zad | refine zaj ?_ GE108.out) | exact HB.out)⟩⟩
   ·rw [if_neg c7] at H
    have c7b0 : decide (600 < (wrap64 ((l0_0.length : Int) + (l0_1.length : Int)))) = false := decide_eq_false c7
    clear c7
    by_cases c9 : (l0_2.length : Int) > 400
    ·rw [if_pos c9] at H
     have c9b0 : decide (400 < (l0_2.length : Int)) = true := decide_eq_true c9
     have c9b1 : decide (400 < l0_2.length) = true := decide_eq_true (by omega)
     clear c9
     have H' := zaa.mk H
     clear H
     have hcz10_0 : w3.cell? ⟨gb108, 0, none⟩ = some (.slice A0_0 l0_0.length c0_0) := (zab BK108.out 0).trans rfl
     have hcz10_1 : w3.cell? ⟨gb108, 1, none⟩ = some (.slice A0_1 l0_1.length c0_1) := (zab BK108.out 1).trans rfl
     have hcz10_2 : w3.cell? ⟨gb108, 2, none⟩ = some (.slice A0_2 l0_2.length c0_2) := (zab BK108.out 2).trans rfl
     have hfz10_0 := zak BK108.out 0
     have hfz10_1 := zak BK108.out 1
     have hfz10_2 := zak BK108.out 2
     go_wp2
     repeat (go_quiet (fail); try go_wp2)
     go_meet
     case rel => exact ⟨_, (true), (by first | rfl | (simp; done) | (simp [*]; done)), H', ⟨by first | omega | exact Nat.le_refl _⟩, ⟨by (with_reducible repeat (first | refine zai ?_ _ | refine zae ?_ | refine zah ?_ _)); exact BK108.out⟩, ⟨by repeat (first | (with_reducible first | exact HB.out | apply zaf | apply zac | apply zad | refine zaj ?_ GE108.out) | exact HB.out)⟩⟩
    ·rw [if_neg c9] at H
     have c9b0 : decide (400 < (l0_2.length : Int)) = false := decide_eq_false c9
     have c9b1 : decide (400 < l0_2.length) = false := decide_eq_false (by omega)
     clear c9
     replace H := Option.bind_eq_some_iff.mp H
     obtain ⟨t109, A110, H⟩ := H
     replace H : (if t109 = true then ((zav.f k l0_1).bind fun t110 => (zam.j0 k (wrap64 ((l0_0.length : Int) + (l0_1.length : Int))) (!t110) l0_0 l0_1 l0_2)) else (zam.j0 k (wrap64 ((l0_0.length : Int) + (l0_1.length : Int))) true l0_0 l0_1 l0_2)) = some r := H
     have A11 := zaa.mk A110
     clear A110
     by_cases c12 : t109 = true
     ·subst c12
      have H1 : ((zav.f k l0_1).bind fun t110 => (zam.j0 k (wrap64 ((l0_0.length : Int) + (l0_1.length : Int))) (!t110) l0_0 l0_1 l0_2)) = some r := by rw [if_pos rfl] at H; exact H
      clear H
      have H := H1
      clear H1
      replace H := Option.bind_eq_some_iff.mp H
      obtain ⟨t110, A130, H⟩ := H
      replace H : (zam.j0 k (wrap64 ((l0_0.length : Int) + (l0_1.length : Int))) (!t110) l0_0 l0_1 l0_2) = some r := H
      have A13 := zaa.mk A130
      clear A130
      have H' := zaa.mk H
      clear H
      have hcz14_0 : w3.cell? ⟨gb108, 0, none⟩ = some (.slice A0_0 l0_0.length c0_0) := (zab BK108.out 0).trans rfl
      have hcz14_1 : w3.cell? ⟨gb108, 1, none⟩ = some (.slice A0_1 l0_1.length c0_1) := (zab BK108.out 1).trans rfl
      have hcz14_2 : w3.cell? ⟨gb108, 2, none⟩ = some (.slice A0_2 l0_2.length c0_2) := (zab BK108.out 2).trans rfl
      have hfz14_0 := zak BK108.out 0
      have hfz14_1 := zak BK108.out 1
      have hfz14_2 := zak BK108.out 2
      go_wp2_with (first | (go_at_call 23; (with_reducible refine (zav.calls k _ _ l0_0 true _ ?side1 ?side2 A11.out).mono ?_); (case side1 => repeat (first | exact (Kd.zay HR0_0.out HB.out) | (with_reducible refine Kd.za2 ?_ _) | (with_reducible refine Kd.za1 ?_ _) | (with_reducible refine Kd.za7 ?_))); (case side2 => exact HC0_0.out); rintro e w' ⟨rfl, ⟨nd, rfl⟩⟩; (try first | exact ⟨rfl, _, World.drewN_drewN _ _ _⟩ | exact ⟨rfl, _, Eq.trans (World.drewN_drewN _ _ _) (congrArg (World.drewN _) (Nat.add_assoc _ _ _))⟩)) | (go_at_call 23; (with_reducible refine (zav.calls k _ _ l0_1 t110 _ ?side1 ?side2 A13.out).mono ?_); (case side1 => repeat (first | exact (Kd.zay HR0_1.out (by repeat (first | (with_reducible first | exact HB.out | apply zaf | apply zac | apply zad | refine zaj ?_ GE108.out) | exact HB.out))) | (with_reducible refine Kd.za2 ?_ _) | (with_reducible refine Kd.za1 ?_ _) | (with_reducible refine Kd.za7 ?_))); (case side2 => exact HC0_1.out); rintro e w' ⟨rfl, ⟨nd, rfl⟩⟩; (try first | exact ⟨rfl, _, World.drewN_drewN _ _ _⟩ | exact ⟨rfl, _, Eq.trans (World.drewN_drewN _ _ _) (congrArg (World.drewN _) (Nat.add_assoc _ _ _))⟩)))
      repeat (go_quiet (first | (go_at_call 23; (with_reducible refine (zav.calls k _ _ l0_0 true _ ?side1 ?side2 A11.out).mono ?_); (case side1 => repeat (first | exact (Kd.zay HR0_0.out HB.out) | (with_reducible refine Kd.za2 ?_ _) | (with_reducible refine Kd.za1 ?_ _) | (with_reducible refine Kd.za7 ?_))); (case side2 => exact HC0_0.out); rintro e w' ⟨rfl, ⟨nd, rfl⟩⟩; (try first | exact ⟨rfl, _, World.drewN_drewN _ _ _⟩ | exact ⟨rfl, _, Eq.trans (World.drewN_drewN _ _ _) (congrArg (World.drewN _) (Nat.add_assoc _ _ _))⟩)) | (go_at_call 23; (with_reducible refine (zav.calls k _ _ l0_1 t110 _ ?side1 ?side2 A13.out).mono ?_); (case side1 => repeat (first | exact (Kd.zay HR0_1.out (by repeat (first | (with_reducible first | exact HB.out | apply zaf | apply zac | apply zad | refine zaj ?_ GE108.out) | exact HB.out))) | (with_reducible refine Kd.za2 ?_ _) | (with_reducible refine Kd.za1 ?_ _) | (with_reducible refine Kd.za7 ?_))); (case side2 => exact HC0_1.out); rintro e w' ⟨rfl, ⟨nd, rfl⟩⟩; (try first | exact ⟨rfl, _, World.drewN_drewN _ _ _⟩ | exact ⟨rfl, _, Eq.trans (World.drewN_drewN _ _ _) (congrArg (World.drewN _) (Nat.add_assoc _ _ _))⟩))); try go_wp2_with (first | (go_at_call 23; (with_reducible refine (zav.calls k _ _ l0_0 true _ ?side1 ?side2 A11.out).mono ?_); (case side1 => repeat (first | exact (Kd.zay HR0_0.out HB.out) | (with_reducible refine Kd.za2 ?_ _) | (with_reducible refine Kd.za1 ?_ _) | (with_reducible refine Kd.za7 ?_))); (case side2 => exact HC0_0.out); rintro e w' ⟨rfl, ⟨nd, rfl⟩⟩; (try first | exact ⟨rfl, _, World.drewN_drewN _ _ _⟩ | exact ⟨rfl, _, Eq.trans (World.drewN_drewN _ _ _) (congrArg (World.drewN _) (Nat.add_assoc _ _ _))⟩)) | (go_at_call 23; (with_reducible refine (zav.calls k _ _ l0_1 t110 _ ?side1 ?side2 A13.out).mono ?_); (case side1 => repeat (first | exact (Kd.zay HR0_1.out (by repeat (first | (with_reducible first | exact HB.out | apply zaf | apply zac | apply zad | refine zaj ?_ GE108.out) | exact HB.out))) | (with_reducible refine Kd.za2 ?_ _) | (with_reducible refine Kd.za1 ?_ _) | (with_reducible refine Kd.za7 ?_))); (case side2 => exact HC0_1.out); rintro e w' ⟨rfl, ⟨nd, rfl⟩⟩; (try first | exact ⟨rfl, _, World.drewN_drewN _ _ _⟩ | exact ⟨rfl, _, Eq.trans (World.drewN_drewN _ _ _) (congrArg (World.drewN _) (Nat.add_assoc _ _ _))⟩))))
      go_meet
      case rel => exact ⟨_, (!t110), (by first | rfl | (simp; done) | (simp [*]; done)), H', ⟨by first | omega | exact Nat.le_refl _⟩, ⟨by (with_reducible repeat (first | refine zai ?_ _ | refine zae ?_ | refine zah ?_ _)); exact BK108.out⟩, ⟨by repeat (first | (with_reducible first | exact HB.out | apply zaf | apply zac | apply zad | refine zaj ?_ GE108.out) | exact HB.out)⟩⟩
     ·replace c12 := Bool.eq_false_iff.mpr c12
      subst c12
      have H1 : (zam.j0 k (wrap64 ((l0_0.length : Int) + (l0_1.length : Int))) true l0_0 l0_1 l0_2) = some r := by rw [if_neg (show ¬ (false = true) by decide)] at H; exact H
      clear H
      have H := H1
      clear H1
      have H' := zaa.mk H
      clear H
      have hcz15_0 : w3.cell? ⟨gb108, 0, none⟩ = some (.slice A0_0 l0_0.length c0_0) := (zab BK108.out 0).trans rfl
      have hcz15_1 : w3.cell? ⟨gb108, 1, none⟩ = some (.slice A0_1 l0_1.length c0_1) := (zab BK108.out 1).trans rfl
      have hcz15_2 : w3.cell? ⟨gb108, 2, none⟩ = some (.slice A0_2 l0_2.length c0_2) := (zab BK108.out 2).trans rfl
      have hfz15_0 := zak BK108.out 0
      have hfz15_1 := zak BK108.out 1
      have hfz15_2 := zak BK108.out 2
      go_wp2_with (first | (go_at_call 23; (with_reducible refine (zav.calls k _ _ l0_0 false _ ?side1 ?side2 A11.out).mono ?_); (case side1 => repeat (first | exact (Kd.zay HR0_0.out HB.out) | (with_reducible refine Kd.za2 ?_ _) | (with_reducible refine Kd.za1 ?_ _) | (with_reducible refine Kd.za7 ?_))); (case side2 => exact HC0_0.out); rintro e w' ⟨rfl, ⟨nd, rfl⟩⟩; (try first | exact ⟨rfl, _, World.drewN_drewN _ _ _⟩ | exact ⟨rfl, _, Eq.trans (World.drewN_drewN _ _ _) (congrArg (World.drewN _) (Nat.add_assoc _ _ _))⟩)))
      repeat (go_quiet (first | (go_at_call 23; (with_reducible refine (zav.calls k _ _ l0_0 false _ ?side1 ?side2 A11.out).mono ?_); (case side1 => repeat (first | exact (Kd.zay HR0_0.out HB.out) | (with_reducible refine Kd.za2 ?_ _) | (with_reducible refine Kd.za1 ?_ _) | (with_reducible refine Kd.za7 ?_))); (case side2 => exact HC0_0.out); rintro e w' ⟨rfl, ⟨nd, rfl⟩⟩; (try first | exact ⟨rfl, _, World.drewN_drewN _ _ _⟩ | exact ⟨rfl, _, Eq.trans (World.drewN_drewN _ _ _) (congrArg (World.drewN _) (Nat.add_assoc _ _ _))⟩))); try go_wp2_with (first | (go_at_call 23; (with_reducible refine (zav.calls k _ _ l0_0 false _ ?side1 ?side2 A11.out).mono ?_); (case side1 => repeat (first | exact (Kd.zay HR0_0.out HB.out) | (with_reducible refine Kd.za2 ?_ _) | (with_reducible refine Kd.za1 ?_ _) | (with_reducible refine Kd.za7 ?_))); (case side2 => exact HC0_0.out); rintro e w' ⟨rfl, ⟨nd, rfl⟩⟩; (try first | exact ⟨rfl, _, World.drewN_drewN _ _ _⟩ | exact ⟨rfl, _, Eq.trans (World.drewN_drewN _ _ _) (congrArg (World.drewN _) (Nat.add_assoc _ _ _))⟩))))
      go_meet
      case rel => exact ⟨_, (true), (by first | rfl | (simp; done) | (simp [*]; done)), H', ⟨by first | omega | exact Nat.le_refl _⟩, ⟨by (with_reducible repeat (first | refine zai ?_ _ | refine zae ?_ | refine zah ?_ _)); exact BK108.out⟩, ⟨by repeat (first | (with_reducible first | exact HB.out | apply zaf | apply zac | apply zad | refine zaj ?_ GE108.out) | exact HB.out)⟩⟩
 case rest =>
  clear HC2
  try clear c1
  try clear p2
  try clear c5
  try clear c5b0
  try clear c5b1
  try clear c5b2
  try clear p6
  try clear c7
  try clear c7b0
  try clear c9
  try clear c9b0
  try clear c9b1
  try clear c12
  try clear c14
  try clear hcz10_0
  try clear hcz10_1
  try clear hcz10_2
  try clear hcz14_0
  try clear hcz14_1
  try clear hcz14_2
  try clear hcz15_0
  try clear hcz15_1
  try clear hcz15_2
  try clear hcz4_0
  try clear hcz4_1
  try clear hcz4_2
  try clear hcz6_0
  try clear hcz6_1
  try clear hcz6_2
  try clear hcz8_0
  try clear hcz8_1
  try clear hcz8_2
  try clear hfz10_0
  try clear hfz10_1
  try clear hfz10_2
  try clear hfz14_0
  try clear hfz14_1
  try clear hfz14_2
  try clear hfz15_0
  try clear hfz15_1
  try clear hfz15_2
  try clear hfz4_0
  try clear hfz4_1
  try clear hfz4_2
  try clear hfz6_0
  try clear hfz6_1
  try clear hfz6_2
  try clear hfz8_0
  try clear hfz8_1
  try clear hfz8_2
  obtain ⟨kq, x40_1, rfl, HA, HJ1, BK108, HB⟩ := hcut
  cases kq with
  | zero => exact absurd HA.out (by simp [zam.j0])
  | succ kj1 =>
   have H := HA.out
   clear HA
   simp only [zam.j0] at H
   by_cases c16 : x40_1 = true
   ·subst c16
    have H1 : (some false) = some r := by rw [if_pos rfl] at H; exact H
    clear H
    have H := H1
    clear H1
    obtain rfl := Option.some.inj H
    go_wp2
    repeat (go_quiet (fail); try go_wp2)
    go_ret
    exact ⟨by first | rfl | (simp [za6, za4] <;> rfl) | (simp [*, za6, za4] <;> rfl), by repeat (first | (with_reducible first | exact HB.out | apply zaf | apply zac | apply zad | refine zaj ?_ GE108.out) | exact HB.out)⟩
   ·replace c16 := Bool.eq_false_iff.mpr c16
    subst c16
    have H1 : (zam.l0 kj1 (wrap64 ((l0_0.length : Int) + (l0_1.length : Int))) 0 l0_0 l0_1 l0_2) = some r := by rw [if_neg (show ¬ (false = true) by decide)] at H; exact H
    clear H
    have H := H1
    clear H1
    have H' := zaa.mk H
    clear H
    go_wp2
    repeat (go_quiet (fail); try go_wp2)
    go_loopg [4] kj1 (fun kq v4 w' => ∃ (x4_2 : Int), v4 = .int .i64 x4_2 ∧ zaa (zam.l0 kq (wrap64 ((l0_0.length : Int) + (l0_1.length : Int))) x4_2 l0_0 l0_1 l0_2 = some r) ∧ zaa (kq ≤ kj1) ∧ zaa (w'.heap[gb108]? = some (.cells #[(.slice A0_0 l0_0.length c0_0), (.slice A0_1 l0_1.length c0_1), (.slice A0_2 l0_2.length c0_2)] 25 (0, 0))) ∧ zaa (Below w.heap.size w w'))
    case atStart => exact ⟨(0), (by first | rfl | (simp; done) | (simp [*]; done)), H', ⟨Nat.le_refl _⟩, ⟨by (with_reducible repeat (first | refine zai ?_ _ | refine zae ?_ | refine zah ?_ _)); exact BK108.out⟩, ⟨by repeat (first | (with_reducible first | exact HB.out | apply zaf | apply zac | apply zad | refine zaj ?_ GE108.out) | exact HB.out)⟩⟩
    case round =>
     clear H'
     try clear c1
     try clear p2
     try clear c5
     try clear c5b0
     try clear c5b1
     try clear c5b2
     try clear p6
     try clear c7
     try clear c7b0
     try clear c9
     try clear c9b0
     try clear c9b1
     try clear c12
     try clear c14
     try clear c16
     try clear hcz10_0
     try clear hcz10_1
     try clear hcz10_2
     try clear hcz14_0
     try clear hcz14_1
     try clear hcz14_2
     try clear hcz15_0
     try clear hcz15_1
     try clear hcz15_2
     try clear hcz4_0
     try clear hcz4_1
     try clear hcz4_2
     try clear hcz6_0
     try clear hcz6_1
     try clear hcz6_2
     try clear hcz8_0
     try clear hcz8_1
     try clear hcz8_2
     try clear hfz10_0
     try clear hfz10_1
     try clear hfz10_2
     try clear hfz14_0
     try clear hfz14_1
     try clear hfz14_2
     try clear hfz15_0
     try clear hfz15_1
     try clear hfz15_2
     try clear hfz4_0
     try clear hfz4_1
     try clear hfz4_2
     try clear hfz6_0
     try clear hfz6_1
     try clear hfz6_2
     try clear hfz8_0
     try clear hfz8_1
     try clear hfz8_2
     try clear p2
     try clear p6
     obtain ⟨x4_2, rfl, HA, HK2, BK108, HB⟩ := hrel
     cases gk with
     | zero => exact absurd HA.out (by simp [zam.l0])
     | succ k2 =>
      have H := HA.out
      clear HA
      simp only [zam.l0] at H
      by_cases c17 : x4_2 < (l0_2.length : Int)
      ·rw [if_pos c17] at H
       have c17b0 : decide (x4_2 < (l0_2.length : Int)) = true := decide_eq_true c17
       clear c17
       by_cases c18 : 0 ≤ x4_2
       ·rw [if_pos c18] at H
        have c18b0 : decide (0 ≤ x4_2) = true := decide_eq_true c18
        clear c18
        have HC19 := zaa.mk H
        clear H
        have hcz20_0 : wr.cell? ⟨gb108, 0, none⟩ = some (.slice A0_0 l0_0.length c0_0) := (zab BK108.out 0).trans rfl
        have hcz20_1 : wr.cell? ⟨gb108, 1, none⟩ = some (.slice A0_1 l0_1.length c0_1) := (zab BK108.out 1).trans rfl
        have hcz20_2 : wr.cell? ⟨gb108, 2, none⟩ = some (.slice A0_2 l0_2.length c0_2) := (zab BK108.out 2).trans rfl
        have hfz20_0 := zak BK108.out 0
        have hfz20_1 := zak BK108.out 1
        have hfz20_2 := zak BK108.out 2
        have p111 : 0 ≤ (x4_2 : Int) := of_decide_eq_true (by first | (with_reducible assumption) | assumption)
        have q111 : x4_2 < (l0_2.length : Int) := of_decide_eq_true (by first | (with_reducible assumption) | assumption)
        obtain ⟨ad111, A111_1, c111_1, e111, hx111_0, hx111_1, hx111_2, hl111_1, hi111_1⟩ := at_T46 HR0_2.out x4_2 p111 q111
        cases e111
        replace hx111_0 := (HB.out.cell (World.block_lt_of_cell? w _ hx111_0)).trans hx111_0
        replace hx111_1 := (HB.out.cell (World.block_lt_of_cell? w _ hx111_1)).trans hx111_1
        replace hx111_2 := (HB.out.cell (World.block_lt_of_cell? w _ hx111_2)).trans hx111_2
        have HR111_1 := zaa.mk hi111_1
        have HC111_1 := zaa.mk hl111_1
        clear hi111_1 hl111_1
        replace p111 := eq_true p111
        replace q111 := eq_true q111
        go_upto_region 8 with (first | ((with_reducible refine zba (N := 5) rfl ?_); (try (refine zbc (by rfl) ?_; dsimp only)); refine za9 ?hg (N := 5) ?hd (cs := #[.int .i64 0, .slice none 0 0, .int .i64 0]) (t := 46) ?hr ?_; (case hd => rfl); (case hg => rfl); (case hr => first | (go_simp; done) | (go_simp; rfl)); intro gb112 hg w21 hbox hb; have n0_ := zaa.mk (zaq (g := gb108) (o := .cells #[.slice A0_0 l0_0.length c0_0, .slice A0_1 l0_1.length c0_1, .slice (some ad111) l0_2.length c0_2] 25 (0, 0)) (by (with_reducible repeat (first | refine zai ?_ _ | refine zae ?_ | refine zah ?_ _)); exact BK108.out) hb); have n1_ := zaa.mk (zax (by repeat (first | (with_reducible first | exact HB.out | apply zaf | apply zac | apply zad | refine zaj ?_ GE108.out) | exact HB.out)) hb); have n2_ := zaa.mk (hbox); have n3_ := zaa.mk ((by rw [hg]; exact (zat (by repeat (first | (with_reducible first | exact HB.out | apply zaf | apply zac | apply zad | refine zaj ?_ GE108.out) | exact HB.out))) : w.heap.size ≤ gb112)); have n4_ := zaa.mk ((by rw [hg]; exact (zat (by repeat (first | (with_reducible first | exact HB.out | apply zaf | apply zac | apply zad | refine zaj ?_ GE108.out) | exact HB.out))) : w.heap.size ≤ gb112)); have n5_ := zaa.mk ((by rw [hg]; exact Nat.ne_of_lt (zaw (g := gb108) (o := .cells #[.slice A0_0 l0_0.length c0_0, .slice A0_1 l0_1.length c0_1, .slice (some ad111) l0_2.length c0_2] 25 (0, 0)) (by (with_reducible repeat (first | refine zai ?_ _ | refine zae ?_ | refine zah ?_ _)); exact BK108.out)) : gb108 ≠ gb112)); have n6_ := zaa.mk ((by rw [hg]; exact Nat.ne_of_gt (zaw (g := gb108) (o := .cells #[.slice A0_0 l0_0.length c0_0, .slice A0_1 l0_1.length c0_1, .slice (some ad111) l0_2.length c0_2] 25 (0, 0)) (by (with_reducible repeat (first | refine zai ?_ _ | refine zae ?_ | refine zah ?_ _)); exact BK108.out)) : gb112 ≠ gb108)); clear BK108; clear HB; have BK108 := n0_; have HB := n1_; have BK112 := n2_; have GW112 := n3_; have GE112 := n4_; have NB108_112 := n5_; have NB112_108 := n6_; clear n0_ n1_ n2_ n3_ n4_ n5_ n6_; clear hb hbox hg; have hnb22 := NB112_108.out; have hnc22 := NB108_112.out; have hcz23_0 : w21.cell? ⟨gb112, 0, none⟩ = some (.int .i64 0) := (zab BK112.out 0).trans rfl; have hcz23_1 : w21.cell? ⟨gb112, 1, none⟩ = some (.slice none 0 0) := (zab BK112.out 1).trans rfl; have hcz23_2 : w21.cell? ⟨gb112, 2, none⟩ = some (.int .i64 0) := (zab BK112.out 2).trans rfl; have hfz23_0 := zak BK112.out 0; have hfz23_1 := zak BK112.out 1; have hfz23_2 := zak BK112.out 2))
        repeat (go_quiet (first | ((with_reducible refine zba (N := 5) rfl ?_); (try (refine zbc (by rfl) ?_; dsimp only)); refine za9 ?hg (N := 5) ?hd (cs := #[.int .i64 0, .slice none 0 0, .int .i64 0]) (t := 46) ?hr ?_; (case hd => rfl); (case hg => rfl); (case hr => first | (go_simp; done) | (go_simp; rfl)); intro gb112 hg w21 hbox hb; have n0_ := zaa.mk (zaq (g := gb108) (o := .cells #[.slice A0_0 l0_0.length c0_0, .slice A0_1 l0_1.length c0_1, .slice (some ad111) l0_2.length c0_2] 25 (0, 0)) (by (with_reducible repeat (first | refine zai ?_ _ | refine zae ?_ | refine zah ?_ _)); exact BK108.out) hb); have n1_ := zaa.mk (zax (by repeat (first | (with_reducible first | exact HB.out | apply zaf | apply zac | apply zad | refine zaj ?_ GE108.out) | exact HB.out)) hb); have n2_ := zaa.mk (hbox); have n3_ := zaa.mk ((by rw [hg]; exact (zat (by repeat (first | (with_reducible first | exact HB.out | apply zaf | apply zac | apply zad | refine zaj ?_ GE108.out) | exact HB.out))) : w.heap.size ≤ gb112)); have n4_ := zaa.mk ((by rw [hg]; exact (zat (by repeat (first | (with_reducible first | exact HB.out | apply zaf | apply zac | apply zad | refine zaj ?_ GE108.out) | exact HB.out))) : w.heap.size ≤ gb112)); have n5_ := zaa.mk ((by rw [hg]; exact Nat.ne_of_lt (zaw (g := gb108) (o := .cells #[.slice A0_0 l0_0.length c0_0, .slice A0_1 l0_1.length c0_1, .slice (some ad111) l0_2.length c0_2] 25 (0, 0)) (by (with_reducible repeat (first | refine zai ?_ _ | refine zae ?_ | refine zah ?_ _)); exact BK108.out)) : gb108 ≠ gb112)); have n6_ := zaa.mk ((by rw [hg]; exact Nat.ne_of_gt (zaw (g := gb108) (o := .cells #[.slice A0_0 l0_0.length c0_0, .slice A0_1 l0_1.length c0_1, .slice (some ad111) l0_2.length c0_2] 25 (0, 0)) (by (with_reducible repeat (first | refine zai ?_ _ | refine zae ?_ | refine zah ?_ _)); exact BK108.out)) : gb112 ≠ gb108)); clear BK108; clear HB; have BK108 := n0_; have HB := n1_; have BK112 := n2_; have GW112 := n3_; have GE112 := n4_; have NB108_112 := n5_; have NB112_108 := n6_; clear n0_ n1_ n2_ n3_ n4_ n5_ n6_; clear hb hbox hg; have hnb22 := NB112_108.out; have hnc22 := NB108_112.out; have hcz23_0 : w21.cell? ⟨gb112, 0, none⟩ = some (.int .i64 0) := (zab BK112.out 0).trans rfl; have hcz23_1 : w21.cell? ⟨gb112, 1, none⟩ = some (.slice none 0 0) := (zab BK112.out 1).trans rfl; have hcz23_2 : w21.cell? ⟨gb112, 2, none⟩ = some (.int .i64 0) := (zab BK112.out 2).trans rfl; have hfz23_0 := zak BK112.out 0; have hfz23_1 := zak BK112.out 1; have hfz23_2 := zak BK112.out 2)); go_upto_region 8 with (first | ((with_reducible refine zba (N := 5) rfl ?_); (try (refine zbc (by rfl) ?_; dsimp only)); refine za9 ?hg (N := 5) ?hd (cs := #[.int .i64 0, .slice none 0 0, .int .i64 0]) (t := 46) ?hr ?_; (case hd => rfl); (case hg => rfl); (case hr => first | (go_simp; done) | (go_simp; rfl)); intro gb112 hg w21 hbox hb; have n0_ := zaa.mk (zaq (g := gb108) (o := .cells #[.slice A0_0 l0_0.length c0_0, .slice A0_1 l0_1.length c0_1, .slice (some ad111) l0_2.length c0_2] 25 (0, 0)) (by (with_reducible repeat (first | refine zai ?_ _ | refine zae ?_ | refine zah ?_ _)); exact BK108.out) hb); have n1_ := zaa.mk (zax (by repeat (first | (with_reducible first | exact HB.out | apply zaf | apply zac | apply zad | refine zaj ?_ GE108.out) | exact HB.out)) hb); have n2_ := zaa.mk (hbox); have n3_ := zaa.mk ((by rw [hg]; exact (zat (by repeat (first | (with_reducible first | exact HB.out | apply zaf | apply zac | apply zad | refine zaj ?_ GE108.out) | exact HB.out))) : w.heap.size ≤ gb112)); have n4_ := zaa.mk ((by rw [hg]; exact (zat (by repeat (first | (with_reducible first | exact HB.out | apply zaf | apply zac | apply zad | refine zaj ?_ GE108.out) | exact HB.out))) : w.heap.size ≤ gb112)); have n5_ := zaa.mk ((by rw [hg]; exact Nat.ne_of_lt (zaw (g := gb108) (o := .cells #[.slice A0_0 l0_0.length c0_0, .slice A0_1 l0_1.length c0_1, .slice (some ad111) l0_2.length c0_2] 25 (0, 0)) (by (with_reducible repeat (first | refine zai ?_ _ | refine zae ?_ | refine zah ?_ _)); exact BK108.out)) : gb108 ≠ gb112)); have n6_ := zaa.mk ((by rw [hg]; exact Nat.ne_of_gt (zaw (g := gb108) (o := .cells #[.slice A0_0 l0_0.length c0_0, .slice A0_1 l0_1.length c0_1, .slice (some ad111) l0_2.length c0_2] 25 (0, 0)) (by (with_reducible repeat (first | refine zai ?_ _ | refine zae ?_ | refine zah ?_ _)); exact BK108.out)) : gb112 ≠ gb108)); clear BK108; clear HB; have BK108 := n0_; have HB := n1_; have BK112 := n2_; have GW112 := n3_; have GE112 := n4_; have NB108_112 := n5_; have NB112_108 := n6_; clear n0_ n1_ n2_ n3_ n4_ n5_ n6_; clear hb hbox hg; have hnb22 := NB112_108.out; have hnc22 := NB108_112.out; have hcz23_0 : w21.cell? ⟨gb112, 0, none⟩ = some (.int .i64 0) := (zab BK112.out 0).trans rfl; have hcz23_1 : w21.cell? ⟨gb112, 1, none⟩ = some (.slice none 0 0) := (zab BK112.out 1).trans rfl; have hcz23_2 : w21.cell? ⟨gb112, 2, none⟩ = some (.int .i64 0) := (zab BK112.out 2).trans rfl; have hfz23_0 := zak BK112.out 0; have hfz23_1 := zak BK112.out 1; have hfz23_2 := zak BK112.out 2)))
        (try simp only [Act.put, Y1, Y2, Y3])
        go_cut [96] (fun v96 wc => ∃ (kq : Nat) (x96_18 : Bool), v96 = .bool x96_18 ∧ zaa (zam.j2 kq (wrap64 ((l0_0.length : Int) + (l0_1.length : Int))) x4_2 x96_18 l0_0 l0_1 l0_2 ((zal l0_2 x4_2).f0) ((zal l0_2 x4_2).f1) ((zal l0_2 x4_2).f2) = some r) ∧ zaa (kq ≤ k2) ∧ zaa (wc.heap[gb108]? = some (.cells #[(.slice A0_0 l0_0.length c0_0), (.slice A0_1 l0_1.length c0_1), (.slice (some ad111) l0_2.length c0_2)] 25 (0, 0))) ∧ zaa (wc.heap[gb112]? = some (.cells #[.int .i64 ((zal l0_2 x4_2).f0), (.slice A111_1 ((zal l0_2 x4_2).f1).length c111_1), .int .i64 ((zal l0_2 x4_2).f2)] 46 (0, 0))) ∧ zaa (Below w.heap.size w wc))
        case first =>
         have H := HC19.out
         clear HC19
         by_cases c24 : ((zal l0_2 x4_2).f0) < (l0_0.length : Int)
         ·rw [if_pos c24] at H
          have c24b0 : decide (((zal l0_2 x4_2).f0) < (l0_0.length : Int)) = true := decide_eq_true c24
          clear c24
          (first | rw [c24b0] | (simp only [i64_w, i32_w]; rw [c24b0]) | skip)
          have H' := zaa.mk H
          clear H
          have hnb25 := NB112_108.out
          have hnc25 := NB108_112.out
          have hcz26_0 : w21.cell? ⟨gb112, 0, none⟩ = some (.int .i64 0) := (zab BK112.out 0).trans rfl
          have hcz26_1 : w21.cell? ⟨gb112, 1, none⟩ = some (.slice none 0 0) := (zab BK112.out 1).trans rfl
          have hcz26_2 : w21.cell? ⟨gb112, 2, none⟩ = some (.int .i64 0) := (zab BK112.out 2).trans rfl
          have hfz26_0 := zak BK112.out 0
          have hfz26_1 := zak BK112.out 1
          have hfz26_2 := zak BK112.out 2
          have hcz27_0 : w21.cell? ⟨gb108, 0, none⟩ = some (.slice A0_0 l0_0.length c0_0) := (zab BK108.out 0).trans rfl
          have hcz27_1 : w21.cell? ⟨gb108, 1, none⟩ = some (.slice A0_1 l0_1.length c0_1) := (zab BK108.out 1).trans rfl
          have hcz27_2 : w21.cell? ⟨gb108, 2, none⟩ = some (.slice (some ad111) l0_2.length c0_2) := (zab BK108.out 2).trans rfl
          have hfz27_0 := zak BK108.out 0
          have hfz27_1 := zak BK108.out 1
          have hfz27_2 := zak BK108.out 2
          go_wp2
          repeat (go_quiet (fail); try go_wp2)
          go_meet
          case rel => exact ⟨_, (true), (by first | rfl | (simp; done) | (simp [*]; done)), H', ⟨by have := HJ1.out; have := HK2.out; first | omega | exact Nat.le_refl _⟩, ⟨by (with_reducible repeat (first | refine zai ?_ _ | refine zae ?_ | refine zah ?_ _)); refine zbh ?_ NB108_112.out _; (with_reducible repeat (first | refine zai ?_ _ | refine zae ?_ | refine zah ?_ _)); refine zbh ?_ NB108_112.out _; (with_reducible repeat (first | refine zai ?_ _ | refine zae ?_ | refine zah ?_ _)); refine zbh ?_ NB108_112.out _; (with_reducible repeat (first | refine zai ?_ _ | refine zae ?_ | refine zah ?_ _)); exact BK108.out⟩, ⟨by (with_reducible repeat (first | refine zai ?_ _ | refine zae ?_ | refine zah ?_ _)); refine zbm (cs := #[.int .i64 ((zal l0_2 x4_2).f0), .slice A111_1 ((zal l0_2 x4_2).f1).length c111_1, .int .i64 0]) ?_ 2 _ rfl; (with_reducible repeat (first | refine zai ?_ _ | refine zae ?_ | refine zah ?_ _)); refine zbm (cs := #[.int .i64 ((zal l0_2 x4_2).f0), .slice none 0 0, .int .i64 0]) ?_ 1 _ rfl; (with_reducible repeat (first | refine zai ?_ _ | refine zae ?_ | refine zah ?_ _)); refine zbm (cs := #[.int .i64 0, .slice none 0 0, .int .i64 0]) ?_ 0 _ rfl; (with_reducible repeat (first | refine zai ?_ _ | refine zae ?_ | refine zah ?_ _)); exact BK112.out⟩, ⟨by repeat (first | (with_reducible first | exact HB.out | apply zaf | apply zac | apply zad | refine zaj ?_ GE108.out | refine zaj ?_ GE112.out) | exact HB.out)⟩⟩
         ·rw [if_neg c24] at H
          have c24b0 : decide (((zal l0_2 x4_2).f0) < (l0_0.length : Int)) = false := decide_eq_false c24
          clear c24
          (first | rw [c24b0] | (simp only [i64_w, i32_w]; rw [c24b0]) | skip)
          by_cases c28 : ((zal l0_2 x4_2).f0) ≥ (wrap64 ((l0_0.length : Int) + (l0_1.length : Int)))
          ·rw [if_pos c28] at H
           have c28b0 : decide ((wrap64 ((l0_0.length : Int) + (l0_1.length : Int))) ≤ ((zal l0_2 x4_2).f0)) = true := decide_eq_true c28
           clear c28
           have H' := zaa.mk H
           clear H
           have hnb29 := NB112_108.out
           have hnc29 := NB108_112.out
           have hcz30_0 : w21.cell? ⟨gb112, 0, none⟩ = some (.int .i64 0) := (zab BK112.out 0).trans rfl
           have hcz30_1 : w21.cell? ⟨gb112, 1, none⟩ = some (.slice none 0 0) := (zab BK112.out 1).trans rfl
           have hcz30_2 : w21.cell? ⟨gb112, 2, none⟩ = some (.int .i64 0) := (zab BK112.out 2).trans rfl
           have hfz30_0 := zak BK112.out 0
           have hfz30_1 := zak BK112.out 1
           have hfz30_2 := zak BK112.out 2
           have hcz31_0 : w21.cell? ⟨gb108, 0, none⟩ = some (.slice A0_0 l0_0.length c0_0) := (zab BK108.out 0).trans rfl
           have hcz31_1 : w21.cell? ⟨gb108, 1, none⟩ = some (.slice A0_1 l0_1.length c0_1) := (zab BK108.out 1).trans rfl
           have hcz31_2 : w21.cell? ⟨gb108, 2, none⟩ = some (.slice (some ad111) l0_2.length c0_2) := (zab BK108.out 2).trans rfl
           have hfz31_0 := zak BK108.out 0
           have hfz31_1 := zak BK108.out 1
           have hfz31_2 := zak BK108.out 2
           go_wp2
           repeat (go_quiet (fail); try go_wp2)
           go_meet
           case rel => exact ⟨_, (true), (by first | rfl | (simp; done) | (simp [*]; done)), H', ⟨by have := HJ1.out; have := HK2.out; first | omega | exact Nat.le_refl _⟩, ⟨by (with_reducible repeat (first | refine zai ?_ _ | refine zae ?_ | refine zah ?_ _)); refine zbh ?_ NB108_112.out _; (with_reducible repeat (first | refine zai ?_ _ | refine zae ?_ | refine zah ?_ _)); refine zbh ?_ NB108_112.out _; (with_reducible repeat (first | refine zai ?_ _ | refine zae ?_ | refine zah ?_ _)); refine zbh ?_ NB108_112.out _; (with_reducible repeat (first | refine zai ?_ _ | refine zae ?_ | refine zah ?_ _)); exact BK108.out⟩, ⟨by (with_reducible repeat (first | refine zai ?_ _ | refine zae ?_ | refine zah ?_ _)); refine zbm (cs := #[.int .i64 ((zal l0_2 x4_2).f0), .slice A111_1 ((zal l0_2 x4_2).f1).length c111_1, .int .i64 0]) ?_ 2 _ rfl; (with_reducible repeat (first | refine zai ?_ _ | refine zae ?_ | refine zah ?_ _)); refine zbm (cs := #[.int .i64 ((zal l0_2 x4_2).f0), .slice none 0 0, .int .i64 0]) ?_ 1 _ rfl; (with_reducible repeat (first | refine zai ?_ _ | refine zae ?_ | refine zah ?_ _)); refine zbm (cs := #[.int .i64 0, .slice none 0 0, .int .i64 0]) ?_ 0 _ rfl; (with_reducible repeat (first | refine zai ?_ _ | refine zae ?_ | refine zah ?_ _)); exact BK112.out⟩, ⟨by repeat (first | (with_reducible first | exact HB.out | apply zaf | apply zac | apply zad | refine zaj ?_ GE108.out | refine zaj ?_ GE112.out) | exact HB.out)⟩⟩
          ·rw [if_neg c28] at H
           have c28b0 : decide ((wrap64 ((l0_0.length : Int) + (l0_1.length : Int))) ≤ ((zal l0_2 x4_2).f0)) = false := decide_eq_false c28
           clear c28
           by_cases c32 : x4_2 > 0
           ·rw [if_pos c32] at H
            have c32b0 : decide (0 < x4_2) = true := decide_eq_true c32
            clear c32
            obtain ⟨ji33, hji33⟩ : ∃ j_ : Int, (wrap64 (x4_2 - 1)) = j_ := ⟨_, rfl⟩
            replace H : (if 0 ≤ (ji33) then (if (ji33) < (l0_2.length : Int) then (if ((zal l0_2 (ji33)).f0) > ((zal l0_2 x4_2).f0) then (zam.j2 k2 (wrap64 ((l0_0.length : Int) + (l0_1.length : Int))) x4_2 true l0_0 l0_1 l0_2 ((zal l0_2 x4_2).f0) ((zal l0_2 x4_2).f1) ((zal l0_2 x4_2).f2)) else (if (((zal l0_2 x4_2).f1).length : Int) > 64 then (zam.j2 k2 (wrap64 ((l0_0.length : Int) + (l0_1.length : Int))) x4_2 true l0_0 l0_1 l0_2 ((zal l0_2 x4_2).f0) ((zal l0_2 x4_2).f1) ((zal l0_2 x4_2).f2)) else (if ((zal l0_2 x4_2).f2) < (-10000) then (zam.j2 k2 (wrap64 ((l0_0.length : Int) + (l0_1.length : Int))) x4_2 true l0_0 l0_1 l0_2 ((zal l0_2 x4_2).f0) ((zal l0_2 x4_2).f1) ((zal l0_2 x4_2).f2)) else (zam.j2 k2 (wrap64 ((l0_0.length : Int) + (l0_1.length : Int))) x4_2 (decide (((zal l0_2 x4_2).f2) > 10000)) l0_0 l0_1 l0_2 ((zal l0_2 x4_2).f0) ((zal l0_2 x4_2).f1) ((zal l0_2 x4_2).f2))))) else (none)) else (none)) = some r := by first | (rw [hji33] at H; exact H) | (simp only [hji33] at H ⊢; exact H)
            have hji33w : (IntKind.i64.wrap (x4_2 - 1)) = ji33 := (i64_w _).trans hji33
            by_cases c34 : 0 ≤ (ji33)
            ·rw [if_pos c34] at H
             have c34b0 : decide (0 ≤ (ji33)) = true := decide_eq_true c34
             clear c34
             by_cases c35 : (ji33) < (l0_2.length : Int)
             ·rw [if_pos c35] at H
              have c35b0 : decide ((ji33) < (l0_2.length : Int)) = true := decide_eq_true c35
              clear c35
              by_cases c36 : ((zal l0_2 (ji33)).f0) > ((zal l0_2 x4_2).f0)
              ·rw [if_pos c36] at H
               have c36b0 : decide (((zal l0_2 x4_2).f0) < ((zal l0_2 (ji33)).f0)) = true := decide_eq_true c36
               clear c36
               have H' := zaa.mk H
               clear H
               have hnb37 := NB112_108.out
               have hnc37 := NB108_112.out
               have hcz38_0 : w21.cell? ⟨gb112, 0, none⟩ = some (.int .i64 0) := (zab BK112.out 0).trans rfl
               have hcz38_1 : w21.cell? ⟨gb112, 1, none⟩ = some (.slice none 0 0) := (zab BK112.out 1).trans rfl
               have hcz38_2 : w21.cell? ⟨gb112, 2, none⟩ = some (.int .i64 0) := (zab BK112.out 2).trans rfl
               have hfz38_0 := zak BK112.out 0
               have hfz38_1 := zak BK112.out 1
               have hfz38_2 := zak BK112.out 2
               have hcz39_0 : w21.cell? ⟨gb108, 0, none⟩ = some (.slice A0_0 l0_0.length c0_0) := (zab BK108.out 0).trans rfl
               have hcz39_1 : w21.cell? ⟨gb108, 1, none⟩ = some (.slice A0_1 l0_1.length c0_1) := (zab BK108.out 1).trans rfl
               have hcz39_2 : w21.cell? ⟨gb108, 2, none⟩ = some (.slice (some ad111) l0_2.length c0_2) := (zab BK108.out 2).trans rfl
               have hfz39_0 := zak BK108.out 0
               have hfz39_1 := zak BK108.out 1
               have hfz39_2 := zak BK108.out 2
               have p113 : 0 ≤ ((ji33) : Int) := of_decide_eq_true (by first | (with_reducible assumption) | assumption)
               have q113 : (ji33) < (l0_2.length : Int) := of_decide_eq_true (by first | (with_reducible assumption) | assumption)
               obtain ⟨ad113, A113_1, c113_1, e113, hx113_0, hx113_1, hx113_2, hl113_1, hi113_1⟩ := at_T46 HR0_2.out (ji33) p113 q113
               obtain rfl : ad111 = ad113 := (by injection e113)
               have hn113_0 : ad111.block ≠ gb112 := Nat.ne_of_lt (Nat.lt_of_lt_of_le (by have := World.block_lt_of_cell? _ _ hx113_0; first | rwa [add_block] at this | exact this) GW112.out)
               have hn113_1 : ad111.block ≠ gb112 := Nat.ne_of_lt (Nat.lt_of_lt_of_le (by have := World.block_lt_of_cell? _ _ hx113_0; first | rwa [add_block] at this | exact this) GW112.out)
               have hn113_2 : ad111.block ≠ gb112 := Nat.ne_of_lt (Nat.lt_of_lt_of_le (by have := World.block_lt_of_cell? _ _ hx113_0; first | rwa [add_block] at this | exact this) GW112.out)
               replace hx113_0 := (HB.out.cell (World.block_lt_of_cell? w _ hx113_0)).trans hx113_0
               replace hx113_1 := (HB.out.cell (World.block_lt_of_cell? w _ hx113_1)).trans hx113_1
               replace hx113_2 := (HB.out.cell (World.block_lt_of_cell? w _ hx113_2)).trans hx113_2
               have HR113_1 := zaa.mk hi113_1
               have HC113_1 := zaa.mk hl113_1
               clear hi113_1 hl113_1
               replace hx113_0 := (cell_far (p := ⟨gb112, 0, none⟩) (by first | (rw [add_block]; exact hn113_0) | (show (Addr.add _ _).block ≠ _; rw [add_block]; exact hn113_0) | exact hn113_0) (.int .i64 ((zal l0_2 x4_2).f0))).trans hx113_0
               replace hx113_1 := (cell_far (p := ⟨gb112, 0, none⟩) (by first | (rw [add_block]; exact hn113_0) | (show (Addr.add _ _).block ≠ _; rw [add_block]; exact hn113_0) | exact hn113_0) (.int .i64 ((zal l0_2 x4_2).f0))).trans hx113_1
               replace hx113_2 := (cell_far (p := ⟨gb112, 0, none⟩) (by first | (rw [add_block]; exact hn113_0) | (show (Addr.add _ _).block ≠ _; rw [add_block]; exact hn113_0) | exact hn113_0) (.int .i64 ((zal l0_2 x4_2).f0))).trans hx113_2
               replace hx113_0 := (cell_far (p := ⟨gb112, 1, none⟩) (by first | (rw [add_block]; exact hn113_1) | (show (Addr.add _ _).block ≠ _; rw [add_block]; exact hn113_1) | exact hn113_1) (.slice A111_1 ((zal l0_2 x4_2).f1).length c111_1)).trans hx113_0
               replace hx113_1 := (cell_far (p := ⟨gb112, 1, none⟩) (by first | (rw [add_block]; exact hn113_1) | (show (Addr.add _ _).block ≠ _; rw [add_block]; exact hn113_1) | exact hn113_1) (.slice A111_1 ((zal l0_2 x4_2).f1).length c111_1)).trans hx113_1
               replace hx113_2 := (cell_far (p := ⟨gb112, 1, none⟩) (by first | (rw [add_block]; exact hn113_1) | (show (Addr.add _ _).block ≠ _; rw [add_block]; exact hn113_1) | exact hn113_1) (.slice A111_1 ((zal l0_2 x4_2).f1).length c111_1)).trans hx113_2
               replace hx113_0 := (cell_far (p := ⟨gb112, 2, none⟩) (by first | (rw [add_block]; exact hn113_2) | (show (Addr.add _ _).block ≠ _; rw [add_block]; exact hn113_2) | exact hn113_2) (.int .i64 ((zal l0_2 x4_2).f2))).trans hx113_0
               replace hx113_1 := (cell_far (p := ⟨gb112, 2, none⟩) (by first | (rw [add_block]; exact hn113_2) | (show (Addr.add _ _).block ≠ _; rw [add_block]; exact hn113_2) | exact hn113_2) (.int .i64 ((zal l0_2 x4_2).f2))).trans hx113_1
               replace hx113_2 := (cell_far (p := ⟨gb112, 2, none⟩) (by first | (rw [add_block]; exact hn113_2) | (show (Addr.add _ _).block ≠ _; rw [add_block]; exact hn113_2) | exact hn113_2) (.int .i64 ((zal l0_2 x4_2).f2))).trans hx113_2
               (try have hy113_0 := fun (n_ : Nat) => (show (((((w21.drewN n_).setCell ⟨gb112, 0, none⟩ (.int .i64 ((zal l0_2 x4_2).f0))).setCell ⟨gb112, 1, none⟩ (.slice A111_1 ((zal l0_2 x4_2).f1).length c111_1)).setCell ⟨gb112, 2, none⟩ (.int .i64 ((zal l0_2 x4_2).f2)))).cell? _ = some _ from hx113_0))
               (try have hy113_1 := fun (n_ : Nat) => (show (((((w21.drewN n_).setCell ⟨gb112, 0, none⟩ (.int .i64 ((zal l0_2 x4_2).f0))).setCell ⟨gb112, 1, none⟩ (.slice A111_1 ((zal l0_2 x4_2).f1).length c111_1)).setCell ⟨gb112, 2, none⟩ (.int .i64 ((zal l0_2 x4_2).f2)))).cell? _ = some _ from hx113_1))
               (try have hy113_2 := fun (n_ : Nat) => (show (((((w21.drewN n_).setCell ⟨gb112, 0, none⟩ (.int .i64 ((zal l0_2 x4_2).f0))).setCell ⟨gb112, 1, none⟩ (.slice A111_1 ((zal l0_2 x4_2).f1).length c111_1)).setCell ⟨gb112, 2, none⟩ (.int .i64 ((zal l0_2 x4_2).f2)))).cell? _ = some _ from hx113_2))
               clear hn113_0
               clear hn113_1
               clear hn113_2
               replace p113 := eq_true p113
               replace q113 := eq_true q113
               go_wp2
               repeat (go_quiet (fail); try go_wp2)
               go_meet
               case rel => exact ⟨_, (true), (by first | rfl | (simp; done) | (simp [*]; done)), H', ⟨by have := HJ1.out; have := HK2.out; first | omega | exact Nat.le_refl _⟩, ⟨by (with_reducible repeat (first | refine zai ?_ _ | refine zae ?_ | refine zah ?_ _)); refine zbh ?_ NB108_112.out _; (with_reducible repeat (first | refine zai ?_ _ | refine zae ?_ | refine zah ?_ _)); refine zbh ?_ NB108_112.out _; (with_reducible repeat (first | refine zai ?_ _ | refine zae ?_ | refine zah ?_ _)); refine zbh ?_ NB108_112.out _; (with_reducible repeat (first | refine zai ?_ _ | refine zae ?_ | refine zah ?_ _)); exact BK108.out⟩, ⟨by (with_reducible repeat (first | refine zai ?_ _ | refine zae ?_ | refine zah ?_ _)); refine zbm (cs := #[.int .i64 ((zal l0_2 x4_2).f0), .slice A111_1 ((zal l0_2 x4_2).f1).length c111_1, .int .i64 0]) ?_ 2 _ rfl; (with_reducible repeat (first | refine zai ?_ _ | refine zae ?_ | refine zah ?_ _)); refine zbm (cs := #[.int .i64 ((zal l0_2 x4_2).f0), .slice none 0 0, .int .i64 0]) ?_ 1 _ rfl; (with_reducible repeat (first | refine zai ?_ _ | refine zae ?_ | refine zah ?_ _)); refine zbm (cs := #[.int .i64 0, .slice none 0 0, .int .i64 0]) ?_ 0 _ rfl; (with_reducible repeat (first | refine zai ?_ _ | refine zae ?_ | refine zah ?_ _)); exact BK112.out⟩, ⟨by repeat (first | (with_reducible first | exact HB.out | apply zaf | apply zac | apply zad | refine zaj ?_ GE108.out | refine zaj ?_ GE112.out) | exact HB.out)⟩⟩
              ·rw [if_neg c36] at H
               have c36b0 : decide (((zal l0_2 x4_2).f0) < ((zal l0_2 (ji33)).f0)) = false := decide_eq_false c36
               clear c36
               by_cases c40 : (((zal l0_2 x4_2).f1).length : Int) > 64
               ·rw [if_pos c40] at H
                have c40b0 : decide (64 < (((zal l0_2 x4_2).f1).length : Int)) = true := decide_eq_true c40
                have c40b1 : decide (64 < ((zal l0_2 x4_2).f1).length) = true := decide_eq_true (by omega)
                clear c40
                have H' := zaa.mk H
                clear H
                have hnb41 := NB112_108.out
                have hnc41 := NB108_112.out
                have hcz42_0 : w21.cell? ⟨gb112, 0, none⟩ = some (.int .i64 0) := (zab BK112.out 0).trans rfl
                have hcz42_1 : w21.cell? ⟨gb112, 1, none⟩ = some (.slice none 0 0) := (zab BK112.out 1).trans rfl
                have hcz42_2 : w21.cell? ⟨gb112, 2, none⟩ = some (.int .i64 0) := (zab BK112.out 2).trans rfl
                have hfz42_0 := zak BK112.out 0
                have hfz42_1 := zak BK112.out 1
                have hfz42_2 := zak BK112.out 2
                have hcz43_0 : w21.cell? ⟨gb108, 0, none⟩ = some (.slice A0_0 l0_0.length c0_0) := (zab BK108.out 0).trans rfl
                have hcz43_1 : w21.cell? ⟨gb108, 1, none⟩ = some (.slice A0_1 l0_1.length c0_1) := (zab BK108.out 1).trans rfl
                have hcz43_2 : w21.cell? ⟨gb108, 2, none⟩ = some (.slice (some ad111) l0_2.length c0_2) := (zab BK108.out 2).trans rfl
                have hfz43_0 := zak BK108.out 0
                have hfz43_1 := zak BK108.out 1
                have hfz43_2 := zak BK108.out 2
                have p113 : 0 ≤ ((ji33) : Int) := of_decide_eq_true (by first | (with_reducible assumption) | assumption)
                have q113 : (ji33) < (l0_2.length : Int) := of_decide_eq_true (by first | (with_reducible assumption) | assumption)
                obtain ⟨ad113, A113_1, c113_1, e113, hx113_0, hx113_1, hx113_2, hl113_1, hi113_1⟩ := at_T46 HR0_2.out (ji33) p113 q113
                obtain rfl : ad111 = ad113 := (by injection e113)
                have hn113_0 : ad111.block ≠ gb112 := Nat.ne_of_lt (Nat.lt_of_lt_of_le (by have := World.block_lt_of_cell? _ _ hx113_0; first | rwa [add_block] at this | exact this) GW112.out)
                have hn113_1 : ad111.block ≠ gb112 := Nat.ne_of_lt (Nat.lt_of_lt_of_le (by have := World.block_lt_of_cell? _ _ hx113_0; first | rwa [add_block] at this | exact this) GW112.out)
                have hn113_2 : ad111.block ≠ gb112 := Nat.ne_of_lt (Nat.lt_of_lt_of_le (by have := World.block_lt_of_cell? _ _ hx113_0; first | rwa [add_block] at this | exact this) GW112.out)
                replace hx113_0 := (HB.out.cell (World.block_lt_of_cell? w _ hx113_0)).trans hx113_0
                replace hx113_1 := (HB.out.cell (World.block_lt_of_cell? w _ hx113_1)).trans hx113_1
                replace hx113_2 := (HB.out.cell (World.block_lt_of_cell? w _ hx113_2)).trans hx113_2
                have HR113_1 := zaa.mk hi113_1
                have HC113_1 := zaa.mk hl113_1
                clear hi113_1 hl113_1
                replace hx113_0 := (cell_far (p := ⟨gb112, 0, none⟩) (by first | (rw [add_block]; exact hn113_0) | (show (Addr.add _ _).block ≠ _; rw [add_block]; exact hn113_0) | exact hn113_0) (.int .i64 ((zal l0_2 x4_2).f0))).trans hx113_0
                replace hx113_1 := (cell_far (p := ⟨gb112, 0, none⟩) (by first | (rw [add_block]; exact hn113_0) | (show (Addr.add _ _).block ≠ _; rw [add_block]; exact hn113_0) | exact hn113_0) (.int .i64 ((zal l0_2 x4_2).f0))).trans hx113_1
                replace hx113_2 := (cell_far (p := ⟨gb112, 0, none⟩) (by first | (rw [add_block]; exact hn113_0) | (show (Addr.add _ _).block ≠ _; rw [add_block]; exact hn113_0) | exact hn113_0) (.int .i64 ((zal l0_2 x4_2).f0))).trans hx113_2
                replace hx113_0 := (cell_far (p := ⟨gb112, 1, none⟩) (by first | (rw [add_block]; exact hn113_1) | (show (Addr.add _ _).block ≠ _; rw [add_block]; exact hn113_1) | exact hn113_1) (.slice A111_1 ((zal l0_2 x4_2).f1).length c111_1)).trans hx113_0
                replace hx113_1 := (cell_far (p := ⟨gb112, 1, none⟩) (by first | (rw [add_block]; exact hn113_1) | (show (Addr.add _ _).block ≠ _; rw [add_block]; exact hn113_1) | exact hn113_1) (.slice A111_1 ((zal l0_2 x4_2).f1).length c111_1)).trans hx113_1
                replace hx113_2 := (cell_far (p := ⟨gb112, 1, none⟩) (by first | (rw [add_block]; exact hn113_1) | (show (Addr.add _ _).block ≠ _; rw [add_block]; exact hn113_1) | exact hn113_1) (.slice A111_1 ((zal l0_2 x4_2).f1).length c111_1)).trans hx113_2
                replace hx113_0 := (cell_far (p := ⟨gb112, 2, none⟩) (by first | (rw [add_block]; exact hn113_2) | (show (Addr.add _ _).block ≠ _; rw [add_block]; exact hn113_2) | exact hn113_2) (.int .i64 ((zal l0_2 x4_2).f2))).trans hx113_0
                replace hx113_1 := (cell_far (p := ⟨gb112, 2, none⟩) (by first | (rw [add_block]; exact hn113_2) | (show (Addr.add _ _).block ≠ _; rw [add_block]; exact hn113_2) | exact hn113_2) (.int .i64 ((zal l0_2 x4_2).f2))).trans hx113_1
                replace hx113_2 := (cell_far (p := ⟨gb112, 2, none⟩) (by first | (rw [add_block]; exact hn113_2) | (show (Addr.add _ _).block ≠ _; rw [add_block]; exact hn113_2) | exact hn113_2) (.int .i64 ((zal l0_2 x4_2).f2))).trans hx113_2
                (try have hy113_0 := fun (n_ : Nat) => (show (((((w21.drewN n_).setCell ⟨gb112, 0, none⟩ (.int .i64 ((zal l0_2 x4_2).f0))).setCell ⟨gb112, 1, none⟩ (.slice A111_1 ((zal l0_2 x4_2).f1).length c111_1)).setCell ⟨gb112, 2, none⟩ (.int .i64 ((zal l0_2 x4_2).f2)))).cell? _ = some _ from hx113_0))
                (try have hy113_1 := fun (n_ : Nat) => (show (((((w21.drewN n_).setCell ⟨gb112, 0, none⟩ (.int .i64 ((zal l0_2 x4_2).f0))).setCell ⟨gb112, 1, none⟩ (.slice A111_1 ((zal l0_2 x4_2).f1).length c111_1)).setCell ⟨gb112, 2, none⟩ (.int .i64 ((zal l0_2 x4_2).f2)))).cell? _ = some _ from hx113_1))
                (try have hy113_2 := fun (n_ : Nat) => (show (((((w21.drewN n_).setCell ⟨gb112, 0, none⟩ (.int .i64 ((zal l0_2 x4_2).f0))).setCell ⟨gb112, 1, none⟩ (.slice A111_1 ((zal l0_2 x4_2).f1).length c111_1)).setCell ⟨gb112, 2, none⟩ (.int .i64 ((zal l0_2 x4_2).f2)))).cell? _ = some _ from hx113_2))
                clear hn113_0
                clear hn113_1
                clear hn113_2
                replace p113 := eq_true p113
                replace q113 := eq_true q113
                go_wp2
                repeat (go_quiet (fail); try go_wp2)
                go_meet
                case rel => exact ⟨_, (true), (by first | rfl | (simp; done) | (simp [*]; done)), H', ⟨by have := HJ1.out; have := HK2.out; first | omega | exact Nat.le_refl _⟩, ⟨by (with_reducible repeat (first | refine zai ?_ _ | refine zae ?_ | refine zah ?_ _)); refine zbh ?_ NB108_112.out _; (with_reducible repeat (first | refine zai ?_ _ | refine zae ?_ | refine zah ?_ _)); refine zbh ?_ NB108_112.out _; (with_reducible repeat (first | refine zai ?_ _ | refine zae ?_ | refine zah ?_ _)); refine zbh ?_ NB108_112.out _; (with_reducible repeat (first | refine zai ?_ _ | refine zae ?_ | refine zah ?_ _)); exact BK108.out⟩, ⟨by (with_reducible repeat (first | refine zai ?_ _ | refine zae ?_ | refine zah ?_ _)); refine zbm (cs := #[.int .i64 ((zal l0_2 x4_2).f0), .slice A111_1 ((zal l0_2 x4_2).f1).length c111_1, .int .i64 0]) ?_ 2 _ rfl; (with_reducible repeat (first | refine zai ?_ _ | refine zae ?_ | refine zah ?_ _)); refine zbm (cs := #[.int .i64 ((zal l0_2 x4_2).f0), .slice none 0 0, .int .i64 0]) ?_ 1 _ rfl; (with_reducible repeat (first | refine zai ?_ _ | refine zae ?_ | refine zah ?_ _)); refine zbm (cs := #[.int .i64 0, .slice none 0 0, .int .i64 0]) ?_ 0 _ rfl; (with_reducible repeat (first | refine zai ?_ _ | refine zae ?_ | refine zah ?_ _)); exact BK112.out⟩, ⟨by repeat (first | (with_reducible first | exact HB.out | apply zaf | apply zac | apply zad | refine zaj ?_ GE108.out | refine zaj ?_ GE112.out) | exact HB.out)⟩⟩
               ·rw [if_neg c40] at H
                have c40b0 : decide (64 < (((zal l0_2 x4_2).f1).length : Int)) = false := decide_eq_false c40
                have c40b1 : decide (64 < ((zal l0_2 x4_2).f1).length) = false := decide_eq_false (by omega)
                clear c40
                by_cases c44 : ((zal l0_2 x4_2).f2) < (-10000)
                ·rw [if_pos c44] at H
                 have c44b0 : decide (((zal l0_2 x4_2).f2) < (-10000)) = true := decide_eq_true c44
                 clear c44
                 have H' := zaa.mk H
                 clear H
                 have hnb45 := NB112_108.out
                 have hnc45 := NB108_112.out
                 have hcz46_0 : w21.cell? ⟨gb112, 0, none⟩ = some (.int .i64 0) := (zab BK112.out 0).trans rfl
                 have hcz46_1 : w21.cell? ⟨gb112, 1, none⟩ = some (.slice none 0 0) := (zab BK112.out 1).trans rfl
                 have hcz46_2 : w21.cell? ⟨gb112, 2, none⟩ = some (.int .i64 0) := (zab BK112.out 2).trans rfl
                 have hfz46_0 := zak BK112.out 0
                 have hfz46_1 := zak BK112.out 1
                 have hfz46_2 := zak BK112.out 2
                 have hcz47_0 : w21.cell? ⟨gb108, 0, none⟩ = some (.slice A0_0 l0_0.length c0_0) := (zab BK108.out 0).trans rfl
                 have hcz47_1 : w21.cell? ⟨gb108, 1, none⟩ = some (.slice A0_1 l0_1.length c0_1) := (zab BK108.out 1).trans rfl
                 have hcz47_2 : w21.cell? ⟨gb108, 2, none⟩ = some (.slice (some ad111) l0_2.length c0_2) := (zab BK108.out 2).trans rfl
                 have hfz47_0 := zak BK108.out 0
                 have hfz47_1 := zak BK108.out 1
                 have hfz47_2 := zak BK108.out 2
                 have p113 : 0 ≤ ((ji33) : Int) := of_decide_eq_true (by first | (with_reducible assumption) | assumption)
                 have q113 : (ji33) < (l0_2.length : Int) := of_decide_eq_true (by first | (with_reducible assumption) | assumption)
                 obtain ⟨ad113, A113_1, c113_1, e113, hx113_0, hx113_1, hx113_2, hl113_1, hi113_1⟩ := at_T46 HR0_2.out (ji33) p113 q113
                 obtain rfl : ad111 = ad113 := (by injection e113)
                 have hn113_0 : ad111.block ≠ gb112 := Nat.ne_of_lt (Nat.lt_of_lt_of_le (by have := World.block_lt_of_cell? _ _ hx113_0; first | rwa [add_block] at this | exact this) GW112.out)
                 have hn113_1 : ad111.block ≠ gb112 := Nat.ne_of_lt (Nat.lt_of_lt_of_le (by have := World.block_lt_of_cell? _ _ hx113_0; first | rwa [add_block] at this | exact this) GW112.out)
                 have hn113_2 : ad111.block ≠ gb112 := Nat.ne_of_lt (Nat.lt_of_lt_of_le (by have := World.block_lt_of_cell? _ _ hx113_0; first | rwa [add_block] at this | exact this) GW112.out)
                 replace hx113_0 := (HB.out.cell (World.block_lt_of_cell? w _ hx113_0)).trans hx113_0
                 replace hx113_1 := (HB.out.cell (World.block_lt_of_cell? w _ hx113_1)).trans hx113_1
                 replace hx113_2 := (HB.out.cell (World.block_lt_of_cell? w _ hx113_2)).trans hx113_2
                 have HR113_1 := zaa.mk hi113_1
                 have HC113_1 := zaa.mk hl113_1
                 clear hi113_1 hl113_1
                 replace hx113_0 := (cell_far (p := ⟨gb112, 0, none⟩) (by first | (rw [add_block]; exact hn113_0) | (show (Addr.add _ _).block ≠ _; rw [add_block]; exact hn113_0) | exact hn113_0) (.int .i64 ((zal l0_2 x4_2).f0))).trans hx113_0
                 replace hx113_1 := (cell_far (p := ⟨gb112, 0, none⟩) (by first | (rw [add_block]; exact hn113_0) | (show (Addr.add _ _).block ≠ _; rw [add_block]; exact hn113_0) | exact hn113_0) (.int .i64 ((zal l0_2 x4_2).f0))).trans hx113_1
                 replace hx113_2 := (cell_far (p := ⟨gb112, 0, none⟩) (by first | (rw [add_block]; exact hn113_0) | (show (Addr.add _ _).block ≠ _; rw [add_block]; exact hn113_0) | exact hn113_0) (.int .i64 ((zal l0_2 x4_2).f0))).trans hx113_2
                 replace hx113_0 := (cell_far (p := ⟨gb112, 1, none⟩) (by first | (rw [add_block]; exact hn113_1) | (show (Addr.add _ _).block ≠ _; rw [add_block]; exact hn113_1) | exact hn113_1) (.slice A111_1 ((zal l0_2 x4_2).f1).length c111_1)).trans hx113_0
                 replace hx113_1 := (cell_far (p := ⟨gb112, 1, none⟩) (by first | (rw [add_block]; exact hn113_1) | (show (Addr.add _ _).block ≠ _; rw [add_block]; exact hn113_1) | exact hn113_1) (.slice A111_1 ((zal l0_2 x4_2).f1).length c111_1)).trans hx113_1
                 replace hx113_2 := (cell_far (p := ⟨gb112, 1, none⟩) (by first | (rw [add_block]; exact hn113_1) | (show (Addr.add _ _).block ≠ _; rw [add_block]; exact hn113_1) | exact hn113_1) (.slice A111_1 ((zal l0_2 x4_2).f1).length c111_1)).trans hx113_2
                 replace hx113_0 := (cell_far (p := ⟨gb112, 2, none⟩) (by first | (rw [add_block]; exact hn113_2) | (show (Addr.add _ _).block ≠ _; rw [add_block]; exact hn113_2) | exact hn113_2) (.int .i64 ((zal l0_2 x4_2).f2))).trans hx113_0
                 replace hx113_1 := (cell_far (p := ⟨gb112, 2, none⟩) (by first | (rw [add_block]; exact hn113_2) | (show (Addr.add _ _).block ≠ _; rw [add_block]; exact hn113_2) | exact hn113_2) (.int .i64 ((zal l0_2 x4_2).f2))).trans hx113_1
                 replace hx113_2 := (cell_far (p := ⟨gb112, 2, none⟩) (by first | (rw [add_block]; exact hn113_2) | (show (Addr.add _ _).block ≠ _; rw [add_block]; exact hn113_2) | exact hn113_2) (.int .i64 ((zal l0_2 x4_2).f2))).trans hx113_2
                 (try have hy113_0 := fun (n_ : Nat) => (show (((((w21.drewN n_).setCell ⟨gb112, 0, none⟩ (.int .i64 ((zal l0_2 x4_2).f0))).setCell ⟨gb112, 1, none⟩ (.slice A111_1 ((zal l0_2 x4_2).f1).length c111_1)).setCell ⟨gb112, 2, none⟩ (.int .i64 ((zal l0_2 x4_2).f2)))).cell? _ = some _ from hx113_0))
                 (try have hy113_1 := fun (n_ : Nat) => (show (((((w21.drewN n_).setCell ⟨gb112, 0, none⟩ (.int .i64 ((zal l0_2 x4_2).f0))).setCell ⟨gb112, 1, none⟩ (.slice A111_1 ((zal l0_2 x4_2).f1).length c111_1)).setCell ⟨gb112, 2, none⟩ (.int .i64 ((zal l0_2 x4_2).f2)))).cell? _ = some _ from hx113_1))
                 (try have hy113_2 := fun (n_ : Nat) => (show (((((w21.drewN n_).setCell ⟨gb112, 0, none⟩ (.int .i64 ((zal l0_2 x4_2).f0))).setCell ⟨gb112, 1, none⟩ (.slice A111_1 ((zal l0_2 x4_2).f1).length c111_1)).setCell ⟨gb112, 2, none⟩ (.int .i64 ((zal l0_2 x4_2).f2)))).cell? _ = some _ from hx113_2))
                 clear hn113_0
                 clear hn113_1
                 clear hn113_2
                 replace p113 := eq_true p113
                 replace q113 := eq_true q113
                 go_wp2
                 repeat (go_quiet (fail); try go_wp2)
                 go_meet
                 case rel => exact ⟨_, (true), (by first | rfl | (simp; done) | (simp [*]; done)), H', ⟨by have := HJ1.out; have := HK2.out; first | omega | exact Nat.le_refl _⟩, ⟨by (with_reducible repeat (first | refine zai ?_ _ | refine zae ?_ | refine zah ?_ _)); refine zbh ?_ NB108_112.out _; (with_reducible repeat (first | refine zai ?_ _ | refine zae ?_ | refine zah ?_ _)); refine zbh ?_ NB108_112.out _; (with_reducible repeat (first | refine zai ?_ _ | refine zae ?_ | refine zah ?_ _)); refine zbh ?_ NB108_112.out _; (with_reducible repeat (first | refine zai ?_ _ | refine zae ?_ | refine zah ?_ _)); exact BK108.out⟩, ⟨by (with_reducible repeat (first | refine zai ?_ _ | refine zae ?_ | refine zah ?_ _)); refine zbm (cs := #[.int .i64 ((zal l0_2 x4_2).f0), .slice A111_1 ((zal l0_2 x4_2).f1).length c111_1, .int .i64 0]) ?_ 2 _ rfl; (with_reducible repeat (first | refine zai ?_ _ | refine zae ?_ | refine zah ?_ _)); refine zbm (cs := #[.int .i64 ((zal l0_2 x4_2).f0), .slice none 0 0, .int .i64 0]) ?_ 1 _ rfl; (with_reducible repeat (first | refine zai ?_ _ | refine zae ?_ | refine zah ?_ _)); refine zbm (cs := #[.int .i64 0, .slice none 0 0, .int .i64 0]) ?_ 0 _ rfl; (with_reducible repeat (first | refine zai ?_ _ | refine zae ?_ | refine zah ?_ _)); exact BK112.out⟩, ⟨by repeat (first | (with_reducible first | exact HB.out | apply zaf | apply zac | apply zad | refine zaj ?_ GE108.out | refine zaj ?_ GE112.out) | exact HB.out)⟩⟩
                ·rw [if_neg c44] at H
                 have c44b0 : decide (((zal l0_2 x4_2).f2) < (-10000)) = false := decide_eq_false c44
                 clear c44
                 have H' := zaa.mk H
                 clear H
                 have hnb48 := NB112_108.out
                 have hnc48 := NB108_112.out
                 have hcz49_0 : w21.cell? ⟨gb112, 0, none⟩ = some (.int .i64 0) := (zab BK112.out 0).trans rfl
                 have hcz49_1 : w21.cell? ⟨gb112, 1, none⟩ = some (.slice none 0 0) := (zab BK112.out 1).trans rfl
                 have hcz49_2 : w21.cell? ⟨gb112, 2, none⟩ = some (.int .i64 0) := (zab BK112.out 2).trans rfl
                 have hfz49_0 := zak BK112.out 0
                 have hfz49_1 := zak BK112.out 1
                 have hfz49_2 := zak BK112.out 2
                 have hcz50_0 : w21.cell? ⟨gb108, 0, none⟩ = some (.slice A0_0 l0_0.length c0_0) := (zab BK108.out 0).trans rfl
                 have hcz50_1 : w21.cell? ⟨gb108, 1, none⟩ = some (.slice A0_1 l0_1.length c0_1) := (zab BK108.out 1).trans rfl
                 have hcz50_2 : w21.cell? ⟨gb108, 2, none⟩ = some (.slice (some ad111) l0_2.length c0_2) := (zab BK108.out 2).trans rfl
                 have hfz50_0 := zak BK108.out 0
                 have hfz50_1 := zak BK108.out 1
                 have hfz50_2 := zak BK108.out 2
                 have p113 : 0 ≤ ((ji33) : Int) := of_decide_eq_true (by first | (with_reducible assumption) | assumption)
                 have q113 : (ji33) < (l0_2.length : Int) := of_decide_eq_true (by first | (with_reducible assumption) | assumption)
                 obtain ⟨ad113, A113_1, c113_1, e113, hx113_0, hx113_1, hx113_2, hl113_1, hi113_1⟩ := at_T46 HR0_2.out (ji33) p113 q113
                 obtain rfl : ad111 = ad113 := (by injection e113)
                 have hn113_0 : ad111.block ≠ gb112 := Nat.ne_of_lt (Nat.lt_of_lt_of_le (by have := World.block_lt_of_cell? _ _ hx113_0; first | rwa [add_block] at this | exact this) GW112.out)
                 have hn113_1 : ad111.block ≠ gb112 := Nat.ne_of_lt (Nat.lt_of_lt_of_le (by have := World.block_lt_of_cell? _ _ hx113_0; first | rwa [add_block] at this | exact this) GW112.out)
                 have hn113_2 : ad111.block ≠ gb112 := Nat.ne_of_lt (Nat.lt_of_lt_of_le (by have := World.block_lt_of_cell? _ _ hx113_0; first | rwa [add_block] at this | exact this) GW112.out)
                 replace hx113_0 := (HB.out.cell (World.block_lt_of_cell? w _ hx113_0)).trans hx113_0
                 replace hx113_1 := (HB.out.cell (World.block_lt_of_cell? w _ hx113_1)).trans hx113_1
                 replace hx113_2 := (HB.out.cell (World.block_lt_of_cell? w _ hx113_2)).trans hx113_2
                 have HR113_1 := zaa.mk hi113_1
                 have HC113_1 := zaa.mk hl113_1
                 clear hi113_1 hl113_1
                 replace hx113_0 := (cell_far (p := ⟨gb112, 0, none⟩) (by first | (rw [add_block]; exact hn113_0) | (show (Addr.add _ _).block ≠ _; rw [add_block]; exact hn113_0) | exact hn113_0) (.int .i64 ((zal l0_2 x4_2).f0))).trans hx113_0
                 replace hx113_1 := (cell_far (p := ⟨gb112, 0, none⟩) (by first | (rw [add_block]; exact hn113_0) | (show (Addr.add _ _).block ≠ _; rw [add_block]; exact hn113_0) | exact hn113_0) (.int .i64 ((zal l0_2 x4_2).f0))).trans hx113_1
                 replace hx113_2 := (cell_far (p := ⟨gb112, 0, none⟩) (by first | (rw [add_block]; exact hn113_0) | (show (Addr.add _ _).block ≠ _; rw [add_block]; exact hn113_0) | exact hn113_0) (.int .i64 ((zal l0_2 x4_2).f0))).trans hx113_2
                 replace hx113_0 := (cell_far (p := ⟨gb112, 1, none⟩) (by first | (rw [add_block]; exact hn113_1) | (show (Addr.add _ _).block ≠ _; rw [add_block]; exact hn113_1) | exact hn113_1) (.slice A111_1 ((zal l0_2 x4_2).f1).length c111_1)).trans hx113_0
                 replace hx113_1 := (cell_far (p := ⟨gb112, 1, none⟩) (by first | (rw [add_block]; exact hn113_1) | (show (Addr.add _ _).block ≠ _; rw [add_block]; exact hn113_1) | exact hn113_1) (.slice A111_1 ((zal l0_2 x4_2).f1).length c111_1)).trans hx113_1
                 replace hx113_2 := (cell_far (p := ⟨gb112, 1, none⟩) (by first | (rw [add_block]; exact hn113_1) | (show (Addr.add _ _).block ≠ _; rw [add_block]; exact hn113_1) | exact hn113_1) (.slice A111_1 ((zal l0_2 x4_2).f1).length c111_1)).trans hx113_2
                 replace hx113_0 := (cell_far (p := ⟨gb112, 2, none⟩) (by first | (rw [add_block]; exact hn113_2) | (show (Addr.add _ _).block ≠ _; rw [add_block]; exact hn113_2) | exact hn113_2) (.int .i64 ((zal l0_2 x4_2).f2))).trans hx113_0
                 replace hx113_1 := (cell_far (p := ⟨gb112, 2, none⟩) (by first | (rw [add_block]; exact hn113_2) | (show (Addr.add _ _).block ≠ _; rw [add_block]; exact hn113_2) | exact hn113_2) (.int .i64 ((zal l0_2 x4_2).f2))).trans hx113_1
                 replace hx113_2 := (cell_far (p := ⟨gb112, 2, none⟩) (by first | (rw [add_block]; exact hn113_2) | (show (Addr.add _ _).block ≠ _; rw [add_block]; exact hn113_2) | exact hn113_2) (.int .i64 ((zal l0_2 x4_2).f2))).trans hx113_2
                 (try have hy113_0 := fun (n_ : Nat) => (show (((((w21.drewN n_).setCell ⟨gb112, 0, none⟩ (.int .i64 ((zal l0_2 x4_2).f0))).setCell ⟨gb112, 1, none⟩ (.slice A111_1 ((zal l0_2 x4_2).f1).length c111_1)).setCell ⟨gb112, 2, none⟩ (.int .i64 ((zal l0_2 x4_2).f2)))).cell? _ = some _ from hx113_0))
                 (try have hy113_1 := fun (n_ : Nat) => (show (((((w21.drewN n_).setCell ⟨gb112, 0, none⟩ (.int .i64 ((zal l0_2 x4_2).f0))).setCell ⟨gb112, 1, none⟩ (.slice A111_1 ((zal l0_2 x4_2).f1).length c111_1)).setCell ⟨gb112, 2, none⟩ (.int .i64 ((zal l0_2 x4_2).f2)))).cell? _ = some _ from hx113_1))
                 (try have hy113_2 := fun (n_ : Nat) => (show (((((w21.drewN n_).setCell ⟨gb112, 0, none⟩ (.int .i64 ((zal l0_2 x4_2).f0))).setCell ⟨gb112, 1, none⟩ (.slice A111_1 ((zal l0_2 x4_2).f1).length c111_1)).setCell ⟨gb112, 2, none⟩ (.int .i64 ((zal l0_2 x4_2).f2)))).cell? _ = some _ from hx113_2))
                 clear hn113_0
                 clear hn113_1
                 clear hn113_2
                 replace p113 := eq_true p113
                 replace q113 := eq_true q113
                 go_wp2
                 repeat (go_quiet (fail); try go_wp2)
                 go_meet
                 case rel => exact ⟨_, (decide (((zal l0_2 x4_2).f2) > 10000)), (by first | rfl | (simp; done) | (simp [*]; done)), H', ⟨by have := HJ1.out; have := HK2.out; first | omega | exact Nat.le_refl _⟩, ⟨by (with_reducible repeat (first | refine zai ?_ _ | refine zae ?_ | refine zah ?_ _)); refine zbh ?_ NB108_112.out _; (with_reducible repeat (first | refine zai ?_ _ | refine zae ?_ | refine zah ?_ _)); refine zbh ?_ NB108_112.out _; (with_reducible repeat (first | refine zai ?_ _ | refine zae ?_ | refine zah ?_ _)); refine zbh ?_ NB108_112.out _; (with_reducible repeat (first | refine zai ?_ _ | refine zae ?_ | refine zah ?_ _)); exact BK108.out⟩, ⟨by (with_reducible repeat (first | refine zai ?_ _ | refine zae ?_ | refine zah ?_ _)); refine zbm (cs := #[.int .i64 ((zal l0_2 x4_2).f0), .slice A111_1 ((zal l0_2 x4_2).f1).length c111_1, .int .i64 0]) ?_ 2 _ rfl; (with_reducible repeat (first | refine zai ?_ _ | refine zae ?_ | refine zah ?_ _)); refine zbm (cs := #[.int .i64 ((zal l0_2 x4_2).f0), .slice none 0 0, .int .i64 0]) ?_ 1 _ rfl; (with_reducible repeat (first | refine zai ?_ _ | refine zae ?_ | refine zah ?_ _)); refine zbm (cs := #[.int .i64 0, .slice none 0 0, .int .i64 0]) ?_ 0 _ rfl; (with_reducible repeat (first | refine zai ?_ _ | refine zae ?_ | refine zah ?_ _)); exact BK112.out⟩, ⟨by repeat (first | (with_reducible first | exact HB.out | apply zaf | apply zac | apply zad | refine zaj ?_ GE108.out | refine zaj ?_ GE112.out) | exact HB.out)⟩⟩
             ·rw [if_neg c35] at H
              exact absurd H (by simp)
            ·rw [if_neg c34] at H
             exact absurd H (by simp)
           ·rw [if_neg c32] at H
            have c32b0 : decide (0 < x4_2) = false := decide_eq_false c32
            clear c32
            by_cases c51 : (((zal l0_2 x4_2).f1).length : Int) > 64
            ·rw [if_pos c51] at H
             have c51b0 : decide (64 < (((zal l0_2 x4_2).f1).length : Int)) = true := decide_eq_true c51
             have c51b1 : decide (64 < ((zal l0_2 x4_2).f1).length) = true := decide_eq_true (by omega)
             clear c51
             have H' := zaa.mk H
             clear H
             have hnb52 := NB112_108.out
             have hnc52 := NB108_112.out
             have hcz53_0 : w21.cell? ⟨gb112, 0, none⟩ = some (.int .i64 0) := (zab BK112.out 0).trans rfl
             have hcz53_1 : w21.cell? ⟨gb112, 1, none⟩ = some (.slice none 0 0) := (zab BK112.out 1).trans rfl
             have hcz53_2 : w21.cell? ⟨gb112, 2, none⟩ = some (.int .i64 0) := (zab BK112.out 2).trans rfl
             have hfz53_0 := zak BK112.out 0
             have hfz53_1 := zak BK112.out 1
             have hfz53_2 := zak BK112.out 2
             have hcz54_0 : w21.cell? ⟨gb108, 0, none⟩ = some (.slice A0_0 l0_0.length c0_0) := (zab BK108.out 0).trans rfl
             have hcz54_1 : w21.cell? ⟨gb108, 1, none⟩ = some (.slice A0_1 l0_1.length c0_1) := (zab BK108.out 1).trans rfl
             have hcz54_2 : w21.cell? ⟨gb108, 2, none⟩ = some (.slice (some ad111) l0_2.length c0_2) := (zab BK108.out 2).trans rfl
             have hfz54_0 := zak BK108.out 0
             have hfz54_1 := zak BK108.out 1
             have hfz54_2 := zak BK108.out 2
             go_wp2
             repeat (go_quiet (fail); try go_wp2)
             go_meet
             case rel => exact ⟨_, (true), (by first | rfl | (simp; done) | (simp [*]; done)), H', ⟨by have := HJ1.out; have := HK2.out; first | omega | exact Nat.le_refl _⟩, ⟨by (with_reducible repeat (first | refine zai ?_ _ | refine zae ?_ | refine zah ?_ _)); refine zbh ?_ NB108_112.out _; (with_reducible repeat (first | refine zai ?_ _ | refine zae ?_ | refine zah ?_ _)); refine zbh ?_ NB108_112.out _; (with_reducible repeat (first | refine zai ?_ _ | refine zae ?_ | refine zah ?_ _)); refine zbh ?_ NB108_112.out _; (with_reducible repeat (first | refine zai ?_ _ | refine zae ?_ | refine zah ?_ _)); exact BK108.out⟩, ⟨by (with_reducible repeat (first | refine zai ?_ _ | refine zae ?_ | refine zah ?_ _)); refine zbm (cs := #[.int .i64 ((zal l0_2 x4_2).f0), .slice A111_1 ((zal l0_2 x4_2).f1).length c111_1, .int .i64 0]) ?_ 2 _ rfl; (with_reducible repeat (first | refine zai ?_ _ | refine zae ?_ | refine zah ?_ _)); refine zbm (cs := #[.int .i64 ((zal l0_2 x4_2).f0), .slice none 0 0, .int .i64 0]) ?_ 1 _ rfl; (with_reducible repeat (first | refine zai ?_ _ | refine zae ?_ | refine zah ?_ _)); refine zbm (cs := #[.int .i64 0, .slice none 0 0, .int .i64 0]) ?_ 0 _ rfl; (with_reducible repeat (first | refine zai ?_ _ | refine zae ?_ | refine zah ?_ _)); exact BK112.out⟩, ⟨by repeat (first | (with_reducible first | exact HB.out | apply zaf | apply zac | apply zad | refine zaj ?_ GE108.out | refine zaj ?_ GE112.out) | exact HB.out)⟩⟩
            ·rw [if_neg c51] at H
             have c51b0 : decide (64 < (((zal l0_2 x4_2).f1).length : Int)) = false := decide_eq_false c51
             have c51b1 : decide (64 < ((zal l0_2 x4_2).f1).length) = false := decide_eq_false (by omega)
             clear c51
             by_cases c55 : ((zal l0_2 x4_2).f2) < (-10000)
             ·rw [if_pos c55] at H
              have c55b0 : decide (((zal l0_2 x4_2).f2) < (-10000)) = true := decide_eq_true c55
              clear c55
              have H' := zaa.mk H
              clear H
              have hnb56 := NB112_108.out
              have hnc56 := NB108_112.out
              have hcz57_0 : w21.cell? ⟨gb112, 0, none⟩ = some (.int .i64 0) := (zab BK112.out 0).trans rfl
              have hcz57_1 : w21.cell? ⟨gb112, 1, none⟩ = some (.slice none 0 0) := (zab BK112.out 1).trans rfl
              have hcz57_2 : w21.cell? ⟨gb112, 2, none⟩ = some (.int .i64 0) := (zab BK112.out 2).trans rfl
              have hfz57_0 := zak BK112.out 0
              have hfz57_1 := zak BK112.out 1
              have hfz57_2 := zak BK112.out 2
              have hcz58_0 : w21.cell? ⟨gb108, 0, none⟩ = some (.slice A0_0 l0_0.length c0_0) := (zab BK108.out 0).trans rfl
              have hcz58_1 : w21.cell? ⟨gb108, 1, none⟩ = some (.slice A0_1 l0_1.length c0_1) := (zab BK108.out 1).trans rfl
              have hcz58_2 : w21.cell? ⟨gb108, 2, none⟩ = some (.slice (some ad111) l0_2.length c0_2) := (zab BK108.out 2).trans rfl
              have hfz58_0 := zak BK108.out 0
              have hfz58_1 := zak BK108.out 1
              have hfz58_2 := zak BK108.out 2
              go_wp2
              repeat (go_quiet (fail); try go_wp2)
              go_meet
              case rel => exact ⟨_, (true), (by first | rfl | (simp; done) | (simp [*]; done)), H', ⟨by have := HJ1.out; have := HK2.out; first | omega | exact Nat.le_refl _⟩, ⟨by (with_reducible repeat (first | refine zai ?_ _ | refine zae ?_ | refine zah ?_ _)); refine zbh ?_ NB108_112.out _; (with_reducible repeat (first | refine zai ?_ _ | refine zae ?_ | refine zah ?_ _)); refine zbh ?_ NB108_112.out _; (with_reducible repeat (first | refine zai ?_ _ | refine zae ?_ | refine zah ?_ _)); refine zbh ?_ NB108_112.out _; (with_reducible repeat (first | refine zai ?_ _ | refine zae ?_ | refine zah ?_ _)); exact BK108.out⟩, ⟨by (with_reducible repeat (first | refine zai ?_ _ | refine zae ?_ | refine zah ?_ _)); refine zbm (cs := #[.int .i64 ((zal l0_2 x4_2).f0), .slice A111_1 ((zal l0_2 x4_2).f1).length c111_1, .int .i64 0]) ?_ 2 _ rfl; (with_reducible repeat (first | refine zai ?_ _ | refine zae ?_ | refine zah ?_ _)); refine zbm (cs := #[.int .i64 ((zal l0_2 x4_2).f0), .slice none 0 0, .int .i64 0]) ?_ 1 _ rfl; (with_reducible repeat (first | refine zai ?_ _ | refine zae ?_ | refine zah ?_ _)); refine zbm (cs := #[.int .i64 0, .slice none 0 0, .int .i64 0]) ?_ 0 _ rfl; (with_reducible repeat (first | refine zai ?_ _ | refine zae ?_ | refine zah ?_ _)); exact BK112.out⟩, ⟨by repeat (first | (with_reducible first | exact HB.out | apply zaf | apply zac | apply zad | refine zaj ?_ GE108.out | refine zaj ?_ GE112.out) | exact HB.out)⟩⟩
             ·rw [if_neg c55] at H
              have c55b0 : decide (((zal l0_2 x4_2).f2) < (-10000)) = false := decide_eq_false c55
              clear c55
              have H' := zaa.mk H
              clear H
              have hnb59 := NB112_108.out
              have hnc59 := NB108_112.out
              have hcz60_0 : w21.cell? ⟨gb112, 0, none⟩ = some (.int .i64 0) := (zab BK112.out 0).trans rfl
              have hcz60_1 : w21.cell? ⟨gb112, 1, none⟩ = some (.slice none 0 0) := (zab BK112.out 1).trans rfl
              have hcz60_2 : w21.cell? ⟨gb112, 2, none⟩ = some (.int .i64 0) := (zab BK112.out 2).trans rfl
              have hfz60_0 := zak BK112.out 0
              have hfz60_1 := zak BK112.out 1
              have hfz60_2 := zak BK112.out 2
              have hcz61_0 : w21.cell? ⟨gb108, 0, none⟩ = some (.slice A0_0 l0_0.length c0_0) := (zab BK108.out 0).trans rfl
              have hcz61_1 : w21.cell? ⟨gb108, 1, none⟩ = some (.slice A0_1 l0_1.length c0_1) := (zab BK108.out 1).trans rfl
              have hcz61_2 : w21.cell? ⟨gb108, 2, none⟩ = some (.slice (some ad111) l0_2.length c0_2) := (zab BK108.out 2).trans rfl
              have hfz61_0 := zak BK108.out 0
              have hfz61_1 := zak BK108.out 1
              have hfz61_2 := zak BK108.out 2
              go_wp2
              repeat (go_quiet (fail); try go_wp2)
              go_meet
              case rel => exact ⟨_, (decide (((zal l0_2 x4_2).f2) > 10000)), (by first | rfl | (simp; done) | (simp [*]; done)), H', ⟨by have := HJ1.out; have := HK2.out; first | omega | exact Nat.le_refl _⟩, ⟨by (with_reducible repeat (first | refine zai ?_ _ | refine zae ?_ | refine zah ?_ _)); refine zbh ?_ NB108_112.out _; (with_reducible repeat (first | refine zai ?_ _ | refine zae ?_ | refine zah ?_ _)); refine zbh ?_ NB108_112.out _; (with_reducible repeat (first | refine zai ?_ _ | refine zae ?_ | refine zah ?_ _)); refine zbh ?_ NB108_112.out _; (with_reducible repeat (first | refine zai ?_ _ | refine zae ?_ | refine zah ?_ _)); exact BK108.out⟩, ⟨by (with_reducible repeat (first | refine zai ?_ _ | refine zae ?_ | refine zah ?_ _)); refine zbm (cs := #[.int .i64 ((zal l0_2 x4_2).f0), .slice A111_1 ((zal l0_2 x4_2).f1).length c111_1, .int .i64 0]) ?_ 2 _ rfl; (with_reducible repeat (first | refine zai ?_ _ | refine zae ?_ | refine zah ?_ _)); refine zbm (cs := #[.int .i64 ((zal l0_2 x4_2).f0), .slice none 0 0, .int .i64 0]) ?_ 1 _ rfl; (with_reducible repeat (first | refine zai ?_ _ | refine zae ?_ | refine zah ?_ _)); refine zbm (cs := #[.int .i64 0, .slice none 0 0, .int .i64 0]) ?_ 0 _ rfl; (with_reducible repeat (first | refine zai ?_ _ | refine zae ?_ | refine zah ?_ _)); exact BK112.out⟩, ⟨by repeat (first | (with_reducible first | exact HB.out | apply zaf | apply zac | apply zad | refine zaj ?_ GE108.out | refine zaj ?_ GE112.out) | exact HB.out)⟩⟩
        case rest =>
         clear HC19
         try clear c1
         try clear p1
         try clear q1
         try clear hx1
         try clear c2
         try clear p2
         try clear c3
         try clear c4
         try clear c5
         try clear c5b0
         try clear c5b1
         try clear c5b2
         try clear p6
         try clear c7
         try clear c7b0
         try clear c9
         try clear c9b0
         try clear c9b1
         try clear c11
         try clear p11
         try clear q11
         try clear hx11
         try clear c12
         try clear c14
         try clear c16
         try clear c17
         try clear c17b0
         try clear c18
         try clear c18b0
         try clear c22
         try clear c24
         try clear c24b0
         try clear c25
         try clear c28
         try clear c28b0
         try clear c29
         try clear c32
         try clear c32b0
         try clear c34
         try clear c34b0
         try clear c35
         try clear c35b0
         try clear c36
         try clear c36b0
         try clear c37
         try clear c40
         try clear c40b0
         try clear c40b1
         try clear c41
         try clear c44
         try clear c44b0
         try clear c45
         try clear c48
         try clear c51
         try clear c51b0
         try clear c51b1
         try clear c52
         try clear c55
         try clear c55b0
         try clear c56
         try clear c59
         try clear hcz10_0
         try clear hcz10_1
         try clear hcz10_2
         try clear hcz14_0
         try clear hcz14_1
         try clear hcz14_2
         try clear hcz15_0
         try clear hcz15_1
         try clear hcz15_2
         try clear hcz20_0
         try clear hcz20_1
         try clear hcz20_2
         try clear hcz23_0
         try clear hcz23_1
         try clear hcz23_2
         try clear hcz26_0
         try clear hcz26_1
         try clear hcz26_2
         try clear hcz27_0
         try clear hcz27_1
         try clear hcz27_2
         try clear hcz30_0
         try clear hcz30_1
         try clear hcz30_2
         try clear hcz31_0
         try clear hcz31_1
         try clear hcz31_2
         try clear hcz38_0
         try clear hcz38_1
         try clear hcz38_2
         try clear hcz39_0
         try clear hcz39_1
         try clear hcz39_2
         try clear hcz42_0
         try clear hcz42_1
         try clear hcz42_2
         try clear hcz43_0
         try clear hcz43_1
         try clear hcz43_2
         try clear hcz46_0
         try clear hcz46_1
         try clear hcz46_2
         try clear hcz47_0
         try clear hcz47_1
         try clear hcz47_2
         try clear hcz49_0
         try clear hcz49_1
         try clear hcz49_2
         try clear hcz4_0
         try clear hcz4_1
         try clear hcz4_2
         try clear hcz50_0
         try clear hcz50_1
         try clear hcz50_2
         try clear hcz53_0
         try clear hcz53_1
         try clear hcz53_2
         try clear hcz54_0
         try clear hcz54_1
         try clear hcz54_2
         try clear hcz57_0
         try clear hcz57_1
         try clear hcz57_2
         try clear hcz58_0
         try clear hcz58_1
         try clear hcz58_2
         try clear hcz60_0
         try clear hcz60_1
         try clear hcz60_2
         try clear hcz61_0
         try clear hcz61_1
         try clear hcz61_2
         try clear hcz6_0
         try clear hcz6_1
         try clear hcz6_2
         try clear hcz8_0
         try clear hcz8_1
         try clear hcz8_2
         try clear hfz10_0
         try clear hfz10_1
         try clear hfz10_2
         try clear hfz14_0
         try clear hfz14_1
         try clear hfz14_2
         try clear hfz15_0
         try clear hfz15_1
         try clear hfz15_2
         try clear hfz20_0
         try clear hfz20_1
         try clear hfz20_2
         try clear hfz23_0
         try clear hfz23_1
         try clear hfz23_2
         try clear hfz26_0
         try clear hfz26_1
         try clear hfz26_2
         try clear hfz27_0
         try clear hfz27_1
         try clear hfz27_2
         try clear hfz30_0
         try clear hfz30_1
         try clear hfz30_2
         try clear hfz31_0
         try clear hfz31_1
         try clear hfz31_2
         try clear hfz38_0
         try clear hfz38_1
         try clear hfz38_2
         try clear hfz39_0
         try clear hfz39_1
         try clear hfz39_2
         try clear hfz42_0
         try clear hfz42_1
         try clear hfz42_2
         try clear hfz43_0
         try clear hfz43_1
         try clear hfz43_2
         try clear hfz46_0
         try clear hfz46_1
         try clear hfz46_2
         try clear hfz47_0
         try clear hfz47_1
         try clear hfz47_2
         try clear hfz49_0
         try clear hfz49_1
         try clear hfz49_2
         try clear hfz4_0
         try clear hfz4_1
         try clear hfz4_2
         try clear hfz50_0
         try clear hfz50_1
         try clear hfz50_2
         try clear hfz53_0
         try clear hfz53_1
         try clear hfz53_2
         try clear hfz54_0
         try clear hfz54_1
         try clear hfz54_2
         try clear hfz57_0
         try clear hfz57_1
         try clear hfz57_2
         try clear hfz58_0
         try clear hfz58_1
         try clear hfz58_2
         try clear hfz60_0
         try clear hfz60_1
         try clear hfz60_2
         try clear hfz61_0
         try clear hfz61_1
         try clear hfz61_2
         try clear hfz6_0
         try clear hfz6_1
         try clear hfz6_2
         try clear hfz8_0
         try clear hfz8_1
         try clear hfz8_2
         try clear hx111_0
         try clear hx111_1
         try clear hx111_2
         try clear hx113_0
         try clear hx113_1
         try clear hx113_2
         try clear p111
         try clear p113
         try clear p2
         try clear p6
         try clear q111
         try clear q113
         obtain ⟨kq, x96_18, rfl, HA, HJ18, BK108, BK112, HB⟩ := hcut
         cases kq with
         | zero => exact absurd HA.out (by simp [zam.j2])
         | succ kj18 =>
          have H := HA.out
          clear HA
          simp only [zam.j2] at H
          by_cases c62 : x96_18 = true
          ·subst c62
           have H1 : (some false) = some r := by rw [if_pos rfl] at H; exact H
           clear H
           have H := H1
           clear H1
           obtain rfl := Option.some.inj H
           go_wp2
           repeat (go_quiet (fail); try go_wp2)
           go_ret
           exact ⟨by first | rfl | (simp [za6, za4] <;> rfl) | (simp [*, za6, za4] <;> rfl), by repeat (first | (with_reducible first | exact HB.out | apply zaf | apply zac | apply zad | refine zaj ?_ GE108.out | refine zaj ?_ GE112.out) | exact HB.out)⟩
          ·replace c62 := Bool.eq_false_iff.mpr c62
           subst c62
           have H1 : (zam.l1 kj18 (wrap64 ((l0_0.length : Int) + (l0_1.length : Int))) x4_2 0 l0_0 l0_1 l0_2 ((zal l0_2 x4_2).f0) ((zal l0_2 x4_2).f1) ((zal l0_2 x4_2).f2)) = some r := by rw [if_neg (show ¬ (false = true) by decide)] at H; exact H
           clear H
           have H := H1
           clear H1
           have H' := zaa.mk H
           clear H
           go_wp2
           repeat (go_quiet (fail); try go_wp2)
           go_loopg [6] kj18 (fun kq v6 w' => ∃ (x6_4 : Int), v6 = .int .i64 x6_4 ∧ zaa (zam.l1 kq (wrap64 ((l0_0.length : Int) + (l0_1.length : Int))) x4_2 x6_4 l0_0 l0_1 l0_2 ((zal l0_2 x4_2).f0) ((zal l0_2 x4_2).f1) ((zal l0_2 x4_2).f2) = some r) ∧ zaa (kq ≤ kj18) ∧ zaa (w'.heap[gb108]? = some (.cells #[(.slice A0_0 l0_0.length c0_0), (.slice A0_1 l0_1.length c0_1), (.slice (some ad111) l0_2.length c0_2)] 25 (0, 0))) ∧ zaa (w'.heap[gb112]? = some (.cells #[.int .i64 ((zal l0_2 x4_2).f0), (.slice A111_1 ((zal l0_2 x4_2).f1).length c111_1), .int .i64 ((zal l0_2 x4_2).f2)] 46 (0, 0))) ∧ zaa (Below w.heap.size w w'))
           case atStart => exact ⟨(0), (by first | rfl | (simp; done) | (simp [*]; done)), H', ⟨Nat.le_refl _⟩, ⟨by (with_reducible repeat (first | refine zai ?_ _ | refine zae ?_ | refine zah ?_ _)); exact BK108.out⟩, ⟨by (with_reducible repeat (first | refine zai ?_ _ | refine zae ?_ | refine zah ?_ _)); exact BK112.out⟩, ⟨by repeat (first | (with_reducible first | exact HB.out | apply zaf | apply zac | apply zad | refine zaj ?_ GE108.out | refine zaj ?_ GE112.out) | exact HB.out)⟩⟩
           case round =>
            clear H'
            try clear c1
            try clear p1
            try clear q1
            try clear hx1
            try clear c2
            try clear p2
            try clear c3
            try clear c4
            try clear c5
            try clear c5b0
            try clear c5b1
            try clear c5b2
            try clear c6
            try clear p6
            try clear c7
            try clear c7b0
            try clear c9
            try clear c9b0
            try clear c9b1
            try clear c11
            try clear p11
            try clear q11
            try clear hx11
            try clear c12
            try clear c14
            try clear c16
            try clear c17
            try clear c17b0
            try clear c18
            try clear c18b0
            try clear c22
            try clear c24
            try clear c24b0
            try clear c25
            try clear c28
            try clear c28b0
            try clear c29
            try clear c32
            try clear c32b0
            try clear c34
            try clear c34b0
            try clear c35
            try clear c35b0
            try clear c36
            try clear c36b0
            try clear c37
            try clear c40
            try clear c40b0
            try clear c40b1
            try clear c41
            try clear c44
            try clear c44b0
            try clear c45
            try clear c48
            try clear c51
            try clear c51b0
            try clear c51b1
            try clear c52
            try clear c55
            try clear c55b0
            try clear c56
            try clear c59
            try clear c62
            try clear hcz10_0
            try clear hcz10_1
            try clear hcz10_2
            try clear hcz14_0
            try clear hcz14_1
            try clear hcz14_2
            try clear hcz15_0
            try clear hcz15_1
            try clear hcz15_2
            try clear hcz20_0
            try clear hcz20_1
            try clear hcz20_2
            try clear hcz23_0
            try clear hcz23_1
            try clear hcz23_2
            try clear hcz26_0
            try clear hcz26_1
            try clear hcz26_2
            try clear hcz27_0
            try clear hcz27_1
            try clear hcz27_2
            try clear hcz30_0
            try clear hcz30_1
            try clear hcz30_2
            try clear hcz31_0
            try clear hcz31_1
            try clear hcz31_2
            try clear hcz38_0
            try clear hcz38_1
            try clear hcz38_2
            try clear hcz39_0
            try clear hcz39_1
            try clear hcz39_2
            try clear hcz42_0
            try clear hcz42_1
            try clear hcz42_2
            try clear hcz43_0
            try clear hcz43_1
            try clear hcz43_2
            try clear hcz46_0
            try clear hcz46_1
            try clear hcz46_2
            try clear hcz47_0
            try clear hcz47_1
            try clear hcz47_2
            try clear hcz49_0
            try clear hcz49_1
            try clear hcz49_2
            try clear hcz4_0
            try clear hcz4_1
            try clear hcz4_2
            try clear hcz50_0
            try clear hcz50_1
            try clear hcz50_2
            try clear hcz53_0
            try clear hcz53_1
            try clear hcz53_2
            try clear hcz54_0
            try clear hcz54_1
            try clear hcz54_2
            try clear hcz57_0
            try clear hcz57_1
            try clear hcz57_2
            try clear hcz58_0
            try clear hcz58_1
            try clear hcz58_2
            try clear hcz60_0
            try clear hcz60_1
            try clear hcz60_2
            try clear hcz61_0
            try clear hcz61_1
            try clear hcz61_2
            try clear hcz6_0
            try clear hcz6_1
            try clear hcz6_2
            try clear hcz8_0
            try clear hcz8_1
            try clear hcz8_2
            try clear hfz10_0
            try clear hfz10_1
            try clear hfz10_2
            try clear hfz14_0
            try clear hfz14_1
            try clear hfz14_2
            try clear hfz15_0
            try clear hfz15_1
            try clear hfz15_2
            try clear hfz20_0
            try clear hfz20_1
            try clear hfz20_2
            try clear hfz23_0
            try clear hfz23_1
            try clear hfz23_2
            try clear hfz26_0
            try clear hfz26_1
            try clear hfz26_2
            try clear hfz27_0
            try clear hfz27_1
            try clear hfz27_2
            try clear hfz30_0
            try clear hfz30_1
            try clear hfz30_2
            try clear hfz31_0
            try clear hfz31_1
            try clear hfz31_2
            try clear hfz38_0
            try clear hfz38_1
            try clear hfz38_2
            try clear hfz39_0
            try clear hfz39_1
            try clear hfz39_2
            try clear hfz42_0
            try clear hfz42_1
            try clear hfz42_2
            try clear hfz43_0
            try clear hfz43_1
            try clear hfz43_2
            try clear hfz46_0
            try clear hfz46_1
            try clear hfz46_2
            try clear hfz47_0
            try clear hfz47_1
            try clear hfz47_2
            try clear hfz49_0
            try clear hfz49_1
            try clear hfz49_2
            try clear hfz4_0
            try clear hfz4_1
            try clear hfz4_2
            try clear hfz50_0
            try clear hfz50_1
            try clear hfz50_2
            try clear hfz53_0
            try clear hfz53_1
            try clear hfz53_2
            try clear hfz54_0
            try clear hfz54_1
            try clear hfz54_2
            try clear hfz57_0
            try clear hfz57_1
            try clear hfz57_2
            try clear hfz58_0
            try clear hfz58_1
            try clear hfz58_2
            try clear hfz60_0
            try clear hfz60_1
            try clear hfz60_2
            try clear hfz61_0
            try clear hfz61_1
            try clear hfz61_2
            try clear hfz6_0
            try clear hfz6_1
            try clear hfz6_2
            try clear hfz8_0
            try clear hfz8_1
            try clear hfz8_2
            try clear hx111_0
            try clear hx111_1
            try clear hx111_2
            try clear hx113_0
            try clear hx113_1
            try clear hx113_2
            try clear p1
            try clear p11
            try clear p111
            try clear p113
            try clear p2
            try clear p6
            try clear q1
            try clear q11
            try clear q111
            try clear q113
            obtain ⟨x6_4, rfl, HA, HK4, BK108, BK112, HB⟩ := hrel
            cases gk with
            | zero => exact absurd HA.out (by simp [zam.l1])
            | succ k4 =>
             have H := HA.out
             clear HA
             simp only [zam.l1] at H
             by_cases c63 : x6_4 < (((zal l0_2 x4_2).f1).length : Int)
             ·rw [if_pos c63] at H
              have c63b0 : decide (x6_4 < (((zal l0_2 x4_2).f1).length : Int)) = true := decide_eq_true c63
              clear c63
              by_cases c64 : 0 ≤ x6_4
              ·rw [if_pos c64] at H
               have c64b0 : decide (0 ≤ x6_4) = true := decide_eq_true c64
               clear c64
               by_cases c65 : ((zbl ((zal l0_2 x4_2).f1) x6_4).f0) < 0
               ·rw [if_pos c65] at H
                have c65b0 : decide (((zbl ((zal l0_2 x4_2).f1) x6_4).f0) < 0) = true := decide_eq_true c65
                clear c65
                obtain rfl := Option.some.inj H
                have hnb66 := NB112_108.out
                have hnc66 := NB108_112.out
                have hcz67_0 : wr.cell? ⟨gb112, 0, none⟩ = some (.int .i64 ((zal l0_2 x4_2).f0)) := (zab BK112.out 0).trans rfl
                have hcz67_1 : wr.cell? ⟨gb112, 1, none⟩ = some (.slice A111_1 ((zal l0_2 x4_2).f1).length c111_1) := (zab BK112.out 1).trans rfl
                have hcz67_2 : wr.cell? ⟨gb112, 2, none⟩ = some (.int .i64 ((zal l0_2 x4_2).f2)) := (zab BK112.out 2).trans rfl
                have hfz67_0 := zak BK112.out 0
                have hfz67_1 := zak BK112.out 1
                have hfz67_2 := zak BK112.out 2
                have p114 : 0 ≤ (x6_4 : Int) := of_decide_eq_true (by first | (with_reducible assumption) | assumption)
                have q114 : x6_4 < (((zal l0_2 x4_2).f1).length : Int) := of_decide_eq_true (by first | (with_reducible assumption) | assumption)
                obtain ⟨ad114, e114, hx114_0, hx114_1, hx114_2⟩ := at_T43 HR111_1.out x6_4 p114 q114
                cases e114
                replace hx114_0 := (HB.out.cell (World.block_lt_of_cell? w _ hx114_0)).trans hx114_0
                replace hx114_1 := (HB.out.cell (World.block_lt_of_cell? w _ hx114_1)).trans hx114_1
                replace hx114_2 := (HB.out.cell (World.block_lt_of_cell? w _ hx114_2)).trans hx114_2
                replace p114 := eq_true p114
                replace q114 := eq_true q114
                go_wp2_with (first | ((with_reducible refine zba (N := 7) rfl ?_); (try (refine zbc (by rfl) ?_; dsimp only)); refine za9 ?hg (N := 7) ?hd (cs := #[.int .i64 0, .string (⟨#[]⟩ : ByteArray), .string (⟨#[]⟩ : ByteArray)]) (t := 43) ?hr ?_; (case hd => rfl); (case hg => rfl); (case hr => first | (go_simp; done) | (go_simp; rfl)); intro gb115 hg w68 hbox hb; have n0_ := zaa.mk (zaq (g := gb108) (o := .cells #[.slice A0_0 l0_0.length c0_0, .slice A0_1 l0_1.length c0_1, .slice (some ad111) l0_2.length c0_2] 25 (0, 0)) (by (with_reducible repeat (first | refine zai ?_ _ | refine zae ?_ | refine zah ?_ _)); exact BK108.out) hb); have n1_ := zaa.mk (zaq (g := gb112) (o := .cells #[.int .i64 ((zal l0_2 x4_2).f0), .slice (some ad114) ((zal l0_2 x4_2).f1).length c111_1, .int .i64 ((zal l0_2 x4_2).f2)] 46 (0, 0)) (by (with_reducible repeat (first | refine zai ?_ _ | refine zae ?_ | refine zah ?_ _)); exact BK112.out) hb); have n2_ := zaa.mk (zax (by repeat (first | (with_reducible first | exact HB.out | apply zaf | apply zac | apply zad | refine zaj ?_ GE108.out | refine zaj ?_ GE112.out) | exact HB.out)) hb); have n3_ := zaa.mk (hbox); have n4_ := zaa.mk ((by rw [hg]; exact (zat (by repeat (first | (with_reducible first | exact HB.out | apply zaf | apply zac | apply zad | refine zaj ?_ GE108.out | refine zaj ?_ GE112.out) | exact HB.out))) : w.heap.size ≤ gb115)); have n5_ := zaa.mk ((by rw [hg]; exact (zat (by repeat (first | (with_reducible first | exact HB.out | apply zaf | apply zac | apply zad | refine zaj ?_ GE108.out | refine zaj ?_ GE112.out) | exact HB.out))) : w.heap.size ≤ gb115)); have n6_ := zaa.mk ((by rw [hg]; exact Nat.ne_of_lt (zaw (g := gb108) (o := .cells #[.slice A0_0 l0_0.length c0_0, .slice A0_1 l0_1.length c0_1, .slice (some ad111) l0_2.length c0_2] 25 (0, 0)) (by (with_reducible repeat (first | refine zai ?_ _ | refine zae ?_ | refine zah ?_ _)); exact BK108.out)) : gb108 ≠ gb115)); have n7_ := zaa.mk ((by rw [hg]; exact Nat.ne_of_gt (zaw (g := gb108) (o := .cells #[.slice A0_0 l0_0.length c0_0, .slice A0_1 l0_1.length c0_1, .slice (some ad111) l0_2.length c0_2] 25 (0, 0)) (by (with_reducible repeat (first | refine zai ?_ _ | refine zae ?_ | refine zah ?_ _)); exact BK108.out)) : gb115 ≠ gb108)); have n8_ := zaa.mk ((by rw [hg]; exact Nat.ne_of_lt (zaw (g := gb112) (o := .cells #[.int .i64 ((zal l0_2 x4_2).f0), .slice (some ad114) ((zal l0_2 x4_2).f1).length c111_1, .int .i64 ((zal l0_2 x4_2).f2)] 46 (0, 0)) (by (with_reducible repeat (first | refine zai ?_ _ | refine zae ?_ | refine zah ?_ _)); exact BK112.out)) : gb112 ≠ gb115)); have n9_ := zaa.mk ((by rw [hg]; exact Nat.ne_of_gt (zaw (g := gb112) (o := .cells #[.int .i64 ((zal l0_2 x4_2).f0), .slice (some ad114) ((zal l0_2 x4_2).f1).length c111_1, .int .i64 ((zal l0_2 x4_2).f2)] 46 (0, 0)) (by (with_reducible repeat (first | refine zai ?_ _ | refine zae ?_ | refine zah ?_ _)); exact BK112.out)) : gb115 ≠ gb112)); clear BK108; clear BK112; clear HB; have BK108 := n0_; have BK112 := n1_; have HB := n2_; have BK115 := n3_; have GW115 := n4_; have GE115 := n5_; have NB108_115 := n6_; have NB115_108 := n7_; have NB112_115 := n8_; have NB115_112 := n9_; clear n0_ n1_ n2_ n3_ n4_ n5_ n6_ n7_ n8_ n9_; clear hb hbox hg; have hnb69 := NB115_108.out; have hnc69 := NB108_115.out; have hnb70 := NB115_112.out; have hnc70 := NB112_115.out; have hcz71_0 : w68.cell? ⟨gb115, 0, none⟩ = some (.int .i64 0) := (zab BK115.out 0).trans rfl; have hcz71_1 : w68.cell? ⟨gb115, 1, none⟩ = some (.string (⟨#[]⟩ : ByteArray)) := (zab BK115.out 1).trans rfl; have hcz71_2 : w68.cell? ⟨gb115, 2, none⟩ = some (.string (⟨#[]⟩ : ByteArray)) := (zab BK115.out 2).trans rfl; have hfz71_0 := zak BK115.out 0; have hfz71_1 := zak BK115.out 1; have hfz71_2 := zak BK115.out 2))
                repeat (go_quiet (first | ((with_reducible refine zba (N := 7) rfl ?_); (try (refine zbc (by rfl) ?_; dsimp only)); refine za9 ?hg (N := 7) ?hd (cs := #[.int .i64 0, .string (⟨#[]⟩ : ByteArray), .string (⟨#[]⟩ : ByteArray)]) (t := 43) ?hr ?_; (case hd => rfl); (case hg => rfl); (case hr => first | (go_simp; done) | (go_simp; rfl)); intro gb115 hg w68 hbox hb; have n0_ := zaa.mk (zaq (g := gb108) (o := .cells #[.slice A0_0 l0_0.length c0_0, .slice A0_1 l0_1.length c0_1, .slice (some ad111) l0_2.length c0_2] 25 (0, 0)) (by (with_reducible repeat (first | refine zai ?_ _ | refine zae ?_ | refine zah ?_ _)); exact BK108.out) hb); have n1_ := zaa.mk (zaq (g := gb112) (o := .cells #[.int .i64 ((zal l0_2 x4_2).f0), .slice (some ad114) ((zal l0_2 x4_2).f1).length c111_1, .int .i64 ((zal l0_2 x4_2).f2)] 46 (0, 0)) (by (with_reducible repeat (first | refine zai ?_ _ | refine zae ?_ | refine zah ?_ _)); exact BK112.out) hb); have n2_ := zaa.mk (zax (by repeat (first | (with_reducible first | exact HB.out | apply zaf | apply zac | apply zad | refine zaj ?_ GE108.out | refine zaj ?_ GE112.out) | exact HB.out)) hb); have n3_ := zaa.mk (hbox); have n4_ := zaa.mk ((by rw [hg]; exact (zat (by repeat (first | (with_reducible first | exact HB.out | apply zaf | apply zac | apply zad | refine zaj ?_ GE108.out | refine zaj ?_ GE112.out) | exact HB.out))) : w.heap.size ≤ gb115)); have n5_ := zaa.mk ((by rw [hg]; exact (zat (by repeat (first | (with_reducible first | exact HB.out | apply zaf | apply zac | apply zad | refine zaj ?_ GE108.out | refine zaj ?_ GE112.out) | exact HB.out))) : w.heap.size ≤ gb115)); have n6_ := zaa.mk ((by rw [hg]; exact Nat.ne_of_lt (zaw (g := gb108) (o := .cells #[.slice A0_0 l0_0.length c0_0, .slice A0_1 l0_1.length c0_1, .slice (some ad111) l0_2.length c0_2] 25 (0, 0)) (by (with_reducible repeat (first | refine zai ?_ _ | refine zae ?_ | refine zah ?_ _)); exact BK108.out)) : gb108 ≠ gb115)); have n7_ := zaa.mk ((by rw [hg]; exact Nat.ne_of_gt (zaw (g := gb108) (o := .cells #[.slice A0_0 l0_0.length c0_0, .slice A0_1 l0_1.length c0_1, .slice (some ad111) l0_2.length c0_2] 25 (0, 0)) (by (with_reducible repeat (first | refine zai ?_ _ | refine zae ?_ | refine zah ?_ _)); exact BK108.out)) : gb115 ≠ gb108)); have n8_ := zaa.mk ((by rw [hg]; exact Nat.ne_of_lt (zaw (g := gb112) (o := .cells #[.int .i64 ((zal l0_2 x4_2).f0), .slice (some ad114) ((zal l0_2 x4_2).f1).length c111_1, .int .i64 ((zal l0_2 x4_2).f2)] 46 (0, 0)) (by (with_reducible repeat (first | refine zai ?_ _ | refine zae ?_ | refine zah ?_ _)); exact BK112.out)) : gb112 ≠ gb115)); have n9_ := zaa.mk ((by rw [hg]; exact Nat.ne_of_gt (zaw (g := gb112) (o := .cells #[.int .i64 ((zal l0_2 x4_2).f0), .slice (some ad114) ((zal l0_2 x4_2).f1).length c111_1, .int .i64 ((zal l0_2 x4_2).f2)] 46 (0, 0)) (by (with_reducible repeat (first | refine zai ?_ _ | refine zae ?_ | refine zah ?_ _)); exact BK112.out)) : gb115 ≠ gb112)); clear BK108; clear BK112; clear HB; have BK108 := n0_; have BK112 := n1_; have HB := n2_; have BK115 := n3_; have GW115 := n4_; have GE115 := n5_; have NB108_115 := n6_; have NB115_108 := n7_; have NB112_115 := n8_; have NB115_112 := n9_; clear n0_ n1_ n2_ n3_ n4_ n5_ n6_ n7_ n8_ n9_; clear hb hbox hg; have hnb69 := NB115_108.out; have hnc69 := NB108_115.out; have hnb70 := NB115_112.out; have hnc70 := NB112_115.out; have hcz71_0 : w68.cell? ⟨gb115, 0, none⟩ = some (.int .i64 0) := (zab BK115.out 0).trans rfl; have hcz71_1 : w68.cell? ⟨gb115, 1, none⟩ = some (.string (⟨#[]⟩ : ByteArray)) := (zab BK115.out 1).trans rfl; have hcz71_2 : w68.cell? ⟨gb115, 2, none⟩ = some (.string (⟨#[]⟩ : ByteArray)) := (zab BK115.out 2).trans rfl; have hfz71_0 := zak BK115.out 0; have hfz71_1 := zak BK115.out 1; have hfz71_2 := zak BK115.out 2)); try go_wp2_with (first | ((with_reducible refine zba (N := 7) rfl ?_); (try (refine zbc (by rfl) ?_; dsimp only)); refine za9 ?hg (N := 7) ?hd (cs := #[.int .i64 0, .string (⟨#[]⟩ : ByteArray), .string (⟨#[]⟩ : ByteArray)]) (t := 43) ?hr ?_; (case hd => rfl); (case hg => rfl); (case hr => first | (go_simp; done) | (go_simp; rfl)); intro gb115 hg w68 hbox hb; have n0_ := zaa.mk (zaq (g := gb108) (o := .cells #[.slice A0_0 l0_0.length c0_0, .slice A0_1 l0_1.length c0_1, .slice (some ad111) l0_2.length c0_2] 25 (0, 0)) (by (with_reducible repeat (first | refine zai ?_ _ | refine zae ?_ | refine zah ?_ _)); exact BK108.out) hb); have n1_ := zaa.mk (zaq (g := gb112) (o := .cells #[.int .i64 ((zal l0_2 x4_2).f0), .slice (some ad114) ((zal l0_2 x4_2).f1).length c111_1, .int .i64 ((zal l0_2 x4_2).f2)] 46 (0, 0)) (by (with_reducible repeat (first | refine zai ?_ _ | refine zae ?_ | refine zah ?_ _)); exact BK112.out) hb); have n2_ := zaa.mk (zax (by repeat (first | (with_reducible first | exact HB.out | apply zaf | apply zac | apply zad | refine zaj ?_ GE108.out | refine zaj ?_ GE112.out) | exact HB.out)) hb); have n3_ := zaa.mk (hbox); have n4_ := zaa.mk ((by rw [hg]; exact (zat (by repeat (first | (with_reducible first | exact HB.out | apply zaf | apply zac | apply zad | refine zaj ?_ GE108.out | refine zaj ?_ GE112.out) | exact HB.out))) : w.heap.size ≤ gb115)); have n5_ := zaa.mk ((by rw [hg]; exact (zat (by repeat (first | (with_reducible first | exact HB.out | apply zaf | apply zac | apply zad | refine zaj ?_ GE108.out | refine zaj ?_ GE112.out) | exact HB.out))) : w.heap.size ≤ gb115)); have n6_ := zaa.mk ((by rw [hg]; exact Nat.ne_of_lt (zaw (g := gb108) (o := .cells #[.slice A0_0 l0_0.length c0_0, .slice A0_1 l0_1.length c0_1, .slice (some ad111) l0_2.length c0_2] 25 (0, 0)) (by (with_reducible repeat (first | refine zai ?_ _ | refine zae ?_ | refine zah ?_ _)); exact BK108.out)) : gb108 ≠ gb115)); have n7_ := zaa.mk ((by rw [hg]; exact Nat.ne_of_gt (zaw (g := gb108) (o := .cells #[.slice A0_0 l0_0.length c0_0, .slice A0_1 l0_1.length c0_1, .slice (some ad111) l0_2.length c0_2] 25 (0, 0)) (by (with_reducible repeat (first | refine zai ?_ _ | refine zae ?_ | refine zah ?_ _)); exact BK108.out)) : gb115 ≠ gb108)); have n8_ := zaa.mk ((by rw [hg]; exact Nat.ne_of_lt (zaw (g := gb112) (o := .cells #[.int .i64 ((zal l0_2 x4_2).f0), .slice (some ad114) ((zal l0_2 x4_2).f1).length c111_1, .int .i64 ((zal l0_2 x4_2).f2)] 46 (0, 0)) (by (with_reducible repeat (first | refine zai ?_ _ | refine zae ?_ | refine zah ?_ _)); exact BK112.out)) : gb112 ≠ gb115)); have n9_ := zaa.mk ((by rw [hg]; exact Nat.ne_of_gt (zaw (g := gb112) (o := .cells #[.int .i64 ((zal l0_2 x4_2).f0), .slice (some ad114) ((zal l0_2 x4_2).f1).length c111_1, .int .i64 ((zal l0_2 x4_2).f2)] 46 (0, 0)) (by (with_reducible repeat (first | refine zai ?_ _ | refine zae ?_ | refine zah ?_ _)); exact BK112.out)) : gb115 ≠ gb112)); clear BK108; clear BK112; clear HB; have BK108 := n0_; have BK112 := n1_; have HB := n2_; have BK115 := n3_; have GW115 := n4_; have GE115 := n5_; have NB108_115 := n6_; have NB115_108 := n7_; have NB112_115 := n8_; have NB115_112 := n9_; clear n0_ n1_ n2_ n3_ n4_ n5_ n6_ n7_ n8_ n9_; clear hb hbox hg; have hnb69 := NB115_108.out; have hnc69 := NB108_115.out; have hnb70 := NB115_112.out; have hnc70 := NB112_115.out; have hcz71_0 : w68.cell? ⟨gb115, 0, none⟩ = some (.int .i64 0) := (zab BK115.out 0).trans rfl; have hcz71_1 : w68.cell? ⟨gb115, 1, none⟩ = some (.string (⟨#[]⟩ : ByteArray)) := (zab BK115.out 1).trans rfl; have hcz71_2 : w68.cell? ⟨gb115, 2, none⟩ = some (.string (⟨#[]⟩ : ByteArray)) := (zab BK115.out 2).trans rfl; have hfz71_0 := zak BK115.out 0; have hfz71_1 := zak BK115.out 1; have hfz71_2 := zak BK115.out 2)))
                go_ret
                exact ⟨by first | rfl | (simp [za6, za4] <;> rfl) | (simp [*, za6, za4] <;> rfl), by repeat (first | (with_reducible first | exact HB.out | apply zaf | apply zac | apply zad | refine zaj ?_ GE108.out | refine zaj ?_ GE112.out | refine zaj ?_ GE115.out) | exact HB.out)⟩
               ·rw [if_neg c65] at H
                have c65b0 : decide (((zbl ((zal l0_2 x4_2).f1) x6_4).f0) < 0) = false := decide_eq_false c65
                clear c65
                by_cases c72 : ((zbl ((zal l0_2 x4_2).f1) x6_4).f0) ≥ (wrap64 ((l0_0.length : Int) + (l0_1.length : Int)))
                ·rw [if_pos c72] at H
                 have c72b0 : decide ((wrap64 ((l0_0.length : Int) + (l0_1.length : Int))) ≤ ((zbl ((zal l0_2 x4_2).f1) x6_4).f0)) = true := decide_eq_true c72
                 clear c72
                 obtain rfl := Option.some.inj H
                 have hnb73 := NB112_108.out
                 have hnc73 := NB108_112.out
                 have hcz74_0 : wr.cell? ⟨gb112, 0, none⟩ = some (.int .i64 ((zal l0_2 x4_2).f0)) := (zab BK112.out 0).trans rfl
                 have hcz74_1 : wr.cell? ⟨gb112, 1, none⟩ = some (.slice A111_1 ((zal l0_2 x4_2).f1).length c111_1) := (zab BK112.out 1).trans rfl
                 have hcz74_2 : wr.cell? ⟨gb112, 2, none⟩ = some (.int .i64 ((zal l0_2 x4_2).f2)) := (zab BK112.out 2).trans rfl
                 have hfz74_0 := zak BK112.out 0
                 have hfz74_1 := zak BK112.out 1
                 have hfz74_2 := zak BK112.out 2
                 have p114 : 0 ≤ (x6_4 : Int) := of_decide_eq_true (by first | (with_reducible assumption) | assumption)
                 have q114 : x6_4 < (((zal l0_2 x4_2).f1).length : Int) := of_decide_eq_true (by first | (with_reducible assumption) | assumption)
                 obtain ⟨ad114, e114, hx114_0, hx114_1, hx114_2⟩ := at_T43 HR111_1.out x6_4 p114 q114
                 cases e114
                 replace hx114_0 := (HB.out.cell (World.block_lt_of_cell? w _ hx114_0)).trans hx114_0
                 replace hx114_1 := (HB.out.cell (World.block_lt_of_cell? w _ hx114_1)).trans hx114_1
                 replace hx114_2 := (HB.out.cell (World.block_lt_of_cell? w _ hx114_2)).trans hx114_2
                 replace p114 := eq_true p114
                 replace q114 := eq_true q114
                 go_wp2_with (first | ((with_reducible refine zba (N := 7) rfl ?_); (try (refine zbc (by rfl) ?_; dsimp only)); refine za9 ?hg (N := 7) ?hd (cs := #[.int .i64 0, .string (⟨#[]⟩ : ByteArray), .string (⟨#[]⟩ : ByteArray)]) (t := 43) ?hr ?_; (case hd => rfl); (case hg => rfl); (case hr => first | (go_simp; done) | (go_simp; rfl)); intro gb115 hg w75 hbox hb; have n0_ := zaa.mk (zaq (g := gb108) (o := .cells #[.slice A0_0 l0_0.length c0_0, .slice A0_1 l0_1.length c0_1, .slice (some ad111) l0_2.length c0_2] 25 (0, 0)) (by (with_reducible repeat (first | refine zai ?_ _ | refine zae ?_ | refine zah ?_ _)); exact BK108.out) hb); have n1_ := zaa.mk (zaq (g := gb112) (o := .cells #[.int .i64 ((zal l0_2 x4_2).f0), .slice (some ad114) ((zal l0_2 x4_2).f1).length c111_1, .int .i64 ((zal l0_2 x4_2).f2)] 46 (0, 0)) (by (with_reducible repeat (first | refine zai ?_ _ | refine zae ?_ | refine zah ?_ _)); exact BK112.out) hb); have n2_ := zaa.mk (zax (by repeat (first | (with_reducible first | exact HB.out | apply zaf | apply zac | apply zad | refine zaj ?_ GE108.out | refine zaj ?_ GE112.out) | exact HB.out)) hb); have n3_ := zaa.mk (hbox); have n4_ := zaa.mk ((by rw [hg]; exact (zat (by repeat (first | (with_reducible first | exact HB.out | apply zaf | apply zac | apply zad | refine zaj ?_ GE108.out | refine zaj ?_ GE112.out) | exact HB.out))) : w.heap.size ≤ gb115)); have n5_ := zaa.mk ((by rw [hg]; exact (zat (by repeat (first | (with_reducible first | exact HB.out | apply zaf | apply zac | apply zad | refine zaj ?_ GE108.out | refine zaj ?_ GE112.out) | exact HB.out))) : w.heap.size ≤ gb115)); have n6_ := zaa.mk ((by rw [hg]; exact Nat.ne_of_lt (zaw (g := gb108) (o := .cells #[.slice A0_0 l0_0.length c0_0, .slice A0_1 l0_1.length c0_1, .slice (some ad111) l0_2.length c0_2] 25 (0, 0)) (by (with_reducible repeat (first | refine zai ?_ _ | refine zae ?_ | refine zah ?_ _)); exact BK108.out)) : gb108 ≠ gb115)); have n7_ := zaa.mk ((by rw [hg]; exact Nat.ne_of_gt (zaw (g := gb108) (o := .cells #[.slice A0_0 l0_0.length c0_0, .slice A0_1 l0_1.length c0_1, .slice (some ad111) l0_2.length c0_2] 25 (0, 0)) (by (with_reducible repeat (first | refine zai ?_ _ | refine zae ?_ | refine zah ?_ _)); exact BK108.out)) : gb115 ≠ gb108)); have n8_ := zaa.mk ((by rw [hg]; exact Nat.ne_of_lt (zaw (g := gb112) (o := .cells #[.int .i64 ((zal l0_2 x4_2).f0), .slice (some ad114) ((zal l0_2 x4_2).f1).length c111_1, .int .i64 ((zal l0_2 x4_2).f2)] 46 (0, 0)) (by (with_reducible repeat (first | refine zai ?_ _ | refine zae ?_ | refine zah ?_ _)); exact BK112.out)) : gb112 ≠ gb115)); have n9_ := zaa.mk ((by rw [hg]; exact Nat.ne_of_gt (zaw (g := gb112) (o := .cells #[.int .i64 ((zal l0_2 x4_2).f0), .slice (some ad114) ((zal l0_2 x4_2).f1).length c111_1, .int .i64 ((zal l0_2 x4_2).f2)] 46 (0, 0)) (by (with_reducible repeat (first | refine zai ?_ _ | refine zae ?_ | refine zah ?_ _)); exact BK112.out)) : gb115 ≠ gb112)); clear BK108; clear BK112; clear HB; have BK108 := n0_; have BK112 := n1_; have HB := n2_; have BK115 := n3_; have GW115 := n4_; have GE115 := n5_; have NB108_115 := n6_; have NB115_108 := n7_; have NB112_115 := n8_; have NB115_112 := n9_; clear n0_ n1_ n2_ n3_ n4_ n5_ n6_ n7_ n8_ n9_; clear hb hbox hg; have hnb76 := NB115_108.out; have hnc76 := NB108_115.out; have hnb77 := NB115_112.out; have hnc77 := NB112_115.out; have hcz78_0 : w75.cell? ⟨gb115, 0, none⟩ = some (.int .i64 0) := (zab BK115.out 0).trans rfl; have hcz78_1 : w75.cell? ⟨gb115, 1, none⟩ = some (.string (⟨#[]⟩ : ByteArray)) := (zab BK115.out 1).trans rfl; have hcz78_2 : w75.cell? ⟨gb115, 2, none⟩ = some (.string (⟨#[]⟩ : ByteArray)) := (zab BK115.out 2).trans rfl; have hfz78_0 := zak BK115.out 0; have hfz78_1 := zak BK115.out 1; have hfz78_2 := zak BK115.out 2))
                 repeat (go_quiet (first | ((with_reducible refine zba (N := 7) rfl ?_); (try (refine zbc (by rfl) ?_; dsimp only)); refine za9 ?hg (N := 7) ?hd (cs := #[.int .i64 0, .string (⟨#[]⟩ : ByteArray), .string (⟨#[]⟩ : ByteArray)]) (t := 43) ?hr ?_; (case hd => rfl); (case hg => rfl); (case hr => first | (go_simp; done) | (go_simp; rfl)); intro gb115 hg w75 hbox hb; have n0_ := zaa.mk (zaq (g := gb108) (o := .cells #[.slice A0_0 l0_0.length c0_0, .slice A0_1 l0_1.length c0_1, .slice (some ad111) l0_2.length c0_2] 25 (0, 0)) (by (with_reducible repeat (first | refine zai ?_ _ | refine zae ?_ | refine zah ?_ _)); exact BK108.out) hb); have n1_ := zaa.mk (zaq (g := gb112) (o := .cells #[.int .i64 ((zal l0_2 x4_2).f0), .slice (some ad114) ((zal l0_2 x4_2).f1).length c111_1, .int .i64 ((zal l0_2 x4_2).f2)] 46 (0, 0)) (by (with_reducible repeat (first | refine zai ?_ _ | refine zae ?_ | refine zah ?_ _)); exact BK112.out) hb); have n2_ := zaa.mk (zax (by repeat (first | (with_reducible first | exact HB.out | apply zaf | apply zac | apply zad | refine zaj ?_ GE108.out | refine zaj ?_ GE112.out) | exact HB.out)) hb); have n3_ := zaa.mk (hbox); have n4_ := zaa.mk ((by rw [hg]; exact (zat (by repeat (first | (with_reducible first | exact HB.out | apply zaf | apply zac | apply zad | refine zaj ?_ GE108.out | refine zaj ?_ GE112.out) | exact HB.out))) : w.heap.size ≤ gb115)); have n5_ := zaa.mk ((by rw [hg]; exact (zat (by repeat (first | (with_reducible first | exact HB.out | apply zaf | apply zac | apply zad | refine zaj ?_ GE108.out | refine zaj ?_ GE112.out) | exact HB.out))) : w.heap.size ≤ gb115)); have n6_ := zaa.mk ((by rw [hg]; exact Nat.ne_of_lt (zaw (g := gb108) (o := .cells #[.slice A0_0 l0_0.length c0_0, .slice A0_1 l0_1.length c0_1, .slice (some ad111) l0_2.length c0_2] 25 (0, 0)) (by (with_reducible repeat (first | refine zai ?_ _ | refine zae ?_ | refine zah ?_ _)); exact BK108.out)) : gb108 ≠ gb115)); have n7_ := zaa.mk ((by rw [hg]; exact Nat.ne_of_gt (zaw (g := gb108) (o := .cells #[.slice A0_0 l0_0.length c0_0, .slice A0_1 l0_1.length c0_1, .slice (some ad111) l0_2.length c0_2] 25 (0, 0)) (by (with_reducible repeat (first | refine zai ?_ _ | refine zae ?_ | refine zah ?_ _)); exact BK108.out)) : gb115 ≠ gb108)); have n8_ := zaa.mk ((by rw [hg]; exact Nat.ne_of_lt (zaw (g := gb112) (o := .cells #[.int .i64 ((zal l0_2 x4_2).f0), .slice (some ad114) ((zal l0_2 x4_2).f1).length c111_1, .int .i64 ((zal l0_2 x4_2).f2)] 46 (0, 0)) (by (with_reducible repeat (first | refine zai ?_ _ | refine zae ?_ | refine zah ?_ _)); exact BK112.out)) : gb112 ≠ gb115)); have n9_ := zaa.mk ((by rw [hg]; exact Nat.ne_of_gt (zaw (g := gb112) (o := .cells #[.int .i64 ((zal l0_2 x4_2).f0), .slice (some ad114) ((zal l0_2 x4_2).f1).length c111_1, .int .i64 ((zal l0_2 x4_2).f2)] 46 (0, 0)) (by (with_reducible repeat (first | refine zai ?_ _ | refine zae ?_ | refine zah ?_ _)); exact BK112.out)) : gb115 ≠ gb112)); clear BK108; clear BK112; clear HB; have BK108 := n0_; have BK112 := n1_; have HB := n2_; have BK115 := n3_; have GW115 := n4_; have GE115 := n5_; have NB108_115 := n6_; have NB115_108 := n7_; have NB112_115 := n8_; have NB115_112 := n9_; clear n0_ n1_ n2_ n3_ n4_ n5_ n6_ n7_ n8_ n9_; clear hb hbox hg; have hnb76 := NB115_108.out; have hnc76 := NB108_115.out; have hnb77 := NB115_112.out; have hnc77 := NB112_115.out; have hcz78_0 : w75.cell? ⟨gb115, 0, none⟩ = some (.int .i64 0) := (zab BK115.out 0).trans rfl; have hcz78_1 : w75.cell? ⟨gb115, 1, none⟩ = some (.string (⟨#[]⟩ : ByteArray)) := (zab BK115.out 1).trans rfl; have hcz78_2 : w75.cell? ⟨gb115, 2, none⟩ = some (.string (⟨#[]⟩ : ByteArray)) := (zab BK115.out 2).trans rfl; have hfz78_0 := zak BK115.out 0; have hfz78_1 := zak BK115.out 1; have hfz78_2 := zak BK115.out 2)); try go_wp2_with (first | ((with_reducible refine zba (N := 7) rfl ?_); (try (refine zbc (by rfl) ?_; dsimp only)); refine za9 ?hg (N := 7) ?hd (cs := #[.int .i64 0, .string (⟨#[]⟩ : ByteArray), .string (⟨#[]⟩ : ByteArray)]) (t := 43) ?hr ?_; (case hd => rfl); (case hg => rfl); (case hr => first | (go_simp; done) | (go_simp; rfl)); intro gb115 hg w75 hbox hb; have n0_ := zaa.mk (zaq (g := gb108) (o := .cells #[.slice A0_0 l0_0.length c0_0, .slice A0_1 l0_1.length c0_1, .slice (some ad111) l0_2.length c0_2] 25 (0, 0)) (by (with_reducible repeat (first | refine zai ?_ _ | refine zae ?_ | refine zah ?_ _)); exact BK108.out) hb); have n1_ := zaa.mk (zaq (g := gb112) (o := .cells #[.int .i64 ((zal l0_2 x4_2).f0), .slice (some ad114) ((zal l0_2 x4_2).f1).length c111_1, .int .i64 ((zal l0_2 x4_2).f2)] 46 (0, 0)) (by (with_reducible repeat (first | refine zai ?_ _ | refine zae ?_ | refine zah ?_ _)); exact BK112.out) hb); have n2_ := zaa.mk (zax (by repeat (first | (with_reducible first | exact HB.out | apply zaf | apply zac | apply zad | refine zaj ?_ GE108.out | refine zaj ?_ GE112.out) | exact HB.out)) hb); have n3_ := zaa.mk (hbox); have n4_ := zaa.mk ((by rw [hg]; exact (zat (by repeat (first | (with_reducible first | exact HB.out | apply zaf | apply zac | apply zad | refine zaj ?_ GE108.out | refine zaj ?_ GE112.out) | exact HB.out))) : w.heap.size ≤ gb115)); have n5_ := zaa.mk ((by rw [hg]; exact (zat (by repeat (first | (with_reducible first | exact HB.out | apply zaf | apply zac | apply zad | refine zaj ?_ GE108.out | refine zaj ?_ GE112.out) | exact HB.out))) : w.heap.size ≤ gb115)); have n6_ := zaa.mk ((by rw [hg]; exact Nat.ne_of_lt (zaw (g := gb108) (o := .cells #[.slice A0_0 l0_0.length c0_0, .slice A0_1 l0_1.length c0_1, .slice (some ad111) l0_2.length c0_2] 25 (0, 0)) (by (with_reducible repeat (first | refine zai ?_ _ | refine zae ?_ | refine zah ?_ _)); exact BK108.out)) : gb108 ≠ gb115)); have n7_ := zaa.mk ((by rw [hg]; exact Nat.ne_of_gt (zaw (g := gb108) (o := .cells #[.slice A0_0 l0_0.length c0_0, .slice A0_1 l0_1.length c0_1, .slice (some ad111) l0_2.length c0_2] 25 (0, 0)) (by (with_reducible repeat (first | refine zai ?_ _ | refine zae ?_ | refine zah ?_ _)); exact BK108.out)) : gb115 ≠ gb108)); have n8_ := zaa.mk ((by rw [hg]; exact Nat.ne_of_lt (zaw (g := gb112) (o := .cells #[.int .i64 ((zal l0_2 x4_2).f0), .slice (some ad114) ((zal l0_2 x4_2).f1).length c111_1, .int .i64 ((zal l0_2 x4_2).f2)] 46 (0, 0)) (by (with_reducible repeat (first | refine zai ?_ _ | refine zae ?_ | refine zah ?_ _)); exact BK112.out)) : gb112 ≠ gb115)); have n9_ := zaa.mk ((by rw [hg]; exact Nat.ne_of_gt (zaw (g := gb112) (o := .cells #[.int .i64 ((zal l0_2 x4_2).f0), .slice (some ad114) ((zal l0_2 x4_2).f1).length c111_1, .int .i64 ((zal l0_2 x4_2).f2)] 46 (0, 0)) (by (with_reducible repeat (first | refine zai ?_ _ | refine zae ?_ | refine zah ?_ _)); exact BK112.out)) : gb115 ≠ gb112)); clear BK108; clear BK112; clear HB; have BK108 := n0_; have BK112 := n1_; have HB := n2_; have BK115 := n3_; have GW115 := n4_; have GE115 := n5_; have NB108_115 := n6_; have NB115_108 := n7_; have NB112_115 := n8_; have NB115_112 := n9_; clear n0_ n1_ n2_ n3_ n4_ n5_ n6_ n7_ n8_ n9_; clear hb hbox hg; have hnb76 := NB115_108.out; have hnc76 := NB108_115.out; have hnb77 := NB115_112.out; have hnc77 := NB112_115.out; have hcz78_0 : w75.cell? ⟨gb115, 0, none⟩ = some (.int .i64 0) := (zab BK115.out 0).trans rfl; have hcz78_1 : w75.cell? ⟨gb115, 1, none⟩ = some (.string (⟨#[]⟩ : ByteArray)) := (zab BK115.out 1).trans rfl; have hcz78_2 : w75.cell? ⟨gb115, 2, none⟩ = some (.string (⟨#[]⟩ : ByteArray)) := (zab BK115.out 2).trans rfl; have hfz78_0 := zak BK115.out 0; have hfz78_1 := zak BK115.out 1; have hfz78_2 := zak BK115.out 2)))
                 go_ret
                 exact ⟨by first | rfl | (simp [za6, za4] <;> rfl) | (simp [*, za6, za4] <;> rfl), by repeat (first | (with_reducible first | exact HB.out | apply zaf | apply zac | apply zad | refine zaj ?_ GE108.out | refine zaj ?_ GE112.out | refine zaj ?_ GE115.out) | exact HB.out)⟩
                ·rw [if_neg c72] at H
                 have c72b0 : decide ((wrap64 ((l0_0.length : Int) + (l0_1.length : Int))) ≤ ((zbl ((zal l0_2 x4_2).f1) x6_4).f0)) = false := decide_eq_false c72
                 clear c72
                 replace H := Option.bind_eq_some_iff.mp H
                 obtain ⟨t116, A790, H⟩ := H
                 replace H : (if t116 = true then ((za0.f k4 ((zbl ((zal l0_2 x4_2).f1) x6_4).f2)).bind fun t117 => (if t117 = true then (zam.l1 k4 (wrap64 ((l0_0.length : Int) + (l0_1.length : Int))) x4_2 (wrap64 (x6_4 + 1)) l0_0 l0_1 l0_2 ((zal l0_2 x4_2).f0) ((zal l0_2 x4_2).f1) ((zal l0_2 x4_2).f2)) else (some false))) else (some false)) = some r := H
                 have A79 := zaa.mk A790
                 clear A790
                 by_cases c80 : t116 = true
                 ·subst c80
                  have H1 : ((za0.f k4 ((zbl ((zal l0_2 x4_2).f1) x6_4).f2)).bind fun t117 => (if t117 = true then (zam.l1 k4 (wrap64 ((l0_0.length : Int) + (l0_1.length : Int))) x4_2 (wrap64 (x6_4 + 1)) l0_0 l0_1 l0_2 ((zal l0_2 x4_2).f0) ((zal l0_2 x4_2).f1) ((zal l0_2 x4_2).f2)) else (some false))) = some r := by rw [if_pos rfl] at H; exact H
                  clear H
                  have H := H1
                  clear H1
                  replace H := Option.bind_eq_some_iff.mp H
                  obtain ⟨t117, A810, H⟩ := H
                  replace H : (if t117 = true then (zam.l1 k4 (wrap64 ((l0_0.length : Int) + (l0_1.length : Int))) x4_2 (wrap64 (x6_4 + 1)) l0_0 l0_1 l0_2 ((zal l0_2 x4_2).f0) ((zal l0_2 x4_2).f1) ((zal l0_2 x4_2).f2)) else (some false)) = some r := H
                  have A81 := zaa.mk A810
                  clear A810
                  by_cases c82 : t117 = true
                  ·subst c82
                   have H1 : (zam.l1 k4 (wrap64 ((l0_0.length : Int) + (l0_1.length : Int))) x4_2 (wrap64 (x6_4 + 1)) l0_0 l0_1 l0_2 ((zal l0_2 x4_2).f0) ((zal l0_2 x4_2).f1) ((zal l0_2 x4_2).f2)) = some r := by rw [if_pos rfl] at H; exact H
                   clear H
                   have H := H1
                   clear H1
                   have H' := zaa.mk H
                   clear H
                   have hnb83 := NB112_108.out
                   have hnc83 := NB108_112.out
                   have hcz84_0 : wr.cell? ⟨gb112, 0, none⟩ = some (.int .i64 ((zal l0_2 x4_2).f0)) := (zab BK112.out 0).trans rfl
                   have hcz84_1 : wr.cell? ⟨gb112, 1, none⟩ = some (.slice A111_1 ((zal l0_2 x4_2).f1).length c111_1) := (zab BK112.out 1).trans rfl
                   have hcz84_2 : wr.cell? ⟨gb112, 2, none⟩ = some (.int .i64 ((zal l0_2 x4_2).f2)) := (zab BK112.out 2).trans rfl
                   have hfz84_0 := zak BK112.out 0
                   have hfz84_1 := zak BK112.out 1
                   have hfz84_2 := zak BK112.out 2
                   have p114 : 0 ≤ (x6_4 : Int) := of_decide_eq_true (by first | (with_reducible assumption) | assumption)
                   have q114 : x6_4 < (((zal l0_2 x4_2).f1).length : Int) := of_decide_eq_true (by first | (with_reducible assumption) | assumption)
                   obtain ⟨ad114, e114, hx114_0, hx114_1, hx114_2⟩ := at_T43 HR111_1.out x6_4 p114 q114
                   cases e114
                   replace hx114_0 := (HB.out.cell (World.block_lt_of_cell? w _ hx114_0)).trans hx114_0
                   replace hx114_1 := (HB.out.cell (World.block_lt_of_cell? w _ hx114_1)).trans hx114_1
                   replace hx114_2 := (HB.out.cell (World.block_lt_of_cell? w _ hx114_2)).trans hx114_2
                   replace p114 := eq_true p114
                   replace q114 := eq_true q114
                   go_wp2_with (first | ((with_reducible refine zba (N := 7) rfl ?_); (try (refine zbc (by rfl) ?_; dsimp only)); refine za9 ?hg (N := 7) ?hd (cs := #[.int .i64 0, .string (⟨#[]⟩ : ByteArray), .string (⟨#[]⟩ : ByteArray)]) (t := 43) ?hr ?_; (case hd => rfl); (case hg => rfl); (case hr => first | (go_simp; done) | (go_simp; rfl)); intro gb115 hg w85 hbox hb; have n0_ := zaa.mk (zaq (g := gb108) (o := .cells #[.slice A0_0 l0_0.length c0_0, .slice A0_1 l0_1.length c0_1, .slice (some ad111) l0_2.length c0_2] 25 (0, 0)) (by (with_reducible repeat (first | refine zai ?_ _ | refine zae ?_ | refine zah ?_ _)); exact BK108.out) hb); have n1_ := zaa.mk (zaq (g := gb112) (o := .cells #[.int .i64 ((zal l0_2 x4_2).f0), .slice (some ad114) ((zal l0_2 x4_2).f1).length c111_1, .int .i64 ((zal l0_2 x4_2).f2)] 46 (0, 0)) (by (with_reducible repeat (first | refine zai ?_ _ | refine zae ?_ | refine zah ?_ _)); exact BK112.out) hb); have n2_ := zaa.mk (zax (by repeat (first | (with_reducible first | exact HB.out | apply zaf | apply zac | apply zad | refine zaj ?_ GE108.out | refine zaj ?_ GE112.out) | exact HB.out)) hb); have n3_ := zaa.mk (hbox); have n4_ := zaa.mk ((by rw [hg]; exact (zat (by repeat (first | (with_reducible first | exact HB.out | apply zaf | apply zac | apply zad | refine zaj ?_ GE108.out | refine zaj ?_ GE112.out) | exact HB.out))) : w.heap.size ≤ gb115)); have n5_ := zaa.mk ((by rw [hg]; exact (zat (by repeat (first | (with_reducible first | exact HB.out | apply zaf | apply zac | apply zad | refine zaj ?_ GE108.out | refine zaj ?_ GE112.out) | exact HB.out))) : w.heap.size ≤ gb115)); have n6_ := zaa.mk ((by rw [hg]; exact Nat.ne_of_lt (zaw (g := gb108) (o := .cells #[.slice A0_0 l0_0.length c0_0, .slice A0_1 l0_1.length c0_1, .slice (some ad111) l0_2.length c0_2] 25 (0, 0)) (by (with_reducible repeat (first | refine zai ?_ _ | refine zae ?_ | refine zah ?_ _)); exact BK108.out)) : gb108 ≠ gb115)); have n7_ := zaa.mk ((by rw [hg]; exact Nat.ne_of_gt (zaw (g := gb108) (o := .cells #[.slice A0_0 l0_0.length c0_0, .slice A0_1 l0_1.length c0_1, .slice (some ad111) l0_2.length c0_2] 25 (0, 0)) (by (with_reducible repeat (first | refine zai ?_ _ | refine zae ?_ | refine zah ?_ _)); exact BK108.out)) : gb115 ≠ gb108)); have n8_ := zaa.mk ((by rw [hg]; exact Nat.ne_of_lt (zaw (g := gb112) (o := .cells #[.int .i64 ((zal l0_2 x4_2).f0), .slice (some ad114) ((zal l0_2 x4_2).f1).length c111_1, .int .i64 ((zal l0_2 x4_2).f2)] 46 (0, 0)) (by (with_reducible repeat (first | refine zai ?_ _ | refine zae ?_ | refine zah ?_ _)); exact BK112.out)) : gb112 ≠ gb115)); have n9_ := zaa.mk ((by rw [hg]; exact Nat.ne_of_gt (zaw (g := gb112) (o := .cells #[.int .i64 ((zal l0_2 x4_2).f0), .slice (some ad114) ((zal l0_2 x4_2).f1).length c111_1, .int .i64 ((zal l0_2 x4_2).f2)] 46 (0, 0)) (by (with_reducible repeat (first | refine zai ?_ _ | refine zae ?_ | refine zah ?_ _)); exact BK112.out)) : gb115 ≠ gb112)); clear BK108; clear BK112; clear HB; have BK108 := n0_; have BK112 := n1_; have HB := n2_; have BK115 := n3_; have GW115 := n4_; have GE115 := n5_; have NB108_115 := n6_; have NB115_108 := n7_; have NB112_115 := n8_; have NB115_112 := n9_; clear n0_ n1_ n2_ n3_ n4_ n5_ n6_ n7_ n8_ n9_; clear hb hbox hg; have hnb86 := NB115_108.out; have hnc86 := NB108_115.out; have hnb87 := NB115_112.out; have hnc87 := NB112_115.out; have hcz88_0 : w85.cell? ⟨gb115, 0, none⟩ = some (.int .i64 0) := (zab BK115.out 0).trans rfl; have hcz88_1 : w85.cell? ⟨gb115, 1, none⟩ = some (.string (⟨#[]⟩ : ByteArray)) := (zab BK115.out 1).trans rfl; have hcz88_2 : w85.cell? ⟨gb115, 2, none⟩ = some (.string (⟨#[]⟩ : ByteArray)) := (zab BK115.out 2).trans rfl; have hfz88_0 := zak BK115.out 0; have hfz88_1 := zak BK115.out 1; have hfz88_2 := zak BK115.out 2) | (go_at_call 24; (with_reducible refine (za0.calls k4 ((zbl ((zal l0_2 x4_2).f1) x6_4).f1) true _ A79.out).mono ?_); rintro e w' ⟨rfl, ⟨nd, rfl⟩⟩; (try first | exact ⟨rfl, _, World.drewN_drewN _ _ _⟩ | exact ⟨rfl, _, Eq.trans (World.drewN_drewN _ _ _) (congrArg (World.drewN _) (Nat.add_assoc _ _ _))⟩)) | (go_at_call 24; (with_reducible refine (za0.calls k4 ((zbl ((zal l0_2 x4_2).f1) x6_4).f2) true _ A81.out).mono ?_); rintro e w' ⟨rfl, ⟨nd, rfl⟩⟩; (try first | exact ⟨rfl, _, World.drewN_drewN _ _ _⟩ | exact ⟨rfl, _, Eq.trans (World.drewN_drewN _ _ _) (congrArg (World.drewN _) (Nat.add_assoc _ _ _))⟩)))
                   repeat (go_quiet (first | ((with_reducible refine zba (N := 7) rfl ?_); (try (refine zbc (by rfl) ?_; dsimp only)); refine za9 ?hg (N := 7) ?hd (cs := #[.int .i64 0, .string (⟨#[]⟩ : ByteArray), .string (⟨#[]⟩ : ByteArray)]) (t := 43) ?hr ?_; (case hd => rfl); (case hg => rfl); (case hr => first | (go_simp; done) | (go_simp; rfl)); intro gb115 hg w85 hbox hb; have n0_ := zaa.mk (zaq (g := gb108) (o := .cells #[.slice A0_0 l0_0.length c0_0, .slice A0_1 l0_1.length c0_1, .slice (some ad111) l0_2.length c0_2] 25 (0, 0)) (by (with_reducible repeat (first | refine zai ?_ _ | refine zae ?_ | refine zah ?_ _)); exact BK108.out) hb); have n1_ := zaa.mk (zaq (g := gb112) (o := .cells #[.int .i64 ((zal l0_2 x4_2).f0), .slice (some ad114) ((zal l0_2 x4_2).f1).length c111_1, .int .i64 ((zal l0_2 x4_2).f2)] 46 (0, 0)) (by (with_reducible repeat (first | refine zai ?_ _ | refine zae ?_ | refine zah ?_ _)); exact BK112.out) hb); have n2_ := zaa.mk (zax (by repeat (first | (with_reducible first | exact HB.out | apply zaf | apply zac | apply zad | refine zaj ?_ GE108.out | refine zaj ?_ GE112.out) | exact HB.out)) hb); have n3_ := zaa.mk (hbox); have n4_ := zaa.mk ((by rw [hg]; exact (zat (by repeat (first | (with_reducible first | exact HB.out | apply zaf | apply zac | apply zad | refine zaj ?_ GE108.out | refine zaj ?_ GE112.out) | exact HB.out))) : w.heap.size ≤ gb115)); have n5_ := zaa.mk ((by rw [hg]; exact (zat (by repeat (first | (with_reducible first | exact HB.out | apply zaf | apply zac | apply zad | refine zaj ?_ GE108.out | refine zaj ?_ GE112.out) | exact HB.out))) : w.heap.size ≤ gb115)); have n6_ := zaa.mk ((by rw [hg]; exact Nat.ne_of_lt (zaw (g := gb108) (o := .cells #[.slice A0_0 l0_0.length c0_0, .slice A0_1 l0_1.length c0_1, .slice (some ad111) l0_2.length c0_2] 25 (0, 0)) (by (with_reducible repeat (first | refine zai ?_ _ | refine zae ?_ | refine zah ?_ _)); exact BK108.out)) : gb108 ≠ gb115)); have n7_ := zaa.mk ((by rw [hg]; exact Nat.ne_of_gt (zaw (g := gb108) (o := .cells #[.slice A0_0 l0_0.length c0_0, .slice A0_1 l0_1.length c0_1, .slice (some ad111) l0_2.length c0_2] 25 (0, 0)) (by (with_reducible repeat (first | refine zai ?_ _ | refine zae ?_ | refine zah ?_ _)); exact BK108.out)) : gb115 ≠ gb108)); have n8_ := zaa.mk ((by rw [hg]; exact Nat.ne_of_lt (zaw (g := gb112) (o := .cells #[.int .i64 ((zal l0_2 x4_2).f0), .slice (some ad114) ((zal l0_2 x4_2).f1).length c111_1, .int .i64 ((zal l0_2 x4_2).f2)] 46 (0, 0)) (by (with_reducible repeat (first | refine zai ?_ _ | refine zae ?_ | refine zah ?_ _)); exact BK112.out)) : gb112 ≠ gb115)); have n9_ := zaa.mk ((by rw [hg]; exact Nat.ne_of_gt (zaw (g := gb112) (o := .cells #[.int .i64 ((zal l0_2 x4_2).f0), .slice (some ad114) ((zal l0_2 x4_2).f1).length c111_1, .int .i64 ((zal l0_2 x4_2).f2)] 46 (0, 0)) (by (with_reducible repeat (first | refine zai ?_ _ | refine zae ?_ | refine zah ?_ _)); exact BK112.out)) : gb115 ≠ gb112)); clear BK108; clear BK112; clear HB; have BK108 := n0_; have BK112 := n1_; have HB := n2_; have BK115 := n3_; have GW115 := n4_; have GE115 := n5_; have NB108_115 := n6_; have NB115_108 := n7_; have NB112_115 := n8_; have NB115_112 := n9_; clear n0_ n1_ n2_ n3_ n4_ n5_ n6_ n7_ n8_ n9_; clear hb hbox hg; have hnb86 := NB115_108.out; have hnc86 := NB108_115.out; have hnb87 := NB115_112.out; have hnc87 := NB112_115.out; have hcz88_0 : w85.cell? ⟨gb115, 0, none⟩ = some (.int .i64 0) := (zab BK115.out 0).trans rfl; have hcz88_1 : w85.cell? ⟨gb115, 1, none⟩ = some (.string (⟨#[]⟩ : ByteArray)) := (zab BK115.out 1).trans rfl; have hcz88_2 : w85.cell? ⟨gb115, 2, none⟩ = some (.string (⟨#[]⟩ : ByteArray)) := (zab BK115.out 2).trans rfl; have hfz88_0 := zak BK115.out 0; have hfz88_1 := zak BK115.out 1; have hfz88_2 := zak BK115.out 2) | (go_at_call 24; (with_reducible refine (za0.calls k4 ((zbl ((zal l0_2 x4_2).f1) x6_4).f1) true _ A79.out).mono ?_); rintro e w' ⟨rfl, ⟨nd, rfl⟩⟩; (try first | exact ⟨rfl, _, World.drewN_drewN _ _ _⟩ | exact ⟨rfl, _, Eq.trans (World.drewN_drewN _ _ _) (congrArg (World.drewN _) (Nat.add_assoc _ _ _))⟩)) | (go_at_call 24; (with_reducible refine (za0.calls k4 ((zbl ((zal l0_2 x4_2).f1) x6_4).f2) true _ A81.out).mono ?_); rintro e w' ⟨rfl, ⟨nd, rfl⟩⟩; (try first | exact ⟨rfl, _, World.drewN_drewN _ _ _⟩ | exact ⟨rfl, _, Eq.trans (World.drewN_drewN _ _ _) (congrArg (World.drewN _) (Nat.add_assoc _ _ _))⟩))); try go_wp2_with (first | ((with_reducible refine zba (N := 7) rfl ?_); (try (refine zbc (by rfl) ?_; dsimp only)); refine za9 ?hg (N := 7) ?hd (cs := #[.int .i64 0, .string (⟨#[]⟩ : ByteArray), .string (⟨#[]⟩ : ByteArray)]) (t := 43) ?hr ?_; (case hd => rfl); (case hg => rfl); (case hr => first | (go_simp; done) | (go_simp; rfl)); intro gb115 hg w85 hbox hb; have n0_ := zaa.mk (zaq (g := gb108) (o := .cells #[.slice A0_0 l0_0.length c0_0, .slice A0_1 l0_1.length c0_1, .slice (some ad111) l0_2.length c0_2] 25 (0, 0)) (by (with_reducible repeat (first | refine zai ?_ _ | refine zae ?_ | refine zah ?_ _)); exact BK108.out) hb); have n1_ := zaa.mk (zaq (g := gb112) (o := .cells #[.int .i64 ((zal l0_2 x4_2).f0), .slice (some ad114) ((zal l0_2 x4_2).f1).length c111_1, .int .i64 ((zal l0_2 x4_2).f2)] 46 (0, 0)) (by (with_reducible repeat (first | refine zai ?_ _ | refine zae ?_ | refine zah ?_ _)); exact BK112.out) hb); have n2_ := zaa.mk (zax (by repeat (first | (with_reducible first | exact HB.out | apply zaf | apply zac | apply zad | refine zaj ?_ GE108.out | refine zaj ?_ GE112.out) | exact HB.out)) hb); have n3_ := zaa.mk (hbox); have n4_ := zaa.mk ((by rw [hg]; exact (zat (by repeat (first | (with_reducible first | exact HB.out | apply zaf | apply zac | apply zad | refine zaj ?_ GE108.out | refine zaj ?_ GE112.out) | exact HB.out))) : w.heap.size ≤ gb115)); have n5_ := zaa.mk ((by rw [hg]; exact (zat (by repeat (first | (with_reducible first | exact HB.out | apply zaf | apply zac | apply zad | refine zaj ?_ GE108.out | refine zaj ?_ GE112.out) | exact HB.out))) : w.heap.size ≤ gb115)); have n6_ := zaa.mk ((by rw [hg]; exact Nat.ne_of_lt (zaw (g := gb108) (o := .cells #[.slice A0_0 l0_0.length c0_0, .slice A0_1 l0_1.length c0_1, .slice (some ad111) l0_2.length c0_2] 25 (0, 0)) (by (with_reducible repeat (first | refine zai ?_ _ | refine zae ?_ | refine zah ?_ _)); exact BK108.out)) : gb108 ≠ gb115)); have n7_ := zaa.mk ((by rw [hg]; exact Nat.ne_of_gt (zaw (g := gb108) (o := .cells #[.slice A0_0 l0_0.length c0_0, .slice A0_1 l0_1.length c0_1, .slice (some ad111) l0_2.length c0_2] 25 (0, 0)) (by (with_reducible repeat (first | refine zai ?_ _ | refine zae ?_ | refine zah ?_ _)); exact BK108.out)) : gb115 ≠ gb108)); have n8_ := zaa.mk ((by rw [hg]; exact Nat.ne_of_lt (zaw (g := gb112) (o := .cells #[.int .i64 ((zal l0_2 x4_2).f0), .slice (some ad114) ((zal l0_2 x4_2).f1).length c111_1, .int .i64 ((zal l0_2 x4_2).f2)] 46 (0, 0)) (by (with_reducible repeat (first | refine zai ?_ _ | refine zae ?_ | refine zah ?_ _)); exact BK112.out)) : gb112 ≠ gb115)); have n9_ := zaa.mk ((by rw [hg]; exact Nat.ne_of_gt (zaw (g := gb112) (o := .cells #[.int .i64 ((zal l0_2 x4_2).f0), .slice (some ad114) ((zal l0_2 x4_2).f1).length c111_1, .int .i64 ((zal l0_2 x4_2).f2)] 46 (0, 0)) (by (with_reducible repeat (first | refine zai ?_ _ | refine zae ?_ | refine zah ?_ _)); exact BK112.out)) : gb115 ≠ gb112)); clear BK108; clear BK112; clear HB; have BK108 := n0_; have BK112 := n1_; have HB := n2_; have BK115 := n3_; have GW115 := n4_; have GE115 := n5_; have NB108_115 := n6_; have NB115_108 := n7_; have NB112_115 := n8_; have NB115_112 := n9_; clear n0_ n1_ n2_ n3_ n4_ n5_ n6_ n7_ n8_ n9_; clear hb hbox hg; have hnb86 := NB115_108.out; have hnc86 := NB108_115.out; have hnb87 := NB115_112.out; have hnc87 := NB112_115.out; have hcz88_0 : w85.cell? ⟨gb115, 0, none⟩ = some (.int .i64 0) := (zab BK115.out 0).trans rfl; have hcz88_1 : w85.cell? ⟨gb115, 1, none⟩ = some (.string (⟨#[]⟩ : ByteArray)) := (zab BK115.out 1).trans rfl; have hcz88_2 : w85.cell? ⟨gb115, 2, none⟩ = some (.string (⟨#[]⟩ : ByteArray)) := (zab BK115.out 2).trans rfl; have hfz88_0 := zak BK115.out 0; have hfz88_1 := zak BK115.out 1; have hfz88_2 := zak BK115.out 2) | (go_at_call 24; (with_reducible refine (za0.calls k4 ((zbl ((zal l0_2 x4_2).f1) x6_4).f1) true _ A79.out).mono ?_); rintro e w' ⟨rfl, ⟨nd, rfl⟩⟩; (try first | exact ⟨rfl, _, World.drewN_drewN _ _ _⟩ | exact ⟨rfl, _, Eq.trans (World.drewN_drewN _ _ _) (congrArg (World.drewN _) (Nat.add_assoc _ _ _))⟩)) | (go_at_call 24; (with_reducible refine (za0.calls k4 ((zbl ((zal l0_2 x4_2).f1) x6_4).f2) true _ A81.out).mono ?_); rintro e w' ⟨rfl, ⟨nd, rfl⟩⟩; (try first | exact ⟨rfl, _, World.drewN_drewN _ _ _⟩ | exact ⟨rfl, _, Eq.trans (World.drewN_drewN _ _ _) (congrArg (World.drewN _) (Nat.add_assoc _ _ _))⟩))))
                   go_roundg k4
                   case measure => have := HJ1.out; have := HK2.out; have := HJ18.out; have := HK4.out; omega
                   case rel => exact ⟨(wrap64 (x6_4 + 1)), (by first | rfl | (simp; done) | (simp [*]; done)), H', ⟨by have := HJ1.out; have := HK2.out; have := HJ18.out; have := HK4.out; omega⟩, ⟨by (with_reducible repeat (first | refine zai ?_ _ | refine zae ?_ | refine zah ?_ _)); refine zbh ?_ NB108_115.out _; (with_reducible repeat (first | refine zai ?_ _ | refine zae ?_ | refine zah ?_ _)); refine zbh ?_ NB108_115.out _; (with_reducible repeat (first | refine zai ?_ _ | refine zae ?_ | refine zah ?_ _)); refine zbh ?_ NB108_115.out _; (with_reducible repeat (first | refine zai ?_ _ | refine zae ?_ | refine zah ?_ _)); exact BK108.out⟩, ⟨by (with_reducible repeat (first | refine zai ?_ _ | refine zae ?_ | refine zah ?_ _)); refine zbh ?_ NB112_115.out _; (with_reducible repeat (first | refine zai ?_ _ | refine zae ?_ | refine zah ?_ _)); refine zbh ?_ NB112_115.out _; (with_reducible repeat (first | refine zai ?_ _ | refine zae ?_ | refine zah ?_ _)); refine zbh ?_ NB112_115.out _; (with_reducible repeat (first | refine zai ?_ _ | refine zae ?_ | refine zah ?_ _)); exact BK112.out⟩, ⟨by repeat (first | (with_reducible first | exact HB.out | apply zaf | apply zac | apply zad | refine zaj ?_ GE108.out | refine zaj ?_ GE112.out | refine zaj ?_ GE115.out) | exact HB.out)⟩⟩
                  ·replace c82 := Bool.eq_false_iff.mpr c82
                   subst c82
                   have H1 : (some false) = some r := by rw [if_neg (show ¬ (false = true) by decide)] at H; exact H
                   clear H
                   have H := H1
                   clear H1
                   obtain rfl := Option.some.inj H
                   have hnb89 := NB112_108.out
                   have hnc89 := NB108_112.out
                   have hcz90_0 : wr.cell? ⟨gb112, 0, none⟩ = some (.int .i64 ((zal l0_2 x4_2).f0)) := (zab BK112.out 0).trans rfl
                   have hcz90_1 : wr.cell? ⟨gb112, 1, none⟩ = some (.slice A111_1 ((zal l0_2 x4_2).f1).length c111_1) := (zab BK112.out 1).trans rfl
                   have hcz90_2 : wr.cell? ⟨gb112, 2, none⟩ = some (.int .i64 ((zal l0_2 x4_2).f2)) := (zab BK112.out 2).trans rfl
                   have hfz90_0 := zak BK112.out 0
                   have hfz90_1 := zak BK112.out 1
                   have hfz90_2 := zak BK112.out 2
                   have p114 : 0 ≤ (x6_4 : Int) := of_decide_eq_true (by first | (with_reducible assumption) | assumption)
                   have q114 : x6_4 < (((zal l0_2 x4_2).f1).length : Int) := of_decide_eq_true (by first | (with_reducible assumption) | assumption)
                   obtain ⟨ad114, e114, hx114_0, hx114_1, hx114_2⟩ := at_T43 HR111_1.out x6_4 p114 q114
                   cases e114
                   replace hx114_0 := (HB.out.cell (World.block_lt_of_cell? w _ hx114_0)).trans hx114_0
                   replace hx114_1 := (HB.out.cell (World.block_lt_of_cell? w _ hx114_1)).trans hx114_1
                   replace hx114_2 := (HB.out.cell (World.block_lt_of_cell? w _ hx114_2)).trans hx114_2
                   replace p114 := eq_true p114
                   replace q114 := eq_true q114
                   go_wp2_with (first | ((with_reducible refine zba (N := 7) rfl ?_); (try (refine zbc (by rfl) ?_; dsimp only)); refine za9 ?hg (N := 7) ?hd (cs := #[.int .i64 0, .string (⟨#[]⟩ : ByteArray), .string (⟨#[]⟩ : ByteArray)]) (t := 43) ?hr ?_; (case hd => rfl); (case hg => rfl); (case hr => first | (go_simp; done) | (go_simp; rfl)); intro gb115 hg w91 hbox hb; have n0_ := zaa.mk (zaq (g := gb108) (o := .cells #[.slice A0_0 l0_0.length c0_0, .slice A0_1 l0_1.length c0_1, .slice (some ad111) l0_2.length c0_2] 25 (0, 0)) (by (with_reducible repeat (first | refine zai ?_ _ | refine zae ?_ | refine zah ?_ _)); exact BK108.out) hb); have n1_ := zaa.mk (zaq (g := gb112) (o := .cells #[.int .i64 ((zal l0_2 x4_2).f0), .slice (some ad114) ((zal l0_2 x4_2).f1).length c111_1, .int .i64 ((zal l0_2 x4_2).f2)] 46 (0, 0)) (by (with_reducible repeat (first | refine zai ?_ _ | refine zae ?_ | refine zah ?_ _)); exact BK112.out) hb); have n2_ := zaa.mk (zax (by repeat (first | (with_reducible first | exact HB.out | apply zaf | apply zac | apply zad | refine zaj ?_ GE108.out | refine zaj ?_ GE112.out) | exact HB.out)) hb); have n3_ := zaa.mk (hbox); have n4_ := zaa.mk ((by rw [hg]; exact (zat (by repeat (first | (with_reducible first | exact HB.out | apply zaf | apply zac | apply zad | refine zaj ?_ GE108.out | refine zaj ?_ GE112.out) | exact HB.out))) : w.heap.size ≤ gb115)); have n5_ := zaa.mk ((by rw [hg]; exact (zat (by repeat (first | (with_reducible first | exact HB.out | apply zaf | apply zac | apply zad | refine zaj ?_ GE108.out | refine zaj ?_ GE112.out) | exact HB.out))) : w.heap.size ≤ gb115)); have n6_ := zaa.mk ((by rw [hg]; exact Nat.ne_of_lt (zaw (g := gb108) (o := .cells #[.slice A0_0 l0_0.length c0_0, .slice A0_1 l0_1.length c0_1, .slice (some ad111) l0_2.length c0_2] 25 (0, 0)) (by (with_reducible repeat (first | refine zai ?_ _ | refine zae ?_ | refine zah ?_ _)); exact BK108.out)) : gb108 ≠ gb115)); have n7_ := zaa.mk ((by rw [hg]; exact Nat.ne_of_gt (zaw (g := gb108) (o := .cells #[.slice A0_0 l0_0.length c0_0, .slice A0_1 l0_1.length c0_1, .slice (some ad111) l0_2.length c0_2] 25 (0, 0)) (by (with_reducible repeat (first | refine zai ?_ _ | refine zae ?_ | refine zah ?_ _)); exact BK108.out)) : gb115 ≠ gb108)); have n8_ := zaa.mk ((by rw [hg]; exact Nat.ne_of_lt (zaw (g := gb112) (o := .cells #[.int .i64 ((zal l0_2 x4_2).f0), .slice (some ad114) ((zal l0_2 x4_2).f1).length c111_1, .int .i64 ((zal l0_2 x4_2).f2)] 46 (0, 0)) (by (with_reducible repeat (first | refine zai ?_ _ | refine zae ?_ | refine zah ?_ _)); exact BK112.out)) : gb112 ≠ gb115)); have n9_ := zaa.mk ((by rw [hg]; exact Nat.ne_of_gt (zaw (g := gb112) (o := .cells #[.int .i64 ((zal l0_2 x4_2).f0), .slice (some ad114) ((zal l0_2 x4_2).f1).length c111_1, .int .i64 ((zal l0_2 x4_2).f2)] 46 (0, 0)) (by (with_reducible repeat (first | refine zai ?_ _ | refine zae ?_ | refine zah ?_ _)); exact BK112.out)) : gb115 ≠ gb112)); clear BK108; clear BK112; clear HB; have BK108 := n0_; have BK112 := n1_; have HB := n2_; have BK115 := n3_; have GW115 := n4_; have GE115 := n5_; have NB108_115 := n6_; have NB115_108 := n7_; have NB112_115 := n8_; have NB115_112 := n9_; clear n0_ n1_ n2_ n3_ n4_ n5_ n6_ n7_ n8_ n9_; clear hb hbox hg; have hnb92 := NB115_108.out; have hnc92 := NB108_115.out; have hnb93 := NB115_112.out; have hnc93 := NB112_115.out; have hcz94_0 : w91.cell? ⟨gb115, 0, none⟩ = some (.int .i64 0) := (zab BK115.out 0).trans rfl; have hcz94_1 : w91.cell? ⟨gb115, 1, none⟩ = some (.string (⟨#[]⟩ : ByteArray)) := (zab BK115.out 1).trans rfl; have hcz94_2 : w91.cell? ⟨gb115, 2, none⟩ = some (.string (⟨#[]⟩ : ByteArray)) := (zab BK115.out 2).trans rfl; have hfz94_0 := zak BK115.out 0; have hfz94_1 := zak BK115.out 1; have hfz94_2 := zak BK115.out 2) | (go_at_call 24; (with_reducible refine (za0.calls k4 ((zbl ((zal l0_2 x4_2).f1) x6_4).f1) true _ A79.out).mono ?_); rintro e w' ⟨rfl, ⟨nd, rfl⟩⟩; (try first | exact ⟨rfl, _, World.drewN_drewN _ _ _⟩ | exact ⟨rfl, _, Eq.trans (World.drewN_drewN _ _ _) (congrArg (World.drewN _) (Nat.add_assoc _ _ _))⟩)) | (go_at_call 24; (with_reducible refine (za0.calls k4 ((zbl ((zal l0_2 x4_2).f1) x6_4).f2) false _ A81.out).mono ?_); rintro e w' ⟨rfl, ⟨nd, rfl⟩⟩; (try first | exact ⟨rfl, _, World.drewN_drewN _ _ _⟩ | exact ⟨rfl, _, Eq.trans (World.drewN_drewN _ _ _) (congrArg (World.drewN _) (Nat.add_assoc _ _ _))⟩)))
                   repeat (go_quiet (first | ((with_reducible refine zba (N := 7) rfl ?_); (try (refine zbc (by rfl) ?_; dsimp only)); refine za9 ?hg (N := 7) ?hd (cs := #[.int .i64 0, .string (⟨#[]⟩ : ByteArray), .string (⟨#[]⟩ : ByteArray)]) (t := 43) ?hr ?_; (case hd => rfl); (case hg => rfl); (case hr => first | (go_simp; done) | (go_simp; rfl)); intro gb115 hg w91 hbox hb; have n0_ := zaa.mk (zaq (g := gb108) (o := .cells #[.slice A0_0 l0_0.length c0_0, .slice A0_1 l0_1.length c0_1, .slice (some ad111) l0_2.length c0_2] 25 (0, 0)) (by (with_reducible repeat (first | refine zai ?_ _ | refine zae ?_ | refine zah ?_ _)); exact BK108.out) hb); have n1_ := zaa.mk (zaq (g := gb112) (o := .cells #[.int .i64 ((zal l0_2 x4_2).f0), .slice (some ad114) ((zal l0_2 x4_2).f1).length c111_1, .int .i64 ((zal l0_2 x4_2).f2)] 46 (0, 0)) (by (with_reducible repeat (first | refine zai ?_ _ | refine zae ?_ | refine zah ?_ _)); exact BK112.out) hb); have n2_ := zaa.mk (zax (by repeat (first | (with_reducible first | exact HB.out | apply zaf | apply zac | apply zad | refine zaj ?_ GE108.out | refine zaj ?_ GE112.out) | exact HB.out)) hb); have n3_ := zaa.mk (hbox); have n4_ := zaa.mk ((by rw [hg]; exact (zat (by repeat (first | (with_reducible first | exact HB.out | apply zaf | apply zac | apply zad | refine zaj ?_ GE108.out | refine zaj ?_ GE112.out) | exact HB.out))) : w.heap.size ≤ gb115)); have n5_ := zaa.mk ((by rw [hg]; exact (zat (by repeat (first | (with_reducible first | exact HB.out | apply zaf | apply zac | apply zad | refine zaj ?_ GE108.out | refine zaj ?_ GE112.out) | exact HB.out))) : w.heap.size ≤ gb115)); have n6_ := zaa.mk ((by rw [hg]; exact Nat.ne_of_lt (zaw (g := gb108) (o := .cells #[.slice A0_0 l0_0.length c0_0, .slice A0_1 l0_1.length c0_1, .slice (some ad111) l0_2.length c0_2] 25 (0, 0)) (by (with_reducible repeat (first | refine zai ?_ _ | refine zae ?_ | refine zah ?_ _)); exact BK108.out)) : gb108 ≠ gb115)); have n7_ := zaa.mk ((by rw [hg]; exact Nat.ne_of_gt (zaw (g := gb108) (o := .cells #[.slice A0_0 l0_0.length c0_0, .slice A0_1 l0_1.length c0_1, .slice (some ad111) l0_2.length c0_2] 25 (0, 0)) (by (with_reducible repeat (first | refine zai ?_ _ | refine zae ?_ | refine zah ?_ _)); exact BK108.out)) : gb115 ≠ gb108)); have n8_ := zaa.mk ((by rw [hg]; exact Nat.ne_of_lt (zaw (g := gb112) (o := .cells #[.int .i64 ((zal l0_2 x4_2).f0), .slice (some ad114) ((zal l0_2 x4_2).f1).length c111_1, .int .i64 ((zal l0_2 x4_2).f2)] 46 (0, 0)) (by (with_reducible repeat (first | refine zai ?_ _ | refine zae ?_ | refine zah ?_ _)); exact BK112.out)) : gb112 ≠ gb115)); have n9_ := zaa.mk ((by rw [hg]; exact Nat.ne_of_gt (zaw (g := gb112) (o := .cells #[.int .i64 ((zal l0_2 x4_2).f0), .slice (some ad114) ((zal l0_2 x4_2).f1).length c111_1, .int .i64 ((zal l0_2 x4_2).f2)] 46 (0, 0)) (by (with_reducible repeat (first | refine zai ?_ _ | refine zae ?_ | refine zah ?_ _)); exact BK112.out)) : gb115 ≠ gb112)); clear BK108; clear BK112; clear HB; have BK108 := n0_; have BK112 := n1_; have HB := n2_; have BK115 := n3_; have GW115 := n4_; have GE115 := n5_; have NB108_115 := n6_; have NB115_108 := n7_; have NB112_115 := n8_; have NB115_112 := n9_; clear n0_ n1_ n2_ n3_ n4_ n5_ n6_ n7_ n8_ n9_; clear hb hbox hg; have hnb92 := NB115_108.out; have hnc92 := NB108_115.out; have hnb93 := NB115_112.out; have hnc93 := NB112_115.out; have hcz94_0 : w91.cell? ⟨gb115, 0, none⟩ = some (.int .i64 0) := (zab BK115.out 0).trans rfl; have hcz94_1 : w91.cell? ⟨gb115, 1, none⟩ = some (.string (⟨#[]⟩ : ByteArray)) := (zab BK115.out 1).trans rfl; have hcz94_2 : w91.cell? ⟨gb115, 2, none⟩ = some (.string (⟨#[]⟩ : ByteArray)) := (zab BK115.out 2).trans rfl; have hfz94_0 := zak BK115.out 0; have hfz94_1 := zak BK115.out 1; have hfz94_2 := zak BK115.out 2) | (go_at_call 24; (with_reducible refine (za0.calls k4 ((zbl ((zal l0_2 x4_2).f1) x6_4).f1) true _ A79.out).mono ?_); rintro e w' ⟨rfl, ⟨nd, rfl⟩⟩; (try first | exact ⟨rfl, _, World.drewN_drewN _ _ _⟩ | exact ⟨rfl, _, Eq.trans (World.drewN_drewN _ _ _) (congrArg (World.drewN _) (Nat.add_assoc _ _ _))⟩)) | (go_at_call 24; (with_reducible refine (za0.calls k4 ((zbl ((zal l0_2 x4_2).f1) x6_4).f2) false _ A81.out).mono ?_); rintro e w' ⟨rfl, ⟨nd, rfl⟩⟩; (try first | exact ⟨rfl, _, World.drewN_drewN _ _ _⟩ | exact ⟨rfl, _, Eq.trans (World.drewN_drewN _ _ _) (congrArg (World.drewN _) (Nat.add_assoc _ _ _))⟩))); try go_wp2_with (first | ((with_reducible refine zba (N := 7) rfl ?_); (try (refine zbc (by rfl) ?_; dsimp only)); refine za9 ?hg (N := 7) ?hd (cs := #[.int .i64 0, .string (⟨#[]⟩ : ByteArray), .string (⟨#[]⟩ : ByteArray)]) (t := 43) ?hr ?_; (case hd => rfl); (case hg => rfl); (case hr => first | (go_simp; done) | (go_simp; rfl)); intro gb115 hg w91 hbox hb; have n0_ := zaa.mk (zaq (g := gb108) (o := .cells #[.slice A0_0 l0_0.length c0_0, .slice A0_1 l0_1.length c0_1, .slice (some ad111) l0_2.length c0_2] 25 (0, 0)) (by (with_reducible repeat (first | refine zai ?_ _ | refine zae ?_ | refine zah ?_ _)); exact BK108.out) hb); have n1_ := zaa.mk (zaq (g := gb112) (o := .cells #[.int .i64 ((zal l0_2 x4_2).f0), .slice (some ad114) ((zal l0_2 x4_2).f1).length c111_1, .int .i64 ((zal l0_2 x4_2).f2)] 46 (0, 0)) (by (with_reducible repeat (first | refine zai ?_ _ | refine zae ?_ | refine zah ?_ _)); exact BK112.out) hb); have n2_ := zaa.mk (zax (by repeat (first | (with_reducible first | exact HB.out | apply zaf | apply zac | apply zad | refine zaj ?_ GE108.out | refine zaj ?_ GE112.out) | exact HB.out)) hb); have n3_ := zaa.mk (hbox); have n4_ := zaa.mk ((by rw [hg]; exact (zat (by repeat (first | (with_reducible first | exact HB.out | apply zaf | apply zac | apply zad | refine zaj ?_ GE108.out | refine zaj ?_ GE112.out) | exact HB.out))) : w.heap.size ≤ gb115)); have n5_ := zaa.mk ((by rw [hg]; exact (zat (by repeat (first | (with_reducible first | exact HB.out | apply zaf | apply zac | apply zad | refine zaj ?_ GE108.out | refine zaj ?_ GE112.out) | exact HB.out))) : w.heap.size ≤ gb115)); have n6_ := zaa.mk ((by rw [hg]; exact Nat.ne_of_lt (zaw (g := gb108) (o := .cells #[.slice A0_0 l0_0.length c0_0, .slice A0_1 l0_1.length c0_1, .slice (some ad111) l0_2.length c0_2] 25 (0, 0)) (by (with_reducible repeat (first | refine zai ?_ _ | refine zae ?_ | refine zah ?_ _)); exact BK108.out)) : gb108 ≠ gb115)); have n7_ := zaa.mk ((by rw [hg]; exact Nat.ne_of_gt (zaw (g := gb108) (o := .cells #[.slice A0_0 l0_0.length c0_0, .slice A0_1 l0_1.length c0_1, .slice (some ad111) l0_2.length c0_2] 25 (0, 0)) (by (with_reducible repeat (first | refine zai ?_ _ | refine zae ?_ | refine zah ?_ _)); exact BK108.out)) : gb115 ≠ gb108)); have n8_ := zaa.mk ((by rw [hg]; exact Nat.ne_of_lt (zaw (g := gb112) (o := .cells #[.int .i64 ((zal l0_2 x4_2).f0), .slice (some ad114) ((zal l0_2 x4_2).f1).length c111_1, .int .i64 ((zal l0_2 x4_2).f2)] 46 (0, 0)) (by (with_reducible repeat (first | refine zai ?_ _ | refine zae ?_ | refine zah ?_ _)); exact BK112.out)) : gb112 ≠ gb115)); have n9_ := zaa.mk ((by rw [hg]; exact Nat.ne_of_gt (zaw (g := gb112) (o := .cells #[.int .i64 ((zal l0_2 x4_2).f0), .slice (some ad114) ((zal l0_2 x4_2).f1).length c111_1, .int .i64 ((zal l0_2 x4_2).f2)] 46 (0, 0)) (by (with_reducible repeat (first | refine zai ?_ _ | refine zae ?_ | refine zah ?_ _)); exact BK112.out)) : gb115 ≠ gb112)); clear BK108; clear BK112; clear HB; have BK108 := n0_; have BK112 := n1_; have HB := n2_; have BK115 := n3_; have GW115 := n4_; have GE115 := n5_; have NB108_115 := n6_; have NB115_108 := n7_; have NB112_115 := n8_; have NB115_112 := n9_; clear n0_ n1_ n2_ n3_ n4_ n5_ n6_ n7_ n8_ n9_; clear hb hbox hg; have hnb92 := NB115_108.out; have hnc92 := NB108_115.out; have hnb93 := NB115_112.out; have hnc93 := NB112_115.out; have hcz94_0 : w91.cell? ⟨gb115, 0, none⟩ = some (.int .i64 0) := (zab BK115.out 0).trans rfl; have hcz94_1 : w91.cell? ⟨gb115, 1, none⟩ = some (.string (⟨#[]⟩ : ByteArray)) := (zab BK115.out 1).trans rfl; have hcz94_2 : w91.cell? ⟨gb115, 2, none⟩ = some (.string (⟨#[]⟩ : ByteArray)) := (zab BK115.out 2).trans rfl; have hfz94_0 := zak BK115.out 0; have hfz94_1 := zak BK115.out 1; have hfz94_2 := zak BK115.out 2) | (go_at_call 24; (with_reducible refine (za0.calls k4 ((zbl ((zal l0_2 x4_2).f1) x6_4).f1) true _ A79.out).mono ?_); rintro e w' ⟨rfl, ⟨nd, rfl⟩⟩; (try first | exact ⟨rfl, _, World.drewN_drewN _ _ _⟩ | exact ⟨rfl, _, Eq.trans (World.drewN_drewN _ _ _) (congrArg (World.drewN _) (Nat.add_assoc _ _ _))⟩)) | (go_at_call 24; (with_reducible refine (za0.calls k4 ((zbl ((zal l0_2 x4_2).f1) x6_4).f2) false _ A81.out).mono ?_); rintro e w' ⟨rfl, ⟨nd, rfl⟩⟩; (try first | exact ⟨rfl, _, World.drewN_drewN _ _ _⟩ | exact ⟨rfl, _, Eq.trans (World.drewN_drewN _ _ _) (congrArg (World.drewN _) (Nat.add_assoc _ _ _))⟩))))
                   go_ret
                   exact ⟨by first | rfl | (simp [za6, za4] <;> rfl) | (simp [*, za6, za4] <;> rfl), by repeat (first | (with_reducible first | exact HB.out | apply zaf | apply zac | apply zad | refine zaj ?_ GE108.out | refine zaj ?_ GE112.out | refine zaj ?_ GE115.out) | exact HB.out)⟩
                 ·replace c80 := Bool.eq_false_iff.mpr c80
                  subst c80
                  have H1 : (some false) = some r := by rw [if_neg (show ¬ (false = true) by decide)] at H; exact H
                  clear H
                  have H := H1
                  clear H1
                  obtain rfl := Option.some.inj H
                  have hnb95 := NB112_108.out
                  have hnc95 := NB108_112.out
                  have hcz96_0 : wr.cell? ⟨gb112, 0, none⟩ = some (.int .i64 ((zal l0_2 x4_2).f0)) := (zab BK112.out 0).trans rfl
                  have hcz96_1 : wr.cell? ⟨gb112, 1, none⟩ = some (.slice A111_1 ((zal l0_2 x4_2).f1).length c111_1) := (zab BK112.out 1).trans rfl
                  have hcz96_2 : wr.cell? ⟨gb112, 2, none⟩ = some (.int .i64 ((zal l0_2 x4_2).f2)) := (zab BK112.out 2).trans rfl
                  have hfz96_0 := zak BK112.out 0
                  have hfz96_1 := zak BK112.out 1
                  have hfz96_2 := zak BK112.out 2
                  have p114 : 0 ≤ (x6_4 : Int) := of_decide_eq_true (by first | (with_reducible assumption) | assumption)
                  have q114 : x6_4 < (((zal l0_2 x4_2).f1).length : Int) := of_decide_eq_true (by first | (with_reducible assumption) | assumption)
                  obtain ⟨ad114, e114, hx114_0, hx114_1, hx114_2⟩ := at_T43 HR111_1.out x6_4 p114 q114
                  cases e114
                  replace hx114_0 := (HB.out.cell (World.block_lt_of_cell? w _ hx114_0)).trans hx114_0
                  replace hx114_1 := (HB.out.cell (World.block_lt_of_cell? w _ hx114_1)).trans hx114_1
                  replace hx114_2 := (HB.out.cell (World.block_lt_of_cell? w _ hx114_2)).trans hx114_2
                  replace p114 := eq_true p114
                  replace q114 := eq_true q114
                  go_wp2_with (first | ((with_reducible refine zba (N := 7) rfl ?_); (try (refine zbc (by rfl) ?_; dsimp only)); refine za9 ?hg (N := 7) ?hd (cs := #[.int .i64 0, .string (⟨#[]⟩ : ByteArray), .string (⟨#[]⟩ : ByteArray)]) (t := 43) ?hr ?_; (case hd => rfl); (case hg => rfl); (case hr => first | (go_simp; done) | (go_simp; rfl)); intro gb115 hg w97 hbox hb; have n0_ := zaa.mk (zaq (g := gb108) (o := .cells #[.slice A0_0 l0_0.length c0_0, .slice A0_1 l0_1.length c0_1, .slice (some ad111) l0_2.length c0_2] 25 (0, 0)) (by (with_reducible repeat (first | refine zai ?_ _ | refine zae ?_ | refine zah ?_ _)); exact BK108.out) hb); have n1_ := zaa.mk (zaq (g := gb112) (o := .cells #[.int .i64 ((zal l0_2 x4_2).f0), .slice (some ad114) ((zal l0_2 x4_2).f1).length c111_1, .int .i64 ((zal l0_2 x4_2).f2)] 46 (0, 0)) (by (with_reducible repeat (first | refine zai ?_ _ | refine zae ?_ | refine zah ?_ _)); exact BK112.out) hb); have n2_ := zaa.mk (zax (by repeat (first | (with_reducible first | exact HB.out | apply zaf | apply zac | apply zad | refine zaj ?_ GE108.out | refine zaj ?_ GE112.out) | exact HB.out)) hb); have n3_ := zaa.mk (hbox); have n4_ := zaa.mk ((by rw [hg]; exact (zat (by repeat (first | (with_reducible first | exact HB.out | apply zaf | apply zac | apply zad | refine zaj ?_ GE108.out | refine zaj ?_ GE112.out) | exact HB.out))) : w.heap.size ≤ gb115)); have n5_ := zaa.mk ((by rw [hg]; exact (zat (by repeat (first | (with_reducible first | exact HB.out | apply zaf | apply zac | apply zad | refine zaj ?_ GE108.out | refine zaj ?_ GE112.out) | exact HB.out))) : w.heap.size ≤ gb115)); have n6_ := zaa.mk ((by rw [hg]; exact Nat.ne_of_lt (zaw (g := gb108) (o := .cells #[.slice A0_0 l0_0.length c0_0, .slice A0_1 l0_1.length c0_1, .slice (some ad111) l0_2.length c0_2] 25 (0, 0)) (by (with_reducible repeat (first | refine zai ?_ _ | refine zae ?_ | refine zah ?_ _)); exact BK108.out)) : gb108 ≠ gb115)); have n7_ := zaa.mk ((by rw [hg]; exact Nat.ne_of_gt (zaw (g := gb108) (o := .cells #[.slice A0_0 l0_0.length c0_0, .slice A0_1 l0_1.length c0_1, .slice (some ad111) l0_2.length c0_2] 25 (0, 0)) (by (with_reducible repeat (first | refine zai ?_ _ | refine zae ?_ | refine zah ?_ _)); exact BK108.out)) : gb115 ≠ gb108)); have n8_ := zaa.mk ((by rw [hg]; exact Nat.ne_of_lt (zaw (g := gb112) (o := .cells #[.int .i64 ((zal l0_2 x4_2).f0), .slice (some ad114) ((zal l0_2 x4_2).f1).length c111_1, .int .i64 ((zal l0_2 x4_2).f2)] 46 (0, 0)) (by (with_reducible repeat (first | refine zai ?_ _ | refine zae ?_ | refine zah ?_ _)); exact BK112.out)) : gb112 ≠ gb115)); have n9_ := zaa.mk ((by rw [hg]; exact Nat.ne_of_gt (zaw (g := gb112) (o := .cells #[.int .i64 ((zal l0_2 x4_2).f0), .slice (some ad114) ((zal l0_2 x4_2).f1).length c111_1, .int .i64 ((zal l0_2 x4_2).f2)] 46 (0, 0)) (by (with_reducible repeat (first | refine zai ?_ _ | refine zae ?_ | refine zah ?_ _)); exact BK112.out)) : gb115 ≠ gb112)); clear BK108; clear BK112; clear HB; have BK108 := n0_; have BK112 := n1_; have HB := n2_; have BK115 := n3_; have GW115 := n4_; have GE115 := n5_; have NB108_115 := n6_; have NB115_108 := n7_; have NB112_115 := n8_; have NB115_112 := n9_; clear n0_ n1_ n2_ n3_ n4_ n5_ n6_ n7_ n8_ n9_; clear hb hbox hg; have hnb98 := NB115_108.out; have hnc98 := NB108_115.out; have hnb99 := NB115_112.out; have hnc99 := NB112_115.out; have hcz100_0 : w97.cell? ⟨gb115, 0, none⟩ = some (.int .i64 0) := (zab BK115.out 0).trans rfl; have hcz100_1 : w97.cell? ⟨gb115, 1, none⟩ = some (.string (⟨#[]⟩ : ByteArray)) := (zab BK115.out 1).trans rfl; have hcz100_2 : w97.cell? ⟨gb115, 2, none⟩ = some (.string (⟨#[]⟩ : ByteArray)) := (zab BK115.out 2).trans rfl; have hfz100_0 := zak BK115.out 0; have hfz100_1 := zak BK115.out 1; have hfz100_2 := zak BK115.out 2) | (go_at_call 24; (with_reducible refine (za0.calls k4 ((zbl ((zal l0_2 x4_2).f1) x6_4).f1) false _ A79.out).mono ?_); rintro e w' ⟨rfl, ⟨nd, rfl⟩⟩; (try first | exact ⟨rfl, _, World.drewN_drewN _ _ _⟩ | exact ⟨rfl, _, Eq.trans (World.drewN_drewN _ _ _) (congrArg (World.drewN _) (Nat.add_assoc _ _ _))⟩)))
                  repeat (go_quiet (first | ((with_reducible refine zba (N := 7) rfl ?_); (try (refine zbc (by rfl) ?_; dsimp only)); refine za9 ?hg (N := 7) ?hd (cs := #[.int .i64 0, .string (⟨#[]⟩ : ByteArray), .string (⟨#[]⟩ : ByteArray)]) (t := 43) ?hr ?_; (case hd => rfl); (case hg => rfl); (case hr => first | (go_simp; done) | (go_simp; rfl)); intro gb115 hg w97 hbox hb; have n0_ := zaa.mk (zaq (g := gb108) (o := .cells #[.slice A0_0 l0_0.length c0_0, .slice A0_1 l0_1.length c0_1, .slice (some ad111) l0_2.length c0_2] 25 (0, 0)) (by (with_reducible repeat (first | refine zai ?_ _ | refine zae ?_ | refine zah ?_ _)); exact BK108.out) hb); have n1_ := zaa.mk (zaq (g := gb112) (o := .cells #[.int .i64 ((zal l0_2 x4_2).f0), .slice (some ad114) ((zal l0_2 x4_2).f1).length c111_1, .int .i64 ((zal l0_2 x4_2).f2)] 46 (0, 0)) (by (with_reducible repeat (first | refine zai ?_ _ | refine zae ?_ | refine zah ?_ _)); exact BK112.out) hb); have n2_ := zaa.mk (zax (by repeat (first | (with_reducible first | exact HB.out | apply zaf | apply zac | apply zad | refine zaj ?_ GE108.out | refine zaj ?_ GE112.out) | exact HB.out)) hb); have n3_ := zaa.mk (hbox); have n4_ := zaa.mk ((by rw [hg]; exact (zat (by repeat (first | (with_reducible first | exact HB.out | apply zaf | apply zac | apply zad | refine zaj ?_ GE108.out | refine zaj ?_ GE112.out) | exact HB.out))) : w.heap.size ≤ gb115)); have n5_ := zaa.mk ((by rw [hg]; exact (zat (by repeat (first | (with_reducible first | exact HB.out | apply zaf | apply zac | apply zad | refine zaj ?_ GE108.out | refine zaj ?_ GE112.out) | exact HB.out))) : w.heap.size ≤ gb115)); have n6_ := zaa.mk ((by rw [hg]; exact Nat.ne_of_lt (zaw (g := gb108) (o := .cells #[.slice A0_0 l0_0.length c0_0, .slice A0_1 l0_1.length c0_1, .slice (some ad111) l0_2.length c0_2] 25 (0, 0)) (by (with_reducible repeat (first | refine zai ?_ _ | refine zae ?_ | refine zah ?_ _)); exact BK108.out)) : gb108 ≠ gb115)); have n7_ := zaa.mk ((by rw [hg]; exact Nat.ne_of_gt (zaw (g := gb108) (o := .cells #[.slice A0_0 l0_0.length c0_0, .slice A0_1 l0_1.length c0_1, .slice (some ad111) l0_2.length c0_2] 25 (0, 0)) (by (with_reducible repeat (first | refine zai ?_ _ | refine zae ?_ | refine zah ?_ _)); exact BK108.out)) : gb115 ≠ gb108)); have n8_ := zaa.mk ((by rw [hg]; exact Nat.ne_of_lt (zaw (g := gb112) (o := .cells #[.int .i64 ((zal l0_2 x4_2).f0), .slice (some ad114) ((zal l0_2 x4_2).f1).length c111_1, .int .i64 ((zal l0_2 x4_2).f2)] 46 (0, 0)) (by (with_reducible repeat (first | refine zai ?_ _ | refine zae ?_ | refine zah ?_ _)); exact BK112.out)) : gb112 ≠ gb115)); have n9_ := zaa.mk ((by rw [hg]; exact Nat.ne_of_gt (zaw (g := gb112) (o := .cells #[.int .i64 ((zal l0_2 x4_2).f0), .slice (some ad114) ((zal l0_2 x4_2).f1).length c111_1, .int .i64 ((zal l0_2 x4_2).f2)] 46 (0, 0)) (by (with_reducible repeat (first | refine zai ?_ _ | refine zae ?_ | refine zah ?_ _)); exact BK112.out)) : gb115 ≠ gb112)); clear BK108; clear BK112; clear HB; have BK108 := n0_; have BK112 := n1_; have HB := n2_; have BK115 := n3_; have GW115 := n4_; have GE115 := n5_; have NB108_115 := n6_; have NB115_108 := n7_; have NB112_115 := n8_; have NB115_112 := n9_; clear n0_ n1_ n2_ n3_ n4_ n5_ n6_ n7_ n8_ n9_; clear hb hbox hg; have hnb98 := NB115_108.out; have hnc98 := NB108_115.out; have hnb99 := NB115_112.out; have hnc99 := NB112_115.out; have hcz100_0 : w97.cell? ⟨gb115, 0, none⟩ = some (.int .i64 0) := (zab BK115.out 0).trans rfl; have hcz100_1 : w97.cell? ⟨gb115, 1, none⟩ = some (.string (⟨#[]⟩ : ByteArray)) := (zab BK115.out 1).trans rfl; have hcz100_2 : w97.cell? ⟨gb115, 2, none⟩ = some (.string (⟨#[]⟩ : ByteArray)) := (zab BK115.out 2).trans rfl; have hfz100_0 := zak BK115.out 0; have hfz100_1 := zak BK115.out 1; have hfz100_2 := zak BK115.out 2) | (go_at_call 24; (with_reducible refine (za0.calls k4 ((zbl ((zal l0_2 x4_2).f1) x6_4).f1) false _ A79.out).mono ?_); rintro e w' ⟨rfl, ⟨nd, rfl⟩⟩; (try first | exact ⟨rfl, _, World.drewN_drewN _ _ _⟩ | exact ⟨rfl, _, Eq.trans (World.drewN_drewN _ _ _) (congrArg (World.drewN _) (Nat.add_assoc _ _ _))⟩))); try go_wp2_with (first | ((with_reducible refine zba (N := 7) rfl ?_); (try (refine zbc (by rfl) ?_; dsimp only)); refine za9 ?hg (N := 7) ?hd (cs := #[.int .i64 0, .string (⟨#[]⟩ : ByteArray), .string (⟨#[]⟩ : ByteArray)]) (t := 43) ?hr ?_; (case hd => rfl); (case hg => rfl); (case hr => first | (go_simp; done) | (go_simp; rfl)); intro gb115 hg w97 hbox hb; have n0_ := zaa.mk (zaq (g := gb108) (o := .cells #[.slice A0_0 l0_0.length c0_0, .slice A0_1 l0_1.length c0_1, .slice (some ad111) l0_2.length c0_2] 25 (0, 0)) (by (with_reducible repeat (first | refine zai ?_ _ | refine zae ?_ | refine zah ?_ _)); exact BK108.out) hb); have n1_ := zaa.mk (zaq (g := gb112) (o := .cells #[.int .i64 ((zal l0_2 x4_2).f0), .slice (some ad114) ((zal l0_2 x4_2).f1).length c111_1, .int .i64 ((zal l0_2 x4_2).f2)] 46 (0, 0)) (by (with_reducible repeat (first | refine zai ?_ _ | refine zae ?_ | refine zah ?_ _)); exact BK112.out) hb); have n2_ := zaa.mk (zax (by repeat (first | (with_reducible first | exact HB.out | apply zaf | apply zac | apply zad | refine zaj ?_ GE108.out | refine zaj ?_ GE112.out) | exact HB.out)) hb); have n3_ := zaa.mk (hbox); have n4_ := zaa.mk ((by rw [hg]; exact (zat (by repeat (first | (with_reducible first | exact HB.out | apply zaf | apply zac | apply zad | refine zaj ?_ GE108.out | refine zaj ?_ GE112.out) | exact HB.out))) : w.heap.size ≤ gb115)); have n5_ := zaa.mk ((by rw [hg]; exact (zat (by repeat (first | (with_reducible first | exact HB.out | apply zaf | apply zac | apply zad | refine zaj ?_ GE108.out | refine zaj ?_ GE112.out) | exact HB.out))) : w.heap.size ≤ gb115)); have n6_ := zaa.mk ((by rw [hg]; exact Nat.ne_of_lt (zaw (g := gb108) (o := .cells #[.slice A0_0 l0_0.length c0_0, .slice A0_1 l0_1.length c0_1, .slice (some ad111) l0_2.length c0_2] 25 (0, 0)) (by (with_reducible repeat (first | refine zai ?_ _ | refine zae ?_ | refine zah ?_ _)); exact BK108.out)) : gb108 ≠ gb115)); have n7_ := zaa.mk ((by rw [hg]; exact Nat.ne_of_gt (zaw (g := gb108) (o := .cells #[.slice A0_0 l0_0.length c0_0, .slice A0_1 l0_1.length c0_1, .slice (some ad111) l0_2.length c0_2] 25 (0, 0)) (by (with_reducible repeat (first | refine zai ?_ _ | refine zae ?_ | refine zah ?_ _)); exact BK108.out)) : gb115 ≠ gb108)); have n8_ := zaa.mk ((by rw [hg]; exact Nat.ne_of_lt (zaw (g := gb112) (o := .cells #[.int .i64 ((zal l0_2 x4_2).f0), .slice (some ad114) ((zal l0_2 x4_2).f1).length c111_1, .int .i64 ((zal l0_2 x4_2).f2)] 46 (0, 0)) (by (with_reducible repeat (first | refine zai ?_ _ | refine zae ?_ | refine zah ?_ _)); exact BK112.out)) : gb112 ≠ gb115)); have n9_ := zaa.mk ((by rw [hg]; exact Nat.ne_of_gt (zaw (g := gb112) (o := .cells #[.int .i64 ((zal l0_2 x4_2).f0), .slice (some ad114) ((zal l0_2 x4_2).f1).length c111_1, .int .i64 ((zal l0_2 x4_2).f2)] 46 (0, 0)) (by (with_reducible repeat (first | refine zai ?_ _ | refine zae ?_ | refine zah ?_ _)); exact BK112.out)) : gb115 ≠ gb112)); clear BK108; clear BK112; clear HB; have BK108 := n0_; have BK112 := n1_; have HB := n2_; have BK115 := n3_; have GW115 := n4_; have GE115 := n5_; have NB108_115 := n6_; have NB115_108 := n7_; have NB112_115 := n8_; have NB115_112 := n9_; clear n0_ n1_ n2_ n3_ n4_ n5_ n6_ n7_ n8_ n9_; clear hb hbox hg; have hnb98 := NB115_108.out; have hnc98 := NB108_115.out; have hnb99 := NB115_112.out; have hnc99 := NB112_115.out; have hcz100_0 : w97.cell? ⟨gb115, 0, none⟩ = some (.int .i64 0) := (zab BK115.out 0).trans rfl; have hcz100_1 : w97.cell? ⟨gb115, 1, none⟩ = some (.string (⟨#[]⟩ : ByteArray)) := (zab BK115.out 1).trans rfl; have hcz100_2 : w97.cell? ⟨gb115, 2, none⟩ = some (.string (⟨#[]⟩ : ByteArray)) := (zab BK115.out 2).trans rfl; have hfz100_0 := zak BK115.out 0; have hfz100_1 := zak BK115.out 1; have hfz100_2 := zak BK115.out 2) | (go_at_call 24; (with_reducible refine (za0.calls k4 ((zbl ((zal l0_2 x4_2).f1) x6_4).f1) false _ A79.out).mono ?_); rintro e w' ⟨rfl, ⟨nd, rfl⟩⟩; (try first | exact ⟨rfl, _, World.drewN_drewN _ _ _⟩ | exact ⟨rfl, _, Eq.trans (World.drewN_drewN _ _ _) (congrArg (World.drewN _) (Nat.add_assoc _ _ _))⟩))))
                  go_ret
                  exact ⟨by first | rfl | (simp [za6, za4] <;> rfl) | (simp [*, za6, za4] <;> rfl), by repeat (first | (with_reducible first | exact HB.out | apply zaf | apply zac | apply zad | refine zaj ?_ GE108.out | refine zaj ?_ GE112.out | refine zaj ?_ GE115.out) | exact HB.out)⟩
              ·rw [if_neg c64] at H
               exact absurd H (by simp)
             ·rw [if_neg c63] at H
              have c63b0 : decide (x6_4 < (((zal l0_2 x4_2).f1).length : Int)) = false := decide_eq_false c63
              clear c63
              have H' := zaa.mk H
              clear H
              have hnb101 := NB112_108.out
              have hnc101 := NB108_112.out
              have hcz102_0 : wr.cell? ⟨gb112, 0, none⟩ = some (.int .i64 ((zal l0_2 x4_2).f0)) := (zab BK112.out 0).trans rfl
              have hcz102_1 : wr.cell? ⟨gb112, 1, none⟩ = some (.slice A111_1 ((zal l0_2 x4_2).f1).length c111_1) := (zab BK112.out 1).trans rfl
              have hcz102_2 : wr.cell? ⟨gb112, 2, none⟩ = some (.int .i64 ((zal l0_2 x4_2).f2)) := (zab BK112.out 2).trans rfl
              have hfz102_0 := zak BK112.out 0
              have hfz102_1 := zak BK112.out 1
              have hfz102_2 := zak BK112.out 2
              go_wp2
              repeat (go_quiet (fail); try go_wp2)
              go_roundg k4
              case measure => have := HJ1.out; have := HK2.out; have := HJ18.out; have := HK4.out; omega
              case rel => exact ⟨(wrap64 (x4_2 + 1)), (by first | rfl | (simp; done) | (simp [*]; done)), H', ⟨by have := HJ1.out; have := HK2.out; have := HJ18.out; have := HK4.out; omega⟩, ⟨by (with_reducible repeat (first | refine zai ?_ _ | refine zae ?_ | refine zah ?_ _)); exact BK108.out⟩, ⟨by repeat (first | (with_reducible first | exact HB.out | apply zaf | apply zac | apply zad | refine zaj ?_ GE108.out | refine zaj ?_ GE112.out) | exact HB.out)⟩⟩
       ·rw [if_neg c18] at H
        exact absurd H (by simp)
      ·rw [if_neg c17] at H
       have c17b0 : decide (x4_2 < (l0_2.length : Int)) = false := decide_eq_false c17
       clear c17
       obtain rfl := Option.some.inj H
       have hcz103_0 : wr.cell? ⟨gb108, 0, none⟩ = some (.slice A0_0 l0_0.length c0_0) := (zab BK108.out 0).trans rfl
       have hcz103_1 : wr.cell? ⟨gb108, 1, none⟩ = some (.slice A0_1 l0_1.length c0_1) := (zab BK108.out 1).trans rfl
       have hcz103_2 : wr.cell? ⟨gb108, 2, none⟩ = some (.slice A0_2 l0_2.length c0_2) := (zab BK108.out 2).trans rfl
       have hfz103_0 := zak BK108.out 0
       have hfz103_1 := zak BK108.out 1
       have hfz103_2 := zak BK108.out 2
       go_wp2
       repeat (go_quiet (fail); try go_wp2)
       go_ret
       exact ⟨by first | rfl | (simp [za6, za4] <;> rfl) | (simp [*, za6, za4] <;> rfl), by repeat (first | (with_reducible first | exact HB.out | apply zaf | apply zac | apply zad | refine zaj ?_ GE108.out) | exact HB.out)⟩
end Go.Proofs.Ytgdmjpehofdnpaa.PItemCloses
end
section
namespace Go.Proofs.Ytgdmjpehofdnpaa.PItemCloses
open Go.RowKit Go.Proofs.YtgdmjpehofdnpaaW.PrintWords Go.Proofs.YtgdmjpehofdnpaaW.PrintLast Go.Proofs.YtgdmjpehofdnpaaW.PrintMore
attribute [local go_sem] zb8 zb9 zce zcd zb6 zb4 zb7 zca
set_option linter.unusedVariables false
set_option linter.unusedSimpArgs false
attribute [local go_sem high] eqA39
def za5.l0 : Nat → Int → List (S46) → Int → Int → Option (Int)
 | 0, _, _, _, _ => none
 | k + 1, x3, x7, x8, x9 => if x9 < x8 then (if 0 ≤ x9 then (if x9 < (x7.length : Int) then (za5.l0 k (wrap64 (x3 + (((zal x7 x9).f1).length : Int))) x7 x8 (wrap64 (x9 + 1))) else (none)) else (none)) else (some x3)
def za5.f (k : Nat) (l0_0 : List ByteArray) (l0_1 : List ByteArray) (l0_2 : List (S46)) : Option (Int) := za5.l0 k 0 l0_2 (l0_2.length : Int) 0
theorem za5.zby : ∀ k, (∀ y0 y1 y2 y3, LeO (za5.l0 k y0 y1 y2 y3) (za5.l0 (k + 1) y0 y1 y2 y3))
 | 0 => fun _ _ _ _ r h => by simp [za5.l0] at h
 | k + 1 => by
  have ih0 := za5.zby k
  ·intro y0 y1 y2 y3
   unfold za5.l0
   repeat' first
   | (with_reducible exact ih0 _ _ _ _)
   | (with_reducible exact LeO.refl _)
   | (with_reducible exact LeO.none _)
   | (with_reducible refine LeO.ite ?_ ?_)
   | (with_reducible refine LeO.bind ?_ (fun _ => ?_))
   | exact ih0 _ _ _ _
   | exact LeO.none _
   | refine LeO.ite ?_ ?_
   | refine LeO.bind ?_ (fun _ => ?_)
theorem za5.mono : ∀ a0 a1 a2 k, LeO (za5.f k a0 a1 a2) (za5.f (k + 1) a0 a1 a2) := by
 intro a0 a1 a2 k
 have ih0 := za5.zby k
 unfold za5.f
 repeat' first
   | (with_reducible exact ih0 _ _ _ _)
   | (with_reducible exact LeO.refl _)
   | (with_reducible exact LeO.none _)
   | (with_reducible refine LeO.ite ?_ ?_)
   | (with_reducible refine LeO.bind ?_ (fun _ => ?_))
   | exact ih0 _ _ _ _
   | exact LeO.none _
   | refine LeO.ite ?_ ?_
   | refine LeO.bind ?_ (fun _ => ?_)
set_option maxHeartbeats 8000000 in
set_option maxRecDepth 100000 in
theorem za5.calls (k : Nat) (A0_0 : Option Addr) (c0_0 : Nat) (l0_0 : List ByteArray) (A0_1 : Option Addr) (c0_1 : Nat) (l0_1 : List ByteArray) (A0_2 : Option Addr) (c0_2 : Nat) (l0_2 : List (S46)) (r : Int) (w : World) (hr0_0 : Kd.C Kd.string w A0_0 l0_0.length l0_0) (hc0_0 : l0_0.length ≤ c0_0) (hr0_1 : Kd.C Kd.string w A0_1 l0_1.length l0_1) (hc0_1 : l0_1.length ≤ c0_1) (hr0_2 : Kd.C k46 w A0_2 l0_2.length l0_2) (hc0_2 : l0_2.length ≤ c0_2) (h : za5.f k l0_0 l0_1 l0_2 = some r) :
  Calls Try.prog 15 #[.agg #[.slice A0_0 l0_0.length c0_0, .slice A0_1 l0_1.length c0_1, .slice A0_2 l0_2.length c0_2]] w fun e w' => e = .returned (.int .i64 r) ∧ Below w.heap.size w w' := by
 have hu25 := Try.underlying25
 have hu46 := Try.underlying46
 have HR0_0 := zaa.mk hr0_0
 have HC0_0 := zaa.mk hc0_0
 clear hr0_0 hc0_0
 have HR0_1 := zaa.mk hr0_1
 have HC0_1 := zaa.mk hc0_1
 clear hr0_1 hc0_1
 have HR0_2 := zaa.mk hr0_2
 have HC0_2 := zaa.mk hc0_2
 clear hr0_2 hc0_2
 have HB := zaa.mk (Below.refl w.heap.size w)
 have H : (za5.l0 k 0 l0_2 (l0_2.length : Int) 0) = some r := h
 clear h
 have H' := zaa.mk H
 clear H
 go_enter Try.func15, Try.ntmps15
 go_wp2_with (first | ((with_reducible refine zba (N := 1) rfl ?_); refine za9 ?hg (N := 1) ?hd (cs := #[.slice A0_0 l0_0.length c0_0, .slice A0_1 l0_1.length c0_1, .slice A0_2 l0_2.length c0_2]) (t := 25) ?hr ?_; (case hd => rfl); (case hg => rfl); (case hr => first | (go_simp; done) | (go_simp; rfl)); intro gb118 hg w2 hbox hb; have n0_ := zaa.mk (zax (by repeat (first | (with_reducible first | exact HB.out | apply zaf | apply zac | apply zad) | exact HB.out)) hb); have n1_ := zaa.mk (hbox); have n2_ := zaa.mk ((by rw [hg]; exact (zat (by repeat (first | (with_reducible first | exact HB.out | apply zaf | apply zac | apply zad) | exact HB.out))) : w.heap.size ≤ gb118)); have n3_ := zaa.mk ((by rw [hg]; exact (zat (by repeat (first | (with_reducible first | exact HB.out | apply zaf | apply zac | apply zad) | exact HB.out))) : w.heap.size ≤ gb118)); clear HB; have HB := n0_; have BK118 := n1_; have GW118 := n2_; have GE118 := n3_; clear n0_ n1_ n2_ n3_; clear hb hbox hg; have hcz3_0 : w2.cell? ⟨gb118, 0, none⟩ = some (.slice A0_0 l0_0.length c0_0) := (zab BK118.out 0).trans rfl; have hcz3_1 : w2.cell? ⟨gb118, 1, none⟩ = some (.slice A0_1 l0_1.length c0_1) := (zab BK118.out 1).trans rfl; have hcz3_2 : w2.cell? ⟨gb118, 2, none⟩ = some (.slice A0_2 l0_2.length c0_2) := (zab BK118.out 2).trans rfl; have hfz3_0 := zak BK118.out 0; have hfz3_1 := zak BK118.out 1; have hfz3_2 := zak BK118.out 2))
 go_loopg [3, 9] k (fun kq v3 v9 w' => ∃ (x3_1 : Int) (x9_1 : Int), v3 = .int .i64 x3_1 ∧ v9 = .int .i64 x9_1 ∧ zaa (za5.l0 kq x3_1 l0_2 (l0_2.length : Int) x9_1 = some r) ∧ zaa (kq ≤ k) ∧ zaa (w'.heap[gb118]? = some (.cells #[(.slice A0_0 l0_0.length c0_0), (.slice A0_1 l0_1.length c0_1), (.slice A0_2 l0_2.length c0_2)] 25 (0, 0))) ∧ zaa (Below w.heap.size w w'))
 case atStart => exact ⟨(0), (0), (by first | rfl | (simp; done) | (simp [*]; done)), (by first | rfl | (simp; done) | (simp [*]; done)), H', ⟨Nat.le_refl _⟩, ⟨by (with_reducible repeat (first | refine zai ?_ _ | refine zae ?_ | refine zah ?_ _)); exact BK118.out⟩, ⟨by repeat (first | (with_reducible first | exact HB.out | apply zaf | apply zac | apply zad | refine zaj ?_ GE118.out) | exact HB.out)⟩⟩
 case round =>
  clear H'
  try clear c1
  try clear p2
  try clear hcz3_0
  try clear hcz3_1
  try clear hcz3_2
  try clear hfz3_0
  try clear hfz3_1
  try clear hfz3_2
  obtain ⟨x3_1, x9_1, rfl, rfl, HA, HK1, BK118, HB⟩ := hrel
  cases gk with
  | zero => exact absurd HA.out (by simp [za5.l0])
  | succ k1 =>
   have H := HA.out
   clear HA
   simp only [za5.l0] at H
   by_cases c4 : x9_1 < (l0_2.length : Int)
   ·rw [if_pos c4] at H
    have c4b0 : decide (x9_1 < (l0_2.length : Int)) = true := decide_eq_true c4
    clear c4
    by_cases c5 : 0 ≤ x9_1
    ·rw [if_pos c5] at H
     have c5b0 : decide (0 ≤ x9_1) = true := decide_eq_true c5
     clear c5
     by_cases c6 : x9_1 < (l0_2.length : Int)
     ·rw [if_pos c6] at H
      have c6b0 : decide (x9_1 < (l0_2.length : Int)) = true := decide_eq_true c6
      clear c6
      have H' := zaa.mk H
      clear H
      have p119 : 0 ≤ (x9_1 : Int) := of_decide_eq_true (by first | (with_reducible assumption) | assumption)
      have q119 : x9_1 < (l0_2.length : Int) := of_decide_eq_true (by first | (with_reducible assumption) | assumption)
      obtain ⟨ad119, A119_1, c119_1, e119, hx119_0, hx119_1, hx119_2, hl119_1, hi119_1⟩ := at_T46 HR0_2.out x9_1 p119 q119
      cases e119
      replace hx119_0 := (HB.out.cell (World.block_lt_of_cell? w _ hx119_0)).trans hx119_0
      replace hx119_1 := (HB.out.cell (World.block_lt_of_cell? w _ hx119_1)).trans hx119_1
      replace hx119_2 := (HB.out.cell (World.block_lt_of_cell? w _ hx119_2)).trans hx119_2
      have HR119_1 := zaa.mk hi119_1
      have HC119_1 := zaa.mk hl119_1
      clear hi119_1 hl119_1
      replace p119 := eq_true p119
      replace q119 := eq_true q119
      go_wp2_with (first | ((with_reducible refine zba (N := 5) rfl ?_); refine za9 ?hg (N := 5) ?hd (cs := #[.int .i64 0, .slice none 0 0, .int .i64 0]) (t := 46) ?hr ?_; (case hd => rfl); (case hg => rfl); (case hr => first | (go_simp; done) | (go_simp; rfl)); intro gb120 hg w7 hbox hb; have n0_ := zaa.mk (zaq (g := gb118) (o := .cells #[.slice A0_0 l0_0.length c0_0, .slice A0_1 l0_1.length c0_1, .slice (some ad119) l0_2.length c0_2] 25 (0, 0)) (by (with_reducible repeat (first | refine zai ?_ _ | refine zae ?_ | refine zah ?_ _)); exact BK118.out) hb); have n1_ := zaa.mk (zax (by repeat (first | (with_reducible first | exact HB.out | apply zaf | apply zac | apply zad | refine zaj ?_ GE118.out) | exact HB.out)) hb); have n2_ := zaa.mk (hbox); have n3_ := zaa.mk ((by rw [hg]; exact (zat (by repeat (first | (with_reducible first | exact HB.out | apply zaf | apply zac | apply zad | refine zaj ?_ GE118.out) | exact HB.out))) : w.heap.size ≤ gb120)); have n4_ := zaa.mk ((by rw [hg]; exact (zat (by repeat (first | (with_reducible first | exact HB.out | apply zaf | apply zac | apply zad | refine zaj ?_ GE118.out) | exact HB.out))) : w.heap.size ≤ gb120)); have n5_ := zaa.mk ((by rw [hg]; exact Nat.ne_of_lt (zaw (g := gb118) (o := .cells #[.slice A0_0 l0_0.length c0_0, .slice A0_1 l0_1.length c0_1, .slice (some ad119) l0_2.length c0_2] 25 (0, 0)) (by (with_reducible repeat (first | refine zai ?_ _ | refine zae ?_ | refine zah ?_ _)); exact BK118.out)) : gb118 ≠ gb120)); have n6_ := zaa.mk ((by rw [hg]; exact Nat.ne_of_gt (zaw (g := gb118) (o := .cells #[.slice A0_0 l0_0.length c0_0, .slice A0_1 l0_1.length c0_1, .slice (some ad119) l0_2.length c0_2] 25 (0, 0)) (by (with_reducible repeat (first | refine zai ?_ _ | refine zae ?_ | refine zah ?_ _)); exact BK118.out)) : gb120 ≠ gb118)); clear BK118; clear HB; have BK118 := n0_; have HB := n1_; have BK120 := n2_; have GW120 := n3_; have GE120 := n4_; have NB118_120 := n5_; have NB120_118 := n6_; clear n0_ n1_ n2_ n3_ n4_ n5_ n6_; clear hb hbox hg; have hnb8 := NB120_118.out; have hnc8 := NB118_120.out; have hcz9_0 : w7.cell? ⟨gb120, 0, none⟩ = some (.int .i64 0) := (zab BK120.out 0).trans rfl; have hcz9_1 : w7.cell? ⟨gb120, 1, none⟩ = some (.slice none 0 0) := (zab BK120.out 1).trans rfl; have hcz9_2 : w7.cell? ⟨gb120, 2, none⟩ = some (.int .i64 0) := (zab BK120.out 2).trans rfl; have hfz9_0 := zak BK120.out 0; have hfz9_1 := zak BK120.out 1; have hfz9_2 := zak BK120.out 2))
      go_roundg k1
      case measure => have := HK1.out; omega
      case rel => exact ⟨(wrap64 (x3_1 + (((zal l0_2 x9_1).f1).length : Int))), (wrap64 (x9_1 + 1)), (by first | rfl | (simp; done) | (simp [*]; done)), (by first | rfl | (simp; done) | (simp [*]; done)), H', ⟨by have := HK1.out; omega⟩, ⟨by (with_reducible repeat (first | refine zai ?_ _ | refine zae ?_ | refine zah ?_ _)); refine zbh ?_ NB118_120.out _; (with_reducible repeat (first | refine zai ?_ _ | refine zae ?_ | refine zah ?_ _)); refine zbh ?_ NB118_120.out _; (with_reducible repeat (first | refine zai ?_ _ | refine zae ?_ | refine zah ?_ _)); refine zbh ?_ NB118_120.out _; (with_reducible repeat (first | refine zai ?_ _ | refine zae ?_ | refine zah ?_ _)); exact BK118.out⟩, ⟨by repeat (first | (with_reducible first | exact HB.out | apply zaf | apply zac | apply zad | refine zaj ?_ GE118.out | refine zaj ?_ GE120.out) | exact HB.out)⟩⟩
     ·rw [if_neg c6] at H
      exact absurd H (by simp)
    ·rw [if_neg c5] at H
     exact absurd H (by simp)
   ·rw [if_neg c4] at H
    have c4b0 : decide (x9_1 < (l0_2.length : Int)) = false := decide_eq_false c4
    clear c4
    obtain rfl := Option.some.inj H
    go_wp2
    go_ret
    exact ⟨by first | rfl | (simp [za6, za4] <;> rfl) | (simp [*, za6, za4] <;> rfl), by repeat (first | (with_reducible first | exact HB.out | apply zaf | apply zac | apply zad | refine zaj ?_ GE118.out) | exact HB.out)⟩
def zbk.f (k : Nat) (l0_0 : List ByteArray) (l0_1 : List ByteArray) (l0_2 : List (S46)) : Option (Bool) := (za3.f k l0_0 l0_1 l0_2).bind fun t122 => (if t122 = true then ((zam.f k l0_0 l0_1 l0_2).bind fun t123 => (if t123 = true then (if (wrap64 ((l0_0.length : Int) + (l0_1.length : Int))) ≤ 16 then (if (l0_2.length : Int) ≤ 16 then ((za5.f k l0_0 l0_1 l0_2).bind fun t124 => (some (decide (t124 ≤ 60)))) else (some false)) else (some false)) else (some false))) else (some false))
theorem zbk.mono : ∀ a0 a1 a2 k, LeO (zbk.f k a0 a1 a2) (zbk.f (k + 1) a0 a1 a2) := by
 intro a0 a1 a2 k
 unfold zbk.f
 repeat' first
   | (with_reducible exact za5.mono _ _ _ _)
   | (with_reducible exact zam.mono _ _ _ _)
   | (with_reducible exact za3.mono _ _ _ _)
   | (with_reducible exact LeO.refl _)
   | (with_reducible exact LeO.none _)
   | (with_reducible refine LeO.ite ?_ ?_)
   | (with_reducible refine LeO.bind ?_ (fun _ => ?_))
   | exact za5.mono _ _ _ _
   | exact zam.mono _ _ _ _
   | exact za3.mono _ _ _ _
   | exact LeO.none _
   | refine LeO.ite ?_ ?_
   | refine LeO.bind ?_ (fun _ => ?_)
set_option maxHeartbeats 8000000 in
set_option maxRecDepth 100000 in
theorem zbk.calls (k : Nat) (A0_0 : Option Addr) (c0_0 : Nat) (l0_0 : List ByteArray) (A0_1 : Option Addr) (c0_1 : Nat) (l0_1 : List ByteArray) (A0_2 : Option Addr) (c0_2 : Nat) (l0_2 : List (S46)) (r : Bool) (w : World) (hr0_0 : Kd.C Kd.string w A0_0 l0_0.length l0_0) (hc0_0 : l0_0.length ≤ c0_0) (hr0_1 : Kd.C Kd.string w A0_1 l0_1.length l0_1) (hc0_1 : l0_1.length ≤ c0_1) (hr0_2 : Kd.C k46 w A0_2 l0_2.length l0_2) (hc0_2 : l0_2.length ≤ c0_2) (h : zbk.f k l0_0 l0_1 l0_2 = some r) :
  Calls Try.prog 5 #[.agg #[.slice A0_0 l0_0.length c0_0, .slice A0_1 l0_1.length c0_1, .slice A0_2 l0_2.length c0_2]] w fun e w' => e = .returned (.bool r) ∧ Below w.heap.size w w' := by
 have hu25 := Try.underlying25
 have HR0_0 := zaa.mk hr0_0
 have HC0_0 := zaa.mk hc0_0
 clear hr0_0 hc0_0
 have HR0_1 := zaa.mk hr0_1
 have HC0_1 := zaa.mk hc0_1
 clear hr0_1 hc0_1
 have HR0_2 := zaa.mk hr0_2
 have HC0_2 := zaa.mk hc0_2
 clear hr0_2 hc0_2
 have HB := zaa.mk (Below.refl w.heap.size w)
 have H : ((za3.f k l0_0 l0_1 l0_2).bind fun t122 => (if t122 = true then ((zam.f k l0_0 l0_1 l0_2).bind fun t123 => (if t123 = true then (if (wrap64 ((l0_0.length : Int) + (l0_1.length : Int))) ≤ 16 then (if (l0_2.length : Int) ≤ 16 then ((za5.f k l0_0 l0_1 l0_2).bind fun t124 => (some (decide (t124 ≤ 60)))) else (some false)) else (some false)) else (some false))) else (some false))) = some r := h
 clear h
 replace H := Option.bind_eq_some_iff.mp H
 obtain ⟨t122, A20, H⟩ := H
 replace H : (if t122 = true then ((zam.f k l0_0 l0_1 l0_2).bind fun t123 => (if t123 = true then (if (wrap64 ((l0_0.length : Int) + (l0_1.length : Int))) ≤ 16 then (if (l0_2.length : Int) ≤ 16 then ((za5.f k l0_0 l0_1 l0_2).bind fun t124 => (some (decide (t124 ≤ 60)))) else (some false)) else (some false)) else (some false))) else (some false)) = some r := H
 have A2 := zaa.mk A20
 clear A20
 by_cases c3 : t122 = true
 ·subst c3
  have H1 : ((zam.f k l0_0 l0_1 l0_2).bind fun t123 => (if t123 = true then (if (wrap64 ((l0_0.length : Int) + (l0_1.length : Int))) ≤ 16 then (if (l0_2.length : Int) ≤ 16 then ((za5.f k l0_0 l0_1 l0_2).bind fun t124 => (some (decide (t124 ≤ 60)))) else (some false)) else (some false)) else (some false))) = some r := by rw [if_pos rfl] at H; exact H
  clear H
  have H := H1
  clear H1
  replace H := Option.bind_eq_some_iff.mp H
  obtain ⟨t123, A40, H⟩ := H
  replace H : (if t123 = true then (if (wrap64 ((l0_0.length : Int) + (l0_1.length : Int))) ≤ 16 then (if (l0_2.length : Int) ≤ 16 then ((za5.f k l0_0 l0_1 l0_2).bind fun t124 => (some (decide (t124 ≤ 60)))) else (some false)) else (some false)) else (some false)) = some r := H
  have A4 := zaa.mk A40
  clear A40
  by_cases c5 : t123 = true
  ·subst c5
   have H1 : (if (wrap64 ((l0_0.length : Int) + (l0_1.length : Int))) ≤ 16 then (if (l0_2.length : Int) ≤ 16 then ((za5.f k l0_0 l0_1 l0_2).bind fun t124 => (some (decide (t124 ≤ 60)))) else (some false)) else (some false)) = some r := by rw [if_pos rfl] at H; exact H
   clear H
   have H := H1
   clear H1
   by_cases c6 : (wrap64 ((l0_0.length : Int) + (l0_1.length : Int))) ≤ 16
   ·rw [if_pos c6] at H
    have c6b0 : decide ((wrap64 ((l0_0.length : Int) + (l0_1.length : Int))) ≤ 16) = true := decide_eq_true c6
    clear c6
    by_cases c7 : (l0_2.length : Int) ≤ 16
    ·rw [if_pos c7] at H
     have c7b0 : decide ((l0_2.length : Int) ≤ 16) = true := decide_eq_true c7
     have c7b1 : decide (l0_2.length ≤ 16) = true := decide_eq_true (by omega)
     clear c7
     replace H := Option.bind_eq_some_iff.mp H
     obtain ⟨t124, A80, H⟩ := H
     replace H : (some (decide (t124 ≤ 60))) = some r := H
     have A8 := zaa.mk A80
     clear A80
     obtain rfl := Option.some.inj H
     go_enter Try.func5, Try.ntmps5
     go_wp2_with (first | ((with_reducible refine zba (N := 1) rfl ?_); (try (refine zbc (by rfl) ?_; dsimp only)); refine za9 ?hg (N := 1) ?hd (cs := #[.slice A0_0 l0_0.length c0_0, .slice A0_1 l0_1.length c0_1, .slice A0_2 l0_2.length c0_2]) (t := 25) ?hr ?_; (case hd => rfl); (case hg => rfl); (case hr => first | (go_simp; done) | (go_simp; rfl)); intro gb121 hg w9 hbox hb; have n0_ := zaa.mk (zax (by repeat (first | (with_reducible first | exact HB.out | apply zaf | apply zac | apply zad) | exact HB.out)) hb); have n1_ := zaa.mk (hbox); have n2_ := zaa.mk ((by rw [hg]; exact (zat (by repeat (first | (with_reducible first | exact HB.out | apply zaf | apply zac | apply zad) | exact HB.out))) : w.heap.size ≤ gb121)); have n3_ := zaa.mk ((by rw [hg]; exact (zat (by repeat (first | (with_reducible first | exact HB.out | apply zaf | apply zac | apply zad) | exact HB.out))) : w.heap.size ≤ gb121)); clear HB; have HB := n0_; have BK121 := n1_; have GW121 := n2_; have GE121 := n3_; clear n0_ n1_ n2_ n3_; clear hb hbox hg; have hcz10_0 : w9.cell? ⟨gb121, 0, none⟩ = some (.slice A0_0 l0_0.length c0_0) := (zab BK121.out 0).trans rfl; have hcz10_1 : w9.cell? ⟨gb121, 1, none⟩ = some (.slice A0_1 l0_1.length c0_1) := (zab BK121.out 1).trans rfl; have hcz10_2 : w9.cell? ⟨gb121, 2, none⟩ = some (.slice A0_2 l0_2.length c0_2) := (zab BK121.out 2).trans rfl; have hfz10_0 := zak BK121.out 0; have hfz10_1 := zak BK121.out 1; have hfz10_2 := zak BK121.out 2) | ((with_reducible refine zbo (f := 13) rfl ?_); refine zb5 (some 4) rfl rfl Try.func13 (by kernel_rfl) rfl #[.agg #[.slice A0_0 l0_0.length c0_0, .slice A0_1 l0_1.length c0_1, .slice A0_2 l0_2.length c0_2]] rfl (by (try simp only [List.map_toArray, List.map_cons, List.map_nil]); first | done | rfl | (simp only [List.length_drop, List.length_take]; rfl)) ?_; (with_reducible refine (za3.calls k _ _ l0_0 _ _ l0_1 _ _ l0_2 true _ ?side1 ?side2 ?side3 ?side4 ?side5 ?side6 A2.out).mono ?_); (case side1 => repeat (first | exact (Kd.zay HR0_0.out HB.out) | (with_reducible refine Kd.za2 ?_ _) | (with_reducible refine Kd.za1 ?_ _) | (with_reducible refine Kd.za7 ?_))); (case side2 => exact HC0_0.out); (case side3 => repeat (first | exact (Kd.zay HR0_1.out HB.out) | (with_reducible refine Kd.za2 ?_ _) | (with_reducible refine Kd.za1 ?_ _) | (with_reducible refine Kd.za7 ?_))); (case side4 => exact HC0_1.out); (case side5 => repeat (first | exact (Kd.zay HR0_2.out HB.out) | (with_reducible refine Kd.za2 ?_ _) | (with_reducible refine Kd.za1 ?_ _) | (with_reducible refine Kd.za7 ?_))); (case side6 => exact HC0_2.out); rintro e w11 ⟨rfl, hb⟩; refine ⟨_, rfl, ?_⟩; have n0_ := zaa.mk (zaq (g := gb121) (o := .cells #[.slice A0_0 l0_0.length c0_0, .slice A0_1 l0_1.length c0_1, .slice A0_2 l0_2.length c0_2] 25 (0, 0)) (by (with_reducible repeat (first | refine zai ?_ _ | refine zae ?_ | refine zah ?_ _)); exact BK121.out) hb); have n1_ := zaa.mk (zax (by repeat (first | (with_reducible first | exact HB.out | apply zaf | apply zac | apply zad | refine zaj ?_ GE121.out) | exact HB.out)) hb); clear BK121; clear HB; have BK121 := n0_; have HB := n1_; clear n0_ n1_; (try clear hb); (try clear hb2); (try clear hk); (try clear hi); have hcz12_0 : w11.cell? ⟨gb121, 0, none⟩ = some (.slice A0_0 l0_0.length c0_0) := (zab BK121.out 0).trans rfl; have hcz12_1 : w11.cell? ⟨gb121, 1, none⟩ = some (.slice A0_1 l0_1.length c0_1) := (zab BK121.out 1).trans rfl; have hcz12_2 : w11.cell? ⟨gb121, 2, none⟩ = some (.slice A0_2 l0_2.length c0_2) := (zab BK121.out 2).trans rfl; have hfz12_0 := zak BK121.out 0; have hfz12_1 := zak BK121.out 1; have hfz12_2 := zak BK121.out 2) | (go_at_call 14; (with_reducible refine (zam.calls k _ _ l0_0 _ _ l0_1 _ _ l0_2 true _ ?side1 ?side2 ?side3 ?side4 ?side5 ?side6 A4.out).mono ?_); (case side1 => repeat (first | exact (Kd.zay HR0_0.out HB.out) | (with_reducible refine Kd.za2 ?_ _) | (with_reducible refine Kd.za1 ?_ _) | (with_reducible refine Kd.za7 ?_))); (case side2 => exact HC0_0.out); (case side3 => repeat (first | exact (Kd.zay HR0_1.out HB.out) | (with_reducible refine Kd.za2 ?_ _) | (with_reducible refine Kd.za1 ?_ _) | (with_reducible refine Kd.za7 ?_))); (case side4 => exact HC0_1.out); (case side5 => repeat (first | exact (Kd.zay HR0_2.out HB.out) | (with_reducible refine Kd.za2 ?_ _) | (with_reducible refine Kd.za1 ?_ _) | (with_reducible refine Kd.za7 ?_))); (case side6 => exact HC0_2.out); rintro e w13 ⟨rfl, hb⟩; have n0_ := zaa.mk (zaq (g := gb121) (o := .cells #[.slice A0_0 l0_0.length c0_0, .slice A0_1 l0_1.length c0_1, .slice A0_2 l0_2.length c0_2] 25 (0, 0)) (by (with_reducible repeat (first | refine zai ?_ _ | refine zae ?_ | refine zah ?_ _)); exact BK121.out) hb); have n1_ := zaa.mk (zax (by repeat (first | (with_reducible first | exact HB.out | apply zaf | apply zac | apply zad | refine zaj ?_ GE121.out) | exact HB.out)) hb); clear BK121; clear HB; have BK121 := n0_; have HB := n1_; clear n0_ n1_; (try clear hb); (try clear hb2); (try clear hk); (try clear hi); have hcz14_0 : w13.cell? ⟨gb121, 0, none⟩ = some (.slice A0_0 l0_0.length c0_0) := (zab BK121.out 0).trans rfl; have hcz14_1 : w13.cell? ⟨gb121, 1, none⟩ = some (.slice A0_1 l0_1.length c0_1) := (zab BK121.out 1).trans rfl; have hcz14_2 : w13.cell? ⟨gb121, 2, none⟩ = some (.slice A0_2 l0_2.length c0_2) := (zab BK121.out 2).trans rfl; have hfz14_0 := zak BK121.out 0; have hfz14_1 := zak BK121.out 1; have hfz14_2 := zak BK121.out 2) | (go_at_call 15; (with_reducible refine (za5.calls k _ _ l0_0 _ _ l0_1 _ _ l0_2 t124 _ ?side1 ?side2 ?side3 ?side4 ?side5 ?side6 A8.out).mono ?_); (case side1 => repeat (first | exact (Kd.zay HR0_0.out HB.out) | (with_reducible refine Kd.za2 ?_ _) | (with_reducible refine Kd.za1 ?_ _) | (with_reducible refine Kd.za7 ?_))); (case side2 => exact HC0_0.out); (case side3 => repeat (first | exact (Kd.zay HR0_1.out HB.out) | (with_reducible refine Kd.za2 ?_ _) | (with_reducible refine Kd.za1 ?_ _) | (with_reducible refine Kd.za7 ?_))); (case side4 => exact HC0_1.out); (case side5 => repeat (first | exact (Kd.zay HR0_2.out HB.out) | (with_reducible refine Kd.za2 ?_ _) | (with_reducible refine Kd.za1 ?_ _) | (with_reducible refine Kd.za7 ?_))); (case side6 => exact HC0_2.out); rintro e w15 ⟨rfl, hb⟩; have n0_ := zaa.mk (zaq (g := gb121) (o := .cells #[.slice A0_0 l0_0.length c0_0, .slice A0_1 l0_1.length c0_1, .slice A0_2 l0_2.length c0_2] 25 (0, 0)) (by (with_reducible repeat (first | refine zai ?_ _ | refine zae ?_ | refine zah ?_ _)); exact BK121.out) hb); have n1_ := zaa.mk (zax (by repeat (first | (with_reducible first | exact HB.out | apply zaf | apply zac | apply zad | refine zaj ?_ GE121.out) | exact HB.out)) hb); clear BK121; clear HB; have BK121 := n0_; have HB := n1_; clear n0_ n1_; (try clear hb); (try clear hb2); (try clear hk); (try clear hi)))
     go_ret
     exact ⟨by first | rfl | (simp [za6, za4] <;> rfl) | (simp [*, za6, za4] <;> rfl), by repeat (first | (with_reducible first | exact HB.out | apply zaf | apply zac | apply zad | refine zaj ?_ GE121.out) | exact HB.out)⟩
    ·rw [if_neg c7] at H
     have c7b0 : decide ((l0_2.length : Int) ≤ 16) = false := decide_eq_false c7
     have c7b1 : decide (l0_2.length ≤ 16) = false := decide_eq_false (by omega)
     clear c7
     obtain rfl := Option.some.inj H
     go_enter Try.func5, Try.ntmps5
     go_wp2_with (first | ((with_reducible refine zba (N := 1) rfl ?_); (try (refine zbc (by rfl) ?_; dsimp only)); refine za9 ?hg (N := 1) ?hd (cs := #[.slice A0_0 l0_0.length c0_0, .slice A0_1 l0_1.length c0_1, .slice A0_2 l0_2.length c0_2]) (t := 25) ?hr ?_; (case hd => rfl); (case hg => rfl); (case hr => first | (go_simp; done) | (go_simp; rfl)); intro gb121 hg w16 hbox hb; have n0_ := zaa.mk (zax (by repeat (first | (with_reducible first | exact HB.out | apply zaf | apply zac | apply zad) | exact HB.out)) hb); have n1_ := zaa.mk (hbox); have n2_ := zaa.mk ((by rw [hg]; exact (zat (by repeat (first | (with_reducible first | exact HB.out | apply zaf | apply zac | apply zad) | exact HB.out))) : w.heap.size ≤ gb121)); have n3_ := zaa.mk ((by rw [hg]; exact (zat (by repeat (first | (with_reducible first | exact HB.out | apply zaf | apply zac | apply zad) | exact HB.out))) : w.heap.size ≤ gb121)); clear HB; have HB := n0_; have BK121 := n1_; have GW121 := n2_; have GE121 := n3_; clear n0_ n1_ n2_ n3_; clear hb hbox hg; have hcz17_0 : w16.cell? ⟨gb121, 0, none⟩ = some (.slice A0_0 l0_0.length c0_0) := (zab BK121.out 0).trans rfl; have hcz17_1 : w16.cell? ⟨gb121, 1, none⟩ = some (.slice A0_1 l0_1.length c0_1) := (zab BK121.out 1).trans rfl; have hcz17_2 : w16.cell? ⟨gb121, 2, none⟩ = some (.slice A0_2 l0_2.length c0_2) := (zab BK121.out 2).trans rfl; have hfz17_0 := zak BK121.out 0; have hfz17_1 := zak BK121.out 1; have hfz17_2 := zak BK121.out 2) | ((with_reducible refine zbo (f := 13) rfl ?_); refine zb5 (some 4) rfl rfl Try.func13 (by kernel_rfl) rfl #[.agg #[.slice A0_0 l0_0.length c0_0, .slice A0_1 l0_1.length c0_1, .slice A0_2 l0_2.length c0_2]] rfl (by (try simp only [List.map_toArray, List.map_cons, List.map_nil]); first | done | rfl | (simp only [List.length_drop, List.length_take]; rfl)) ?_; (with_reducible refine (za3.calls k _ _ l0_0 _ _ l0_1 _ _ l0_2 true _ ?side1 ?side2 ?side3 ?side4 ?side5 ?side6 A2.out).mono ?_); (case side1 => repeat (first | exact (Kd.zay HR0_0.out HB.out) | (with_reducible refine Kd.za2 ?_ _) | (with_reducible refine Kd.za1 ?_ _) | (with_reducible refine Kd.za7 ?_))); (case side2 => exact HC0_0.out); (case side3 => repeat (first | exact (Kd.zay HR0_1.out HB.out) | (with_reducible refine Kd.za2 ?_ _) | (with_reducible refine Kd.za1 ?_ _) | (with_reducible refine Kd.za7 ?_))); (case side4 => exact HC0_1.out); (case side5 => repeat (first | exact (Kd.zay HR0_2.out HB.out) | (with_reducible refine Kd.za2 ?_ _) | (with_reducible refine Kd.za1 ?_ _) | (with_reducible refine Kd.za7 ?_))); (case side6 => exact HC0_2.out); rintro e w18 ⟨rfl, hb⟩; refine ⟨_, rfl, ?_⟩; have n0_ := zaa.mk (zaq (g := gb121) (o := .cells #[.slice A0_0 l0_0.length c0_0, .slice A0_1 l0_1.length c0_1, .slice A0_2 l0_2.length c0_2] 25 (0, 0)) (by (with_reducible repeat (first | refine zai ?_ _ | refine zae ?_ | refine zah ?_ _)); exact BK121.out) hb); have n1_ := zaa.mk (zax (by repeat (first | (with_reducible first | exact HB.out | apply zaf | apply zac | apply zad | refine zaj ?_ GE121.out) | exact HB.out)) hb); clear BK121; clear HB; have BK121 := n0_; have HB := n1_; clear n0_ n1_; (try clear hb); (try clear hb2); (try clear hk); (try clear hi); have hcz19_0 : w18.cell? ⟨gb121, 0, none⟩ = some (.slice A0_0 l0_0.length c0_0) := (zab BK121.out 0).trans rfl; have hcz19_1 : w18.cell? ⟨gb121, 1, none⟩ = some (.slice A0_1 l0_1.length c0_1) := (zab BK121.out 1).trans rfl; have hcz19_2 : w18.cell? ⟨gb121, 2, none⟩ = some (.slice A0_2 l0_2.length c0_2) := (zab BK121.out 2).trans rfl; have hfz19_0 := zak BK121.out 0; have hfz19_1 := zak BK121.out 1; have hfz19_2 := zak BK121.out 2) | (go_at_call 14; (with_reducible refine (zam.calls k _ _ l0_0 _ _ l0_1 _ _ l0_2 true _ ?side1 ?side2 ?side3 ?side4 ?side5 ?side6 A4.out).mono ?_); (case side1 => repeat (first | exact (Kd.zay HR0_0.out HB.out) | (with_reducible refine Kd.za2 ?_ _) | (with_reducible refine Kd.za1 ?_ _) | (with_reducible refine Kd.za7 ?_))); (case side2 => exact HC0_0.out); (case side3 => repeat (first | exact (Kd.zay HR0_1.out HB.out) | (with_reducible refine Kd.za2 ?_ _) | (with_reducible refine Kd.za1 ?_ _) | (with_reducible refine Kd.za7 ?_))); (case side4 => exact HC0_1.out); (case side5 => repeat (first | exact (Kd.zay HR0_2.out HB.out) | (with_reducible refine Kd.za2 ?_ _) | (with_reducible refine Kd.za1 ?_ _) | (with_reducible refine Kd.za7 ?_))); (case side6 => exact HC0_2.out); rintro e w20 ⟨rfl, hb⟩; have n0_ := zaa.mk (zaq (g := gb121) (o := .cells #[.slice A0_0 l0_0.length c0_0, .slice A0_1 l0_1.length c0_1, .slice A0_2 l0_2.length c0_2] 25 (0, 0)) (by (with_reducible repeat (first | refine zai ?_ _ | refine zae ?_ | refine zah ?_ _)); exact BK121.out) hb); have n1_ := zaa.mk (zax (by repeat (first | (with_reducible first | exact HB.out | apply zaf | apply zac | apply zad | refine zaj ?_ GE121.out) | exact HB.out)) hb); clear BK121; clear HB; have BK121 := n0_; have HB := n1_; clear n0_ n1_; (try clear hb); (try clear hb2); (try clear hk); (try clear hi); have hcz21_0 : w20.cell? ⟨gb121, 0, none⟩ = some (.slice A0_0 l0_0.length c0_0) := (zab BK121.out 0).trans rfl; have hcz21_1 : w20.cell? ⟨gb121, 1, none⟩ = some (.slice A0_1 l0_1.length c0_1) := (zab BK121.out 1).trans rfl; have hcz21_2 : w20.cell? ⟨gb121, 2, none⟩ = some (.slice A0_2 l0_2.length c0_2) := (zab BK121.out 2).trans rfl; have hfz21_0 := zak BK121.out 0; have hfz21_1 := zak BK121.out 1; have hfz21_2 := zak BK121.out 2))
     go_ret
     exact ⟨by first | rfl | (simp [za6, za4] <;> rfl) | (simp [*, za6, za4] <;> rfl), by repeat (first | (with_reducible first | exact HB.out | apply zaf | apply zac | apply zad | refine zaj ?_ GE121.out) | exact HB.out)⟩
   ·rw [if_neg c6] at H
    have c6b0 : decide ((wrap64 ((l0_0.length : Int) + (l0_1.length : Int))) ≤ 16) = false := decide_eq_false c6
    clear c6
    obtain rfl := Option.some.inj H
    go_enter Try.func5, Try.ntmps5
    go_wp2_with (first | ((with_reducible refine zba (N := 1) rfl ?_); (try (refine zbc (by rfl) ?_; dsimp only)); refine za9 ?hg (N := 1) ?hd (cs := #[.slice A0_0 l0_0.length c0_0, .slice A0_1 l0_1.length c0_1, .slice A0_2 l0_2.length c0_2]) (t := 25) ?hr ?_; (case hd => rfl); (case hg => rfl); (case hr => first | (go_simp; done) | (go_simp; rfl)); intro gb121 hg w22 hbox hb; have n0_ := zaa.mk (zax (by repeat (first | (with_reducible first | exact HB.out | apply zaf | apply zac | apply zad) | exact HB.out)) hb); have n1_ := zaa.mk (hbox); have n2_ := zaa.mk ((by rw [hg]; exact (zat (by repeat (first | (with_reducible first | exact HB.out | apply zaf | apply zac | apply zad) | exact HB.out))) : w.heap.size ≤ gb121)); have n3_ := zaa.mk ((by rw [hg]; exact (zat (by repeat (first | (with_reducible first | exact HB.out | apply zaf | apply zac | apply zad) | exact HB.out))) : w.heap.size ≤ gb121)); clear HB; have HB := n0_; have BK121 := n1_; have GW121 := n2_; have GE121 := n3_; clear n0_ n1_ n2_ n3_; clear hb hbox hg; have hcz23_0 : w22.cell? ⟨gb121, 0, none⟩ = some (.slice A0_0 l0_0.length c0_0) := (zab BK121.out 0).trans rfl; have hcz23_1 : w22.cell? ⟨gb121, 1, none⟩ = some (.slice A0_1 l0_1.length c0_1) := (zab BK121.out 1).trans rfl; have hcz23_2 : w22.cell? ⟨gb121, 2, none⟩ = some (.slice A0_2 l0_2.length c0_2) := (zab BK121.out 2).trans rfl; have hfz23_0 := zak BK121.out 0; have hfz23_1 := zak BK121.out 1; have hfz23_2 := zak BK121.out 2) | ((with_reducible refine zbo (f := 13) rfl ?_); refine zb5 (some 4) rfl rfl Try.func13 (by kernel_rfl) rfl #[.agg #[.slice A0_0 l0_0.length c0_0, .slice A0_1 l0_1.length c0_1, .slice A0_2 l0_2.length c0_2]] rfl (by (try simp only [List.map_toArray, List.map_cons, List.map_nil]); first | done | rfl | (simp only [List.length_drop, List.length_take]; rfl)) ?_; (with_reducible refine (za3.calls k _ _ l0_0 _ _ l0_1 _ _ l0_2 true _ ?side1 ?side2 ?side3 ?side4 ?side5 ?side6 A2.out).mono ?_); (case side1 => repeat (first | exact (Kd.zay HR0_0.out HB.out) | (with_reducible refine Kd.za2 ?_ _) | (with_reducible refine Kd.za1 ?_ _) | (with_reducible refine Kd.za7 ?_))); (case side2 => exact HC0_0.out); (case side3 => repeat (first | exact (Kd.zay HR0_1.out HB.out) | (with_reducible refine Kd.za2 ?_ _) | (with_reducible refine Kd.za1 ?_ _) | (with_reducible refine Kd.za7 ?_))); (case side4 => exact HC0_1.out); (case side5 => repeat (first | exact (Kd.zay HR0_2.out HB.out) | (with_reducible refine Kd.za2 ?_ _) | (with_reducible refine Kd.za1 ?_ _) | (with_reducible refine Kd.za7 ?_))); (case side6 => exact HC0_2.out); rintro e w24 ⟨rfl, hb⟩; refine ⟨_, rfl, ?_⟩; have n0_ := zaa.mk (zaq (g := gb121) (o := .cells #[.slice A0_0 l0_0.length c0_0, .slice A0_1 l0_1.length c0_1, .slice A0_2 l0_2.length c0_2] 25 (0, 0)) (by (with_reducible repeat (first | refine zai ?_ _ | refine zae ?_ | refine zah ?_ _)); exact BK121.out) hb); have n1_ := zaa.mk (zax (by repeat (first | (with_reducible first | exact HB.out | apply zaf | apply zac | apply zad | refine zaj ?_ GE121.out) | exact HB.out)) hb); clear BK121; clear HB; have BK121 := n0_; have HB := n1_; clear n0_ n1_; (try clear hb); (try clear hb2); (try clear hk); (try clear hi); have hcz25_0 : w24.cell? ⟨gb121, 0, none⟩ = some (.slice A0_0 l0_0.length c0_0) := (zab BK121.out 0).trans rfl; have hcz25_1 : w24.cell? ⟨gb121, 1, none⟩ = some (.slice A0_1 l0_1.length c0_1) := (zab BK121.out 1).trans rfl; have hcz25_2 : w24.cell? ⟨gb121, 2, none⟩ = some (.slice A0_2 l0_2.length c0_2) := (zab BK121.out 2).trans rfl; have hfz25_0 := zak BK121.out 0; have hfz25_1 := zak BK121.out 1; have hfz25_2 := zak BK121.out 2) | (go_at_call 14; (with_reducible refine (zam.calls k _ _ l0_0 _ _ l0_1 _ _ l0_2 true _ ?side1 ?side2 ?side3 ?side4 ?side5 ?side6 A4.out).mono ?_); (case side1 => repeat (first | exact (Kd.zay HR0_0.out HB.out) | (with_reducible refine Kd.za2 ?_ _) | (with_reducible refine Kd.za1 ?_ _) | (with_reducible refine Kd.za7 ?_))); (case side2 => exact HC0_0.out); (case side3 => repeat (first | exact (Kd.zay HR0_1.out HB.out) | (with_reducible refine Kd.za2 ?_ _) | (with_reducible refine Kd.za1 ?_ _) | (with_reducible refine Kd.za7 ?_))); (case side4 => exact HC0_1.out); (case side5 => repeat (first | exact (Kd.zay HR0_2.out HB.out) | (with_reducible refine Kd.za2 ?_ _) | (with_reducible refine Kd.za1 ?_ _) | (with_reducible refine Kd.za7 ?_))); (case side6 => exact HC0_2.out); rintro e w26 ⟨rfl, hb⟩; have n0_ := zaa.mk (zaq (g := gb121) (o := .cells #[.slice A0_0 l0_0.length c0_0, .slice A0_1 l0_1.length c0_1, .slice A0_2 l0_2.length c0_2] 25 (0, 0)) (by (with_reducible repeat (first | refine zai ?_ _ | refine zae ?_ | refine zah ?_ _)); exact BK121.out) hb); have n1_ := zaa.mk (zax (by repeat (first | (with_reducible first | exact HB.out | apply zaf | apply zac | apply zad | refine zaj ?_ GE121.out) | exact HB.out)) hb); clear BK121; clear HB; have BK121 := n0_; have HB := n1_; clear n0_ n1_; (try clear hb); (try clear hb2); (try clear hk); (try clear hi); have hcz27_0 : w26.cell? ⟨gb121, 0, none⟩ = some (.slice A0_0 l0_0.length c0_0) := (zab BK121.out 0).trans rfl; have hcz27_1 : w26.cell? ⟨gb121, 1, none⟩ = some (.slice A0_1 l0_1.length c0_1) := (zab BK121.out 1).trans rfl; have hcz27_2 : w26.cell? ⟨gb121, 2, none⟩ = some (.slice A0_2 l0_2.length c0_2) := (zab BK121.out 2).trans rfl; have hfz27_0 := zak BK121.out 0; have hfz27_1 := zak BK121.out 1; have hfz27_2 := zak BK121.out 2))
    go_ret
    exact ⟨by first | rfl | (simp [za6, za4] <;> rfl) | (simp [*, za6, za4] <;> rfl), by repeat (first | (with_reducible first | exact HB.out | apply zaf | apply zac | apply zad | refine zaj ?_ GE121.out) | exact HB.out)⟩
  ·replace c5 := Bool.eq_false_iff.mpr c5
   subst c5
   have H1 : (some false) = some r := by rw [if_neg (show ¬ (false = true) by decide)] at H; exact H
   clear H
   have H := H1
   clear H1
   obtain rfl := Option.some.inj H
   go_enter Try.func5, Try.ntmps5
   go_wp2_with (first | ((with_reducible refine zba (N := 1) rfl ?_); (try (refine zbc (by rfl) ?_; dsimp only)); refine za9 ?hg (N := 1) ?hd (cs := #[.slice A0_0 l0_0.length c0_0, .slice A0_1 l0_1.length c0_1, .slice A0_2 l0_2.length c0_2]) (t := 25) ?hr ?_; (case hd => rfl); (case hg => rfl); (case hr => first | (go_simp; done) | (go_simp; rfl)); intro gb121 hg w28 hbox hb; have n0_ := zaa.mk (zax (by repeat (first | (with_reducible first | exact HB.out | apply zaf | apply zac | apply zad) | exact HB.out)) hb); have n1_ := zaa.mk (hbox); have n2_ := zaa.mk ((by rw [hg]; exact (zat (by repeat (first | (with_reducible first | exact HB.out | apply zaf | apply zac | apply zad) | exact HB.out))) : w.heap.size ≤ gb121)); have n3_ := zaa.mk ((by rw [hg]; exact (zat (by repeat (first | (with_reducible first | exact HB.out | apply zaf | apply zac | apply zad) | exact HB.out))) : w.heap.size ≤ gb121)); clear HB; have HB := n0_; have BK121 := n1_; have GW121 := n2_; have GE121 := n3_; clear n0_ n1_ n2_ n3_; clear hb hbox hg; have hcz29_0 : w28.cell? ⟨gb121, 0, none⟩ = some (.slice A0_0 l0_0.length c0_0) := (zab BK121.out 0).trans rfl; have hcz29_1 : w28.cell? ⟨gb121, 1, none⟩ = some (.slice A0_1 l0_1.length c0_1) := (zab BK121.out 1).trans rfl; have hcz29_2 : w28.cell? ⟨gb121, 2, none⟩ = some (.slice A0_2 l0_2.length c0_2) := (zab BK121.out 2).trans rfl; have hfz29_0 := zak BK121.out 0; have hfz29_1 := zak BK121.out 1; have hfz29_2 := zak BK121.out 2) | ((with_reducible refine zbo (f := 13) rfl ?_); refine zb5 (some 4) rfl rfl Try.func13 (by kernel_rfl) rfl #[.agg #[.slice A0_0 l0_0.length c0_0, .slice A0_1 l0_1.length c0_1, .slice A0_2 l0_2.length c0_2]] rfl (by (try simp only [List.map_toArray, List.map_cons, List.map_nil]); first | done | rfl | (simp only [List.length_drop, List.length_take]; rfl)) ?_; (with_reducible refine (za3.calls k _ _ l0_0 _ _ l0_1 _ _ l0_2 true _ ?side1 ?side2 ?side3 ?side4 ?side5 ?side6 A2.out).mono ?_); (case side1 => repeat (first | exact (Kd.zay HR0_0.out HB.out) | (with_reducible refine Kd.za2 ?_ _) | (with_reducible refine Kd.za1 ?_ _) | (with_reducible refine Kd.za7 ?_))); (case side2 => exact HC0_0.out); (case side3 => repeat (first | exact (Kd.zay HR0_1.out HB.out) | (with_reducible refine Kd.za2 ?_ _) | (with_reducible refine Kd.za1 ?_ _) | (with_reducible refine Kd.za7 ?_))); (case side4 => exact HC0_1.out); (case side5 => repeat (first | exact (Kd.zay HR0_2.out HB.out) | (with_reducible refine Kd.za2 ?_ _) | (with_reducible refine Kd.za1 ?_ _) | (with_reducible refine Kd.za7 ?_))); (case side6 => exact HC0_2.out); rintro e w30 ⟨rfl, hb⟩; refine ⟨_, rfl, ?_⟩; have n0_ := zaa.mk (zaq (g := gb121) (o := .cells #[.slice A0_0 l0_0.length c0_0, .slice A0_1 l0_1.length c0_1, .slice A0_2 l0_2.length c0_2] 25 (0, 0)) (by (with_reducible repeat (first | refine zai ?_ _ | refine zae ?_ | refine zah ?_ _)); exact BK121.out) hb); have n1_ := zaa.mk (zax (by repeat (first | (with_reducible first | exact HB.out | apply zaf | apply zac | apply zad | refine zaj ?_ GE121.out) | exact HB.out)) hb); clear BK121; clear HB; have BK121 := n0_; have HB := n1_; clear n0_ n1_; (try clear hb); (try clear hb2); (try clear hk); (try clear hi); have hcz31_0 : w30.cell? ⟨gb121, 0, none⟩ = some (.slice A0_0 l0_0.length c0_0) := (zab BK121.out 0).trans rfl; have hcz31_1 : w30.cell? ⟨gb121, 1, none⟩ = some (.slice A0_1 l0_1.length c0_1) := (zab BK121.out 1).trans rfl; have hcz31_2 : w30.cell? ⟨gb121, 2, none⟩ = some (.slice A0_2 l0_2.length c0_2) := (zab BK121.out 2).trans rfl; have hfz31_0 := zak BK121.out 0; have hfz31_1 := zak BK121.out 1; have hfz31_2 := zak BK121.out 2) | (go_at_call 14; (with_reducible refine (zam.calls k _ _ l0_0 _ _ l0_1 _ _ l0_2 false _ ?side1 ?side2 ?side3 ?side4 ?side5 ?side6 A4.out).mono ?_); (case side1 => repeat (first | exact (Kd.zay HR0_0.out HB.out) | (with_reducible refine Kd.za2 ?_ _) | (with_reducible refine Kd.za1 ?_ _) | (with_reducible refine Kd.za7 ?_))); (case side2 => exact HC0_0.out); (case side3 => repeat (first | exact (Kd.zay HR0_1.out HB.out) | (with_reducible refine Kd.za2 ?_ _) | (with_reducible refine Kd.za1 ?_ _) | (with_reducible refine Kd.za7 ?_))); (case side4 => exact HC0_1.out); (case side5 => repeat (first | exact (Kd.zay HR0_2.out HB.out) | (with_reducible refine Kd.za2 ?_ _) | (with_reducible refine Kd.za1 ?_ _) | (with_reducible refine Kd.za7 ?_))); (case side6 => exact HC0_2.out); rintro e w32 ⟨rfl, hb⟩; have n0_ := zaa.mk (zaq (g := gb121) (o := .cells #[.slice A0_0 l0_0.length c0_0, .slice A0_1 l0_1.length c0_1, .slice A0_2 l0_2.length c0_2] 25 (0, 0)) (by (with_reducible repeat (first | refine zai ?_ _ | refine zae ?_ | refine zah ?_ _)); exact BK121.out) hb); have n1_ := zaa.mk (zax (by repeat (first | (with_reducible first | exact HB.out | apply zaf | apply zac | apply zad | refine zaj ?_ GE121.out) | exact HB.out)) hb); clear BK121; clear HB; have BK121 := n0_; have HB := n1_; clear n0_ n1_; (try clear hb); (try clear hb2); (try clear hk); (try clear hi)))
   go_ret
   exact ⟨by first | rfl | (simp [za6, za4] <;> rfl) | (simp [*, za6, za4] <;> rfl), by repeat (first | (with_reducible first | exact HB.out | apply zaf | apply zac | apply zad | refine zaj ?_ GE121.out) | exact HB.out)⟩
 ·replace c3 := Bool.eq_false_iff.mpr c3
  subst c3
  have H1 : (some false) = some r := by rw [if_neg (show ¬ (false = true) by decide)] at H; exact H
  clear H
  have H := H1
  clear H1
  obtain rfl := Option.some.inj H
  go_enter Try.func5, Try.ntmps5
  go_wp2_with (first | ((with_reducible refine zba (N := 1) rfl ?_); (try (refine zbc (by rfl) ?_; dsimp only)); refine za9 ?hg (N := 1) ?hd (cs := #[.slice A0_0 l0_0.length c0_0, .slice A0_1 l0_1.length c0_1, .slice A0_2 l0_2.length c0_2]) (t := 25) ?hr ?_; (case hd => rfl); (case hg => rfl); (case hr => first | (go_simp; done) | (go_simp; rfl)); intro gb121 hg w33 hbox hb; have n0_ := zaa.mk (zax (by repeat (first | (with_reducible first | exact HB.out | apply zaf | apply zac | apply zad) | exact HB.out)) hb); have n1_ := zaa.mk (hbox); have n2_ := zaa.mk ((by rw [hg]; exact (zat (by repeat (first | (with_reducible first | exact HB.out | apply zaf | apply zac | apply zad) | exact HB.out))) : w.heap.size ≤ gb121)); have n3_ := zaa.mk ((by rw [hg]; exact (zat (by repeat (first | (with_reducible first | exact HB.out | apply zaf | apply zac | apply zad) | exact HB.out))) : w.heap.size ≤ gb121)); clear HB; have HB := n0_; have BK121 := n1_; have GW121 := n2_; have GE121 := n3_; clear n0_ n1_ n2_ n3_; clear hb hbox hg; have hcz34_0 : w33.cell? ⟨gb121, 0, none⟩ = some (.slice A0_0 l0_0.length c0_0) := (zab BK121.out 0).trans rfl; have hcz34_1 : w33.cell? ⟨gb121, 1, none⟩ = some (.slice A0_1 l0_1.length c0_1) := (zab BK121.out 1).trans rfl; have hcz34_2 : w33.cell? ⟨gb121, 2, none⟩ = some (.slice A0_2 l0_2.length c0_2) := (zab BK121.out 2).trans rfl; have hfz34_0 := zak BK121.out 0; have hfz34_1 := zak BK121.out 1; have hfz34_2 := zak BK121.out 2) | ((with_reducible refine zbo (f := 13) rfl ?_); refine zb5 (some 4) rfl rfl Try.func13 (by kernel_rfl) rfl #[.agg #[.slice A0_0 l0_0.length c0_0, .slice A0_1 l0_1.length c0_1, .slice A0_2 l0_2.length c0_2]] rfl (by (try simp only [List.map_toArray, List.map_cons, List.map_nil]); first | done | rfl | (simp only [List.length_drop, List.length_take]; rfl)) ?_; (with_reducible refine (za3.calls k _ _ l0_0 _ _ l0_1 _ _ l0_2 false _ ?side1 ?side2 ?side3 ?side4 ?side5 ?side6 A2.out).mono ?_); (case side1 => repeat (first | exact (Kd.zay HR0_0.out HB.out) | (with_reducible refine Kd.za2 ?_ _) | (with_reducible refine Kd.za1 ?_ _) | (with_reducible refine Kd.za7 ?_))); (case side2 => exact HC0_0.out); (case side3 => repeat (first | exact (Kd.zay HR0_1.out HB.out) | (with_reducible refine Kd.za2 ?_ _) | (with_reducible refine Kd.za1 ?_ _) | (with_reducible refine Kd.za7 ?_))); (case side4 => exact HC0_1.out); (case side5 => repeat (first | exact (Kd.zay HR0_2.out HB.out) | (with_reducible refine Kd.za2 ?_ _) | (with_reducible refine Kd.za1 ?_ _) | (with_reducible refine Kd.za7 ?_))); (case side6 => exact HC0_2.out); rintro e w35 ⟨rfl, hb⟩; refine ⟨_, rfl, ?_⟩; have n0_ := zaa.mk (zaq (g := gb121) (o := .cells #[.slice A0_0 l0_0.length c0_0, .slice A0_1 l0_1.length c0_1, .slice A0_2 l0_2.length c0_2] 25 (0, 0)) (by (with_reducible repeat (first | refine zai ?_ _ | refine zae ?_ | refine zah ?_ _)); exact BK121.out) hb); have n1_ := zaa.mk (zax (by repeat (first | (with_reducible first | exact HB.out | apply zaf | apply zac | apply zad | refine zaj ?_ GE121.out) | exact HB.out)) hb); clear BK121; clear HB; have BK121 := n0_; have HB := n1_; clear n0_ n1_; (try clear hb); (try clear hb2); (try clear hk); (try clear hi)))
  go_ret
  exact ⟨by first | rfl | (simp [za6, za4] <;> rfl) | (simp [*, za6, za4] <;> rfl), by repeat (first | (with_reducible first | exact HB.out | apply zaf | apply zac | apply zad | refine zaj ?_ GE121.out) | exact HB.out)⟩
def itE (x : S43) : Fl.I := (x.f0, x.f1, x.f2)
def prE (x : S46) : Fl.P := (x.f0, x.f1.map itE, x.f2)
theorem C_kI {w : World} {A : Option Addr} {n : Nat} {xs : List S43} (h : Kd.C k43 w A n xs) : Kd.C Fl.kI w A n (xs.map itE) := Fl.C_iso (d := Fl.kI) (f := itE) h
theorem C_kP {w : World} {A : Option Addr} {n : Nat} {xs : List S46} (h : Kd.C k46 w A n xs) : Kd.C Fl.kP w A n (xs.map prE) := by
 obtain ⟨h1, h2, h3⟩ := h
 refine ⟨by simpa using h1, h2, fun h0 => ?_⟩
 obtain ⟨ad, e, hc⟩ := h3 h0
 refine ⟨ad, e, fun j p hj => ?_⟩
 rw [List.getElem?_map] at hj
 cases hx : xs[j]? with
 | none => rw [hx] at hj; cases hj
 | some x =>
  rw [hx] at hj
  obtain rfl : prE x = p := by simpa using hj
  obtain ⟨c, hl, hK, hcell⟩ := hc j x hx
  obtain ⟨A1, c1, rfl, l1, g1⟩ := k46_open hK
  refine ⟨_, by rfl, ⟨[.int .i64 x.f0], [.slice A1 x.f1.length c1, .int .i64 x.f2], rfl, rfl, ⟨[.slice A1 x.f1.length c1], [.int .i64 x.f2], rfl, ⟨A1, c1, ?_, ?_, ?_⟩, rfl⟩⟩, hcell⟩
  ·show _ = [Value.slice A1 (x.f1.map itE).length c1]
   rw [List.length_map]
  ·show (x.f1.map itE).length ≤ c1
   rw [List.length_map]
   exact l1
  ·show Kd.C Fl.kI w A1 (x.f1.map itE).length (x.f1.map itE)
   rw [List.length_map]
   exact C_kI g1
def flOk (N n1 : Nat) (ps : List Fl.P) : Bool := decide (N ≤ 999999) && decide (1 ≤ n1) && ps.all fun p => decide (0 ≤ p.1) && decide (p.1 < N) && decide (p.2.1.length ≤ 1000) && p.2.1.all fun i => decide (0 ≤ i.1) && decide (i.1 < N)
theorem flOk_N {N n1 : Nat} {ps : List Fl.P} (h : flOk N n1 ps = true) : N ≤ 999999 ∧ 1 ≤ n1 := by
 simp only [flOk, Bool.and_eq_true, decide_eq_true_eq] at h
 exact h.1
theorem flOk_ps {N n1 : Nat} {ps : List Fl.P} (h : flOk N n1 ps = true) : ∀ p ∈ ps, Deri.PrOk N p ∧ p.2.1.length ≤ 1000 := by
 simp only [flOk, Bool.and_eq_true, decide_eq_true_eq, List.all_eq_true] at h
 intro p hp
 obtain ⟨⟨⟨h1, h2⟩, h3⟩, h4⟩ := h.2 p hp
 exact ⟨⟨h1, h2, fun i hi => h4 i hi⟩, h3⟩
theorem growMono {σ : Type} (step : σ → Fl.P → σ × Bool) (ps : List Fl.P) : ∀ (k : Nat) (s : σ), LeO (Grow.growV step ps k s) (Grow.growV step ps (k + 1) s)
 | 0, s => fun r h => by simp [Grow.growV] at h
 | k + 1, s => by
  show LeO (if _ then _ else _) (if _ then _ else _)
  exact LeO.ite (growMono step ps k _) (LeO.refl _)
theorem R_bools {W : World} {base g N : Nat} {bs : List Bool} (h1 : bs.length = N) (h2 : base ≤ g) (h3 : W.heap[g]? = some (.cells (bs.map Value.bool).toArray 4 (0, 0))) (h4 : N ≤ 1000000) : Kd.R Kd.bool 4 W base (fun _ => True) (.slice (some ⟨g, 0, none⟩) N N) bs := by
 refine Kd.R_of_own (enc := Value.bool) (h1 := fun _ => rfl) ?_ (fun _ _ => trivial)
 subst h1
 exact ⟨by simp [encs], .inr ⟨g, bs.length, (bs.map Value.bool).toArray, rfl, h2, h3, by simp, by simp [maxLen]; omega, by simp, by simp [encs, List.take_of_length_le]⟩⟩
def sets_Empty.f (k : Nat) (l0_0 l0_1 : List ByteArray) (l0_2 : List S46) : Option (List Bool) :=
 if flOk (l0_0.length + l0_1.length) l0_1.length (l0_2.map prE) = true then Grow.growV Deri.stepD (l0_2.map prE) k (List.replicate (l0_0.length + l0_1.length) false) else none
theorem sets_Empty.mono : ∀ a0 a1 a2 k, LeO (sets_Empty.f k a0 a1 a2) (sets_Empty.f (k + 1) a0 a1 a2) := fun _ _ _ _ => LeO.ite (growMono _ _ _ _) (LeO.none _)
theorem sets_Empty.calls (k : Nat) (A0_0 : Option Addr) (c0_0 : Nat) (l0_0 : List ByteArray) (A0_1 : Option Addr) (c0_1 : Nat) (l0_1 : List ByteArray) (A0_2 : Option Addr) (c0_2 : Nat) (l0_2 : List S46) (r : List Bool) (w : World) (hr0_0 : Kd.C Kd.string w A0_0 l0_0.length l0_0) (hc0_0 : l0_0.length ≤ c0_0) (hr0_1 : Kd.C Kd.string w A0_1 l0_1.length l0_1) (hc0_1 : l0_1.length ≤ c0_1) (hr0_2 : Kd.C k46 w A0_2 l0_2.length l0_2) (hc0_2 : l0_2.length ≤ c0_2) (h : sets_Empty.f k l0_0 l0_1 l0_2 = some r) :
  Calls Try.prog 26 #[.agg #[.slice A0_0 l0_0.length c0_0, .slice A0_1 l0_1.length c0_1, .slice A0_2 l0_2.length c0_2]] w fun e w' => ∃ v0_ : Value, e = .returned v0_ ∧ Kd.R Kd.bool 4 w' w.heap.size (fun _ => True) v0_ r ∧ Below w.heap.size w w' := by
 unfold sets_Empty.f at h
 split at h
 case isFalse => cases h
 rename_i hok
 have hl : (l0_2.map prE).length = l0_2.length := by simp
 have hc := Deri.empty_calls w A0_0 A0_1 A0_2 l0_0.length l0_1.length c0_0 c0_1 c0_2 _ rfl (l0_2.map prE) (by rw [hl]; exact C_kP hr0_2) (by have := (flOk_N hok).1; omega) (fun p hp => (flOk_ps hok p hp).1) k r h
 rw [hl] at hc
 refine hc.mono ?_
 rintro e w' ⟨g, rfl, h1, h2, h3, h4⟩
 exact ⟨_, rfl, R_bools h1 h2 h3 (by have := (flOk_N hok).1; omega), h4⟩
def lrT (x : S39) : LrK.Lr := (x.f0, x.f1, x.f2)
def lrS (x : LrK.Lr) : S39 := ⟨x.1, x.2.1, x.2.2⟩
theorem C_kLr {w : World} {A : Option Addr} {n : Nat} {xs : List S39} (h : Kd.C k39 w A n xs) : Kd.C LLex.kLr w A n (xs.map lrT) := Fl.C_iso (d := LLex.kLr) (f := lrT) h
theorem R_kLr {e : Nat} {w : World} {base : Nat} {ok : Nat → Prop} {v : Value} {r : List LrK.Lr} (h : Kd.R LLex.kLr e w base ok v r) : Kd.R k39 e w base ok v (r.map lrS) := LGiv.R_map (d' := k39) rfl (fun _ _ _ h => h) h
theorem R_kLrs {e : Nat} {w : World} {base : Nat} {ok : Nat → Prop} {v : Value} {r : List (List LrK.Lr)} (h : Kd.R LAll.kLs e w base ok v r) : Kd.R (Kd.slice 39 k39) e w base ok v (r.map (List.map lrS)) :=
 LGiv.R_map (d' := Kd.slice 39 k39) rfl (fun _ _ _ h => by obtain ⟨v, e, h⟩ := h; exact ⟨v, e, R_kLr h⟩) h
def lrsOk (l : List LrK.Lr) : Bool := l.all fun x => (Lit.int .i64 x.1).wf && ((Lit.int .i64 x.2.1).wf && (Lit.int .i64 x.2.2).wf)
theorem lrsOk_of {l : List LrK.Lr} (h : lrsOk l = true) : ∀ x ∈ l, LrK.lrOk x := by
 simp only [lrsOk, List.all_eq_true, Bool.and_eq_true] at h
 exact fun x hx => h x hx
def rdyV (k n0 n1 : Nat) (ps : List Fl.P) : Option (List Bool × List (List Int)) := (Grow.growV Deri.stepD ps k (List.replicate (n0 + n1) false)).bind fun em => (Grow.growV (Begin.stepF (n0 + n1) em) ps k (Begun.initV (n0 + n1) n0)).bind fun Ss => some (em, Ss)
theorem rdyV_mono (n0 n1 : Nat) (ps : List Fl.P) (k : Nat) : LeO (rdyV k n0 n1 ps) (rdyV (k + 1) n0 n1 ps) := LeO.bind (growMono _ _ _ _) (fun _ => LeO.bind (growMono _ _ _ _) (fun _ => LeO.refl _))
theorem rdy_of {F : LFlat.FG} {k : Nat} {q : List Bool × List (List Int)} (hok : flOk (F.ts.length + F.ns.length) F.ns.length F.ps = true) (hpl : F.ps.length ≤ 1000000) (h : rdyV k F.ts.length F.ns.length F.ps = some q) : LInv.Rdy F k q.1 q.2 := by
 obtain ⟨em, he, h⟩ := Option.bind_eq_some_iff.mp h
 obtain ⟨Ss, hs, h⟩ := Option.bind_eq_some_iff.mp h
 obtain rfl := Option.some.inj h
 exact ⟨(flOk_N hok).1, (flOk_N hok).2, hpl, flOk_ps hok, he, hs⟩
theorem fg_K {w : World} {A0_0 A0_1 A0_2 : Option Addr} {c0_0 c0_1 c0_2 : Nat} {l0_0 l0_1 : List ByteArray} {l0_2 : List S46} (hr0_0 : Kd.C Kd.string w A0_0 l0_0.length l0_0) (hc0_0 : l0_0.length ≤ c0_0) (hr0_1 : Kd.C Kd.string w A0_1 l0_1.length l0_1) (hc0_1 : l0_1.length ≤ c0_1) (hr0_2 : Kd.C k46 w A0_2 l0_2.length l0_2) (hc0_2 : l0_2.length ≤ c0_2) : LFlat.FG.K (⟨A0_0, A0_1, A0_2, c0_0, c0_1, c0_2, l0_0, l0_1, l0_2.map prE⟩ : LFlat.FG) w :=
 ⟨hr0_0, hc0_0, hr0_1, hc0_1, by show Kd.C Fl.kP w A0_2 (l0_2.map prE).length (l0_2.map prE); rw [List.length_map]; exact C_kP hr0_2, by show (l0_2.map prE).length ≤ c0_2; rw [List.length_map]; exact hc0_2⟩
def item_All.f (k : Nat) (l0_0 l0_1 : List ByteArray) (l0_2 : List S46) : Option (List (List S39) × Int) :=
 if flOk (l0_0.length + l0_1.length) l0_1.length (l0_2.map prE) = true ∧ l0_2.length ≤ 1000000 then (rdyV k l0_0.length l0_1.length (l0_2.map prE)).bind fun q => (LAll.startV l0_0.length (l0_2.map prE) q.1 q.2 k).bind fun S0 => if S0 = [] then none else
  (LAll.allV (LAll.gotoV l0_0.length (l0_2.map prE) q.1 q.2 k) (l0_0.length + l0_1.length) k 0 [S0]).bind fun res => some ((res.getD []).map (List.map lrS), LAll.errV res) else none
theorem item_All.mono : ∀ a0 a1 a2 k, LeO (item_All.f k a0 a1 a2) (item_All.f (k + 1) a0 a1 a2) := fun _ _ _ _ => LeO.ite (LeO.bind (rdyV_mono _ _ _ _) (fun _ => LeO.bind (LGiv.startV_mono _) (fun _ => LeO.ite (LeO.refl _) (LeO.bind (LGiv.allV_mono (fun _ _ => LGiv.gotoV_mono _ _ _) _ _ _ _) (fun _ => LeO.refl _))))) (LeO.none _)
theorem item_All.calls (k : Nat) (A0_0 : Option Addr) (c0_0 : Nat) (l0_0 : List ByteArray) (A0_1 : Option Addr) (c0_1 : Nat) (l0_1 : List ByteArray) (A0_2 : Option Addr) (c0_2 : Nat) (l0_2 : List S46) (r1 : List (List S39)) (r2 : Int) (w : World) (hr0_0 : Kd.C Kd.string w A0_0 l0_0.length l0_0) (hc0_0 : l0_0.length ≤ c0_0) (hr0_1 : Kd.C Kd.string w A0_1 l0_1.length l0_1) (hc0_1 : l0_1.length ≤ c0_1) (hr0_2 : Kd.C k46 w A0_2 l0_2.length l0_2) (hc0_2 : l0_2.length ≤ c0_2) (h : item_All.f k l0_0 l0_1 l0_2 = some (r1, r2)) :
  Calls Try.prog 7 #[.agg #[.slice A0_0 l0_0.length c0_0, .slice A0_1 l0_1.length c0_1, .slice A0_2 l0_2.length c0_2]] w fun e w' => ∃ v0_ : Value, e = .returned (.tuple #[v0_, .int .i64 r2]) ∧ Kd.N (Kd.slice 39 k39) 33 w' w.heap.size (fun _ => True) v0_ r1 ∧ Below w.heap.size w w' := by
 unfold item_All.f at h
 split at h
 case isFalse => cases h
 rename_i hok
 obtain ⟨q, hq, h⟩ := Option.bind_eq_some_iff.mp h
 obtain ⟨S0, hs, h⟩ := Option.bind_eq_some_iff.mp h
 split at h
 case isTrue => cases h
 rename_i hne
 obtain ⟨res, hr, h⟩ := Option.bind_eq_some_iff.mp h
 injection h with h
 injection h with h1 h2
 subst h1
 subst h2
 have hl : (l0_2.map prE).length = l0_2.length := by simp
 have hc := LAll.allF_calls (⟨A0_0, A0_1, A0_2, c0_0, c0_1, c0_2, l0_0, l0_1, l0_2.map prE⟩ : LFlat.FG) w (fg_K hr0_0 hc0_0 hr0_1 hc0_1 hr0_2 hc0_2) k q.1 q.2 (rdy_of hok.1 (by rw [hl]; exact hok.2) hq) (l0_0.length + l0_1.length) rfl S0 hs hne res hr
 simp only [LFlat.FG.val, LFlat.FG.row, hl] at hc
 refine hc.mono ?_
 rintro e w' ⟨v, n, rfl, rfl, hR, hB⟩
 exact ⟨v, rfl, Kd.R_N (R_kLrs hR), hB⟩
def zau.l0 : Nat → List (S39) → List (S39) → Int → Option (Bool)
 | 0, _, _, _ => none
 | k + 1, x0, x1, x5 => if x5 < (x0.length : Int) then (if 0 ≤ x5 then (if x5 < (x1.length : Int) then (if (!(((zas x0 x5).f0) == ((zas x1 x5).f0)) || (!(((zas x0 x5).f1) == ((zas x1 x5).f1)) || (!(((zas x0 x5).f2) == ((zas x1 x5).f2))))) = true then (some false) else (zau.l0 k x0 x1 (wrap64 (x5 + 1)))) else (none)) else (none)) else (some true)
def zau.f (k : Nat) (l0 : List (S39)) (l1 : List (S39)) : Option (Bool) := if (l0.length : Int) = (l1.length : Int) then (zau.l0 k l0 l1 0) else (some false)
theorem zau.zby : ∀ k, (∀ y0 y1 y2, LeO (zau.l0 k y0 y1 y2) (zau.l0 (k + 1) y0 y1 y2))
 | 0 => fun _ _ _ r h => by simp [zau.l0] at h
 | k + 1 => by
  have ih0 := zau.zby k
  ·intro y0 y1 y2
   unfold zau.l0
   repeat' first
   | (with_reducible exact ih0 _ _ _)
   | (with_reducible exact LeO.refl _)
   | (with_reducible exact LeO.none _)
   | (with_reducible refine LeO.ite ?_ ?_)
   | (with_reducible refine LeO.bind ?_ (fun _ => ?_))
   | exact ih0 _ _ _
   | exact LeO.none _
   | refine LeO.ite ?_ ?_
   | refine LeO.bind ?_ (fun _ => ?_)
theorem zau.mono : ∀ a0 a1 k, LeO (zau.f k a0 a1) (zau.f (k + 1) a0 a1) := by
 intro a0 a1 k
 have ih0 := zau.zby k
 unfold zau.f
 repeat' first
   | (with_reducible exact ih0 _ _ _)
   | (with_reducible exact LeO.refl _)
   | (with_reducible exact LeO.none _)
   | (with_reducible refine LeO.ite ?_ ?_)
   | (with_reducible refine LeO.bind ?_ (fun _ => ?_))
   | exact ih0 _ _ _
   | exact LeO.none _
   | refine LeO.ite ?_ ?_
   | refine LeO.bind ?_ (fun _ => ?_)
set_option maxHeartbeats 8000000 in
set_option maxRecDepth 100000 in
theorem zau.calls (k : Nat) (A0 : Option Addr) (c0 : Nat) (l0 : List (S39)) (A1 : Option Addr) (c1 : Nat) (l1 : List (S39)) (r : Bool) (w : World) (hr0 : Kd.C k39 w A0 l0.length l0) (hc0 : l0.length ≤ c0) (hr1 : Kd.C k39 w A1 l1.length l1) (hc1 : l1.length ≤ c1) (h : zau.f k l0 l1 = some r) :
  Calls Try.prog 8 #[.slice A0 l0.length c0, .slice A1 l1.length c1] w fun e w' => e = .returned (.bool r) ∧ za8 w w' := by
 have hu39 := Try.underlying39
 have HR0 := zaa.mk hr0
 have HC0 := zaa.mk hc0
 clear hr0 hc0
 have HR1 := zaa.mk hr1
 have HC1 := zaa.mk hc1
 clear hr1 hc1
 have H : (if (l0.length : Int) = (l1.length : Int) then (zau.l0 k l0 l1 0) else (some false)) = some r := h
 clear h
 by_cases c3 : (l0.length : Int) = (l1.length : Int)
 ·rw [if_pos c3] at H
  have c3b0 : ((l0.length : Int) == (l1.length : Int)) = true := beq_iff_eq.mpr c3
  have c3b1 : ((l0.length : Int) != (l1.length : Int)) = false := bne_eq_false_iff_eq.mpr c3
  have c3b2 : (l0.length == l1.length) = true := by first | simpa using c3 | (simp at c3 ⊢; omega)
  clear c3
  have H' := zaa.mk H
  clear H
  go_enter Try.func8, Try.ntmps8
  go_wp2
  repeat (go_quiet (fail); try go_wp2)
  go_loopg [5] k (fun kq v5 w' => ∃ (x5_1 : Int), v5 = .int .i64 x5_1 ∧ zaa (zau.l0 kq l0 l1 x5_1 = some r) ∧ zaa (kq ≤ k) ∧ za8 w w')
  case atStart => exact ⟨(0), (by first | rfl | (simp; done) | (simp [*]; done)), H', ⟨Nat.le_refl _⟩, by repeat (first | exact za8.refl _ | apply za8.step)⟩
  case round =>
   clear H'
   try clear c1
   try clear p2
   try clear c3
   try clear c3b0
   try clear c3b1
   try clear c3b2
   obtain ⟨x5_1, rfl, HA, HK1, ⟨m1, rfl⟩⟩ := hrel
   cases gk with
   | zero => exact absurd HA.out (by simp [zau.l0])
   | succ k1 =>
    have H := HA.out
    clear HA
    simp only [zau.l0] at H
    by_cases c4 : x5_1 < (l0.length : Int)
    ·rw [if_pos c4] at H
     have c4b0 : decide (x5_1 < (l0.length : Int)) = true := decide_eq_true c4
     clear c4
     by_cases c5 : 0 ≤ x5_1
     ·rw [if_pos c5] at H
      have c5b0 : decide (0 ≤ x5_1) = true := decide_eq_true c5
      clear c5
      by_cases c6 : x5_1 < (l1.length : Int)
      ·rw [if_pos c6] at H
       have c6b0 : decide (x5_1 < (l1.length : Int)) = true := decide_eq_true c6
       clear c6
       by_cases c7 : (!(((zas l0 x5_1).f0) == ((zas l1 x5_1).f0)) || (!(((zas l0 x5_1).f1) == ((zas l1 x5_1).f1)) || (!(((zas l0 x5_1).f2) == ((zas l1 x5_1).f2))))) = true
       ·rw [if_pos c7] at H
        have c7b0 : (!(((zas l0 x5_1).f0) == ((zas l1 x5_1).f0)) || (!(((zas l0 x5_1).f1) == ((zas l1 x5_1).f1)) || (!(((zas l0 x5_1).f2) == ((zas l1 x5_1).f2))))) = true := c7
        clear c7
        obtain rfl := Option.some.inj H
        have p125 : 0 ≤ (x5_1 : Int) := of_decide_eq_true (by first | (with_reducible assumption) | assumption)
        have q125 : x5_1 < (l0.length : Int) := of_decide_eq_true (by first | (with_reducible assumption) | assumption)
        obtain ⟨ad125, e125, hx125_0, hx125_1, hx125_2⟩ := at_T39 HR0.out x5_1 p125 q125
        cases e125
        replace p125 := eq_true p125
        replace q125 := eq_true q125
        have p126 : 0 ≤ (x5_1 : Int) := of_decide_eq_true (by first | (with_reducible assumption) | assumption)
        have q126 : x5_1 < (l1.length : Int) := of_decide_eq_true (by first | (with_reducible assumption) | assumption)
        obtain ⟨ad126, e126, hx126_0, hx126_1, hx126_2⟩ := at_T39 HR1.out x5_1 p126 q126
        cases e126
        replace p126 := eq_true p126
        replace q126 := eq_true q126
        go_wp2
        repeat (go_quiet (fail); try go_wp2)
        go_ret
        exact ⟨by first | rfl | (simp; done) | (simp [*]; done), by repeat (first | exact za8.refl _ | apply za8.step)⟩
       ·rw [if_neg c7] at H
        have c7b0 : (!(((zas l0 x5_1).f0) == ((zas l1 x5_1).f0)) || (!(((zas l0 x5_1).f1) == ((zas l1 x5_1).f1)) || (!(((zas l0 x5_1).f2) == ((zas l1 x5_1).f2))))) = false := by simpa using c7
        clear c7
        have H' := zaa.mk H
        clear H
        have p125 : 0 ≤ (x5_1 : Int) := of_decide_eq_true (by first | (with_reducible assumption) | assumption)
        have q125 : x5_1 < (l0.length : Int) := of_decide_eq_true (by first | (with_reducible assumption) | assumption)
        obtain ⟨ad125, e125, hx125_0, hx125_1, hx125_2⟩ := at_T39 HR0.out x5_1 p125 q125
        cases e125
        replace p125 := eq_true p125
        replace q125 := eq_true q125
        have p126 : 0 ≤ (x5_1 : Int) := of_decide_eq_true (by first | (with_reducible assumption) | assumption)
        have q126 : x5_1 < (l1.length : Int) := of_decide_eq_true (by first | (with_reducible assumption) | assumption)
        obtain ⟨ad126, e126, hx126_0, hx126_1, hx126_2⟩ := at_T39 HR1.out x5_1 p126 q126
        cases e126
        replace p126 := eq_true p126
        replace q126 := eq_true q126
        go_wp2
        repeat (go_quiet (fail); try go_wp2)
        go_roundg k1
        case measure => have := HK1.out; omega
        case rel => exact ⟨(wrap64 (x5_1 + 1)), (by first | rfl | (simp; done) | (simp [*]; done)), H', ⟨by have := HK1.out; omega⟩, by repeat (first | exact za8.refl _ | apply za8.step)⟩
      ·rw [if_neg c6] at H
       exact absurd H (by simp)
     ·rw [if_neg c5] at H
      exact absurd H (by simp)
    ·rw [if_neg c4] at H
     have c4b0 : decide (x5_1 < (l0.length : Int)) = false := decide_eq_false c4
     clear c4
     obtain rfl := Option.some.inj H
     go_wp2
     repeat (go_quiet (fail); try go_wp2)
     go_ret
     exact ⟨by first | rfl | (simp; done) | (simp [*]; done), by repeat (first | exact za8.refl _ | apply za8.step)⟩
 ·rw [if_neg c3] at H
  have c3b0 : ((l0.length : Int) == (l1.length : Int)) = false := beq_eq_false_iff_ne.mpr c3
  have c3b1 : ((l0.length : Int) != (l1.length : Int)) = true := bne_iff_ne.mpr c3
  have c3b2 : (l0.length == l1.length) = false := by first | simpa using c3 | (simp at c3 ⊢; omega)
  obtain rfl := Option.some.inj H
  go_enter Try.func8, Try.ntmps8
  go_wp2
  repeat (go_quiet (fail); try go_wp2)
  go_ret
  exact ⟨by first | rfl | (simp; done) | (simp [*]; done), by repeat (first | exact za8.refl _ | apply za8.step)⟩
def item_First.f (k : Nat) (l0_0 l0_1 : List ByteArray) (l0_2 : List S46) : Option (List S39) :=
 if flOk (l0_0.length + l0_1.length) l0_1.length (l0_2.map prE) = true ∧ l0_2.length ≤ 1000000 then (rdyV k l0_0.length l0_1.length (l0_2.map prE)).bind fun q => (LAll.startV l0_0.length (l0_2.map prE) q.1 q.2 k).bind fun r => some (r.map lrS) else none
theorem item_First.mono : ∀ a0 a1 a2 k, LeO (item_First.f k a0 a1 a2) (item_First.f (k + 1) a0 a1 a2) := fun _ _ _ _ => LeO.ite (LeO.bind (rdyV_mono _ _ _ _) (fun _ => LeO.bind (LGiv.startV_mono _) (fun _ => LeO.refl _))) (LeO.none _)
theorem item_First.calls (k : Nat) (A0_0 : Option Addr) (c0_0 : Nat) (l0_0 : List ByteArray) (A0_1 : Option Addr) (c0_1 : Nat) (l0_1 : List ByteArray) (A0_2 : Option Addr) (c0_2 : Nat) (l0_2 : List S46) (r : List S39) (w : World) (hr0_0 : Kd.C Kd.string w A0_0 l0_0.length l0_0) (hc0_0 : l0_0.length ≤ c0_0) (hr0_1 : Kd.C Kd.string w A0_1 l0_1.length l0_1) (hc0_1 : l0_1.length ≤ c0_1) (hr0_2 : Kd.C k46 w A0_2 l0_2.length l0_2) (hc0_2 : l0_2.length ≤ c0_2) (h : item_First.f k l0_0 l0_1 l0_2 = some r) :
  Calls Try.prog 9 #[.agg #[.slice A0_0 l0_0.length c0_0, .slice A0_1 l0_1.length c0_1, .slice A0_2 l0_2.length c0_2]] w fun e w' => ∃ v0_ : Value, e = .returned v0_ ∧ Kd.R k39 39 w' w.heap.size (fun _ => True) v0_ r ∧ Below w.heap.size w w' := by
 unfold item_First.f at h
 split at h
 case isFalse => cases h
 rename_i hok
 obtain ⟨q, hq, h⟩ := Option.bind_eq_some_iff.mp h
 obtain ⟨r', hr, h⟩ := Option.bind_eq_some_iff.mp h
 obtain rfl := Option.some.inj h
 obtain ⟨r0, hr0, rfl⟩ := Option.map_eq_some_iff.1 hr
 have hl : (l0_2.map prE).length = l0_2.length := by simp
 have hc := LStep.firstF_calls (⟨A0_0, A0_1, A0_2, c0_0, c0_1, c0_2, l0_0, l0_1, l0_2.map prE⟩ : LFlat.FG) w (fg_K hr0_0 hc0_0 hr0_1 hc0_1 hr0_2 hc0_2) k q.1 q.2 (rdy_of hok.1 (by rw [hl]; exact hok.2) hq) r0 hr0
 simp only [LFlat.FG.val, LFlat.FG.row, hl] at hc
 refine hc.mono ?_
 rintro e w' ⟨v, rfl, hR, hB⟩
 exact ⟨v, rfl, R_kLr hR, hB⟩
def item_Goto.f (k : Nat) (l0_0 l0_1 : List ByteArray) (l0_2 : List S46) (l1 : List S39) (a2 : Int) : Option (List S39) :=
 if flOk (l0_0.length + l0_1.length) l0_1.length (l0_2.map prE) = true ∧ l0_2.length ≤ 1000000 ∧ l1.length ≤ 1000000000 then (rdyV k l0_0.length l0_1.length (l0_2.map prE)).bind fun q => (LAll.gotoV l0_0.length (l0_2.map prE) q.1 q.2 k (l1.map lrT) a2).bind fun r => some (r.map lrS) else none
theorem item_Goto.mono : ∀ a0 a1 a2 a3 a4 k, LeO (item_Goto.f k a0 a1 a2 a3 a4) (item_Goto.f (k + 1) a0 a1 a2 a3 a4) := fun _ _ _ _ _ _ => LeO.ite (LeO.bind (rdyV_mono _ _ _ _) (fun _ => LeO.bind (LGiv.gotoV_mono _ _ _) (fun _ => LeO.refl _))) (LeO.none _)
theorem item_Goto.calls (k : Nat) (A0_0 : Option Addr) (c0_0 : Nat) (l0_0 : List ByteArray) (A0_1 : Option Addr) (c0_1 : Nat) (l0_1 : List ByteArray) (A0_2 : Option Addr) (c0_2 : Nat) (l0_2 : List S46) (A1 : Option Addr) (c1 : Nat) (l1 : List S39) (a2 : Int) (r : List S39) (w : World) (hr0_0 : Kd.C Kd.string w A0_0 l0_0.length l0_0) (hc0_0 : l0_0.length ≤ c0_0) (hr0_1 : Kd.C Kd.string w A0_1 l0_1.length l0_1) (hc0_1 : l0_1.length ≤ c0_1) (hr0_2 : Kd.C k46 w A0_2 l0_2.length l0_2) (hc0_2 : l0_2.length ≤ c0_2) (hr1 : Kd.C k39 w A1 l1.length l1) (hc1 : l1.length ≤ c1) (h : item_Goto.f k l0_0 l0_1 l0_2 l1 a2 = some r) :
  Calls Try.prog 11 #[.agg #[.slice A0_0 l0_0.length c0_0, .slice A0_1 l0_1.length c0_1, .slice A0_2 l0_2.length c0_2], .slice A1 l1.length c1, .int .i64 a2] w fun e w' => ∃ v0_ : Value, e = .returned v0_ ∧ Kd.R k39 39 w' w.heap.size (fun _ => True) v0_ r ∧ Below w.heap.size w w' := by
 unfold item_Goto.f at h
 split at h
 case isFalse => cases h
 rename_i hok
 obtain ⟨q, hq, h⟩ := Option.bind_eq_some_iff.mp h
 obtain ⟨r', hr, h⟩ := Option.bind_eq_some_iff.mp h
 obtain rfl := Option.some.inj h
 obtain ⟨r0, hr0, rfl⟩ := Option.map_eq_some_iff.1 hr
 have hl : (l0_2.map prE).length = l0_2.length := by simp
 have hl1 : (l1.map lrT).length = l1.length := by simp
 have hc := LStep.gotoF_calls (⟨A0_0, A0_1, A0_2, c0_0, c0_1, c0_2, l0_0, l0_1, l0_2.map prE⟩ : LFlat.FG) w (fg_K hr0_0 hc0_0 hr0_1 hc0_1 hr0_2 hc0_2) k q.1 q.2 (rdy_of hok.1 (by rw [hl]; exact hok.2.1) hq) (l1.map lrT) A1 c1 a2 (by rw [hl1]; exact C_kLr hr1) (by rw [hl1]; exact hok.2.2) r0 hr0
 simp only [LFlat.FG.val, LFlat.FG.row, hl, hl1] at hc
 refine hc.mono ?_
 rintro e w' ⟨v, rfl, hR, hB⟩
 exact ⟨v, rfl, R_kLr hR, hB⟩
def zbu.f : Option Bool := some true
theorem zbu.calls (r : Bool) (w : World) (h : zbu.f = some r) :
  Calls Try.prog 6 #[] w fun e w' => e = .returned (.bool r) ∧ Below w.heap.size w w' := by
 obtain rfl : true = r := by injection h
 exact LAwake.awake_calls w
def zbj.f (k : Nat) (l0_0 l0_1 : List ByteArray) (l0_2 : List S46) (l1 : List S39) : Option (List S39) :=
 if flOk (l0_0.length + l0_1.length) l0_1.length (l0_2.map prE) = true ∧ l0_2.length ≤ 1000000 ∧ lrsOk (l1.map lrT) = true then (rdyV k l0_0.length l0_1.length (l0_2.map prE)).bind fun q => (LClos.closV l0_0.length (l0_2.map prE) q.1 q.2 k [] (l1.map lrT)).bind fun r => some ((LClos.srtL r).map lrS) else none
theorem zbj.mono : ∀ a0 a1 a2 a3 k, LeO (zbj.f k a0 a1 a2 a3) (zbj.f (k + 1) a0 a1 a2 a3) := fun _ _ _ _ _ => LeO.ite (LeO.bind (rdyV_mono _ _ _ _) (fun _ => LeO.bind (LGiv.closV_mono _ _ _) (fun _ => LeO.refl _))) (LeO.none _)
theorem zbj.calls (k : Nat) (A0_0 : Option Addr) (c0_0 : Nat) (l0_0 : List ByteArray) (A0_1 : Option Addr) (c0_1 : Nat) (l0_1 : List ByteArray) (A0_2 : Option Addr) (c0_2 : Nat) (l0_2 : List S46) (A1 : Option Addr) (c1 : Nat) (l1 : List S39) (r : List S39) (w : World) (hr0_0 : Kd.C Kd.string w A0_0 l0_0.length l0_0) (hc0_0 : l0_0.length ≤ c0_0) (hr0_1 : Kd.C Kd.string w A0_1 l0_1.length l0_1) (hc0_1 : l0_1.length ≤ c0_1) (hr0_2 : Kd.C k46 w A0_2 l0_2.length l0_2) (hc0_2 : l0_2.length ≤ c0_2) (hr1 : Kd.C k39 w A1 l1.length l1) (hc1 : l1.length ≤ c1) (h : zbj.f k l0_0 l0_1 l0_2 l1 = some r) :
  Calls Try.prog 12 #[.agg #[.slice A0_0 l0_0.length c0_0, .slice A0_1 l0_1.length c0_1, .slice A0_2 l0_2.length c0_2], .slice A1 l1.length c1] w fun e w' => ∃ v0_ : Value, e = .returned v0_ ∧ Kd.R k39 39 w' w.heap.size (fun _ => True) v0_ r ∧ Below w.heap.size w w' := by
 unfold zbj.f at h
 split at h
 case isFalse => cases h
 rename_i hok
 obtain ⟨q, hq, h⟩ := Option.bind_eq_some_iff.mp h
 obtain ⟨r', hr, h⟩ := Option.bind_eq_some_iff.mp h
 obtain rfl := Option.some.inj h
 have hl : (l0_2.map prE).length = l0_2.length := by simp
 have hl1 : (l1.map lrT).length = l1.length := by simp
 have hc := LStep.closureF_calls (⟨A0_0, A0_1, A0_2, c0_0, c0_1, c0_2, l0_0, l0_1, l0_2.map prE⟩ : LFlat.FG) w (fg_K hr0_0 hc0_0 hr0_1 hc0_1 hr0_2 hc0_2) k q.1 q.2 (rdy_of hok.1 (by rw [hl]; exact hok.2.1) hq) (l1.map lrT) A1 c1 (by rw [hl1]; exact C_kLr hr1) (lrsOk_of hok.2.2) r' hr
 simp only [LFlat.FG.val, LFlat.FG.row, hl, hl1] at hc
 refine hc.mono ?_
 rintro e w' ⟨v, rfl, hR, hB⟩
 exact ⟨v, rfl, R_kLr hR, hB⟩
end Go.Proofs.Ytgdmjpehofdnpaa.PItemCloses
end
