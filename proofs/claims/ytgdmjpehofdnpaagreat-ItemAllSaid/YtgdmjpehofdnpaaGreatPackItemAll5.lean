import Derived.Test.YtgdmjpehofdnpaaGreatPackItemAll4
set_option linter.unusedVariables false
set_option linter.unusedSimpArgs false
set_option maxRecDepth 100000
set_option maxHeartbeats 8000000
section
namespace Go.Proofs.ZZ.PItemAll
open Go.RowKit Go.Proofs.ZW.PrintWords Go.Proofs.ZW.PrintLast Go.Proofs.ZW.PrintMore
section
end
attribute [local go_sem high] eqA50
theorem Yb_PItemAllx7_0 {n : Nat} {w w' : World} (h : Below n w w' := by repeat (first | (with_reducible first | exact HB.out | apply za5 | apply zau | apply zar | refine za9 ?_ GE156.out) | exact HB.out)) : Below n w w' := h
def zaq.l0 : Nat → List (S50) → Int → Int → Int → Int → Option ((List (S50)))
 | 0, _, _, _, _, _ => none
 | k + 1, x0, x5, x157000, x157001, x157002 => if x5 < (x0.length : Int) then (if 0 ≤ x5 then ((zcj.f ((zae x0 x5).f0) ((zae x0 x5).f1) ((zae x0 x5).f2) x157000 x157001 x157002).bind fun t158 => (if t158 = true then (zaq.l0 k x0 (wrap64 (x5 + 1)) x157000 x157001 x157002) else (if (((zae x0 x5).f0) == x157000 && (((zae x0 x5).f1) == x157001 && (((zae x0 x5).f2) == x157002))) = true then (some x0) else (if x5 ≤ (x0.length : Int) then ((some (x0.take (x5 : Int).toNat : List (S50))).bind fun y160 => (if ([] : List (S50)).length + y160.length < 5864062014805 then ((some (([] : List (S50)) ++ y160 : List (S50))).bind fun y164 => (if y164.length < 5864062014805 then ((some (y164 ++ [(⟨x157000, x157001, x157002⟩ : S50)] : List (S50))).bind fun y167 => ((some (x0.drop (x5 : Int).toNat : List (S50))).bind fun y170 => (if y167.length + y170.length < 5864062014805 then (some (y167 ++ y170)) else (none)))) else (none))) else (none))) else (none))))) else (none)) else (if 0 ≤ x5 then (if x5 ≤ (x0.length : Int) then ((some (x0.take (x5 : Int).toNat : List (S50))).bind fun y177 => (if ([] : List (S50)).length + y177.length < 5864062014805 then ((some (([] : List (S50)) ++ y177 : List (S50))).bind fun y181 => (if y181.length < 5864062014805 then ((some (y181 ++ [(⟨x157000, x157001, x157002⟩ : S50)] : List (S50))).bind fun y184 => ((some (x0.drop (x5 : Int).toNat : List (S50))).bind fun y187 => (if y184.length + y187.length < 5864062014805 then (some (y184 ++ y187)) else (none)))) else (none))) else (none))) else (none)) else (none))
def zaq.f (k : Nat) (l0 : List (S50)) (a1_0 : Int) (a1_1 : Int) (a1_2 : Int) : Option ((List (S50))) := zaq.l0 k l0 0 a1_0 a1_1 a1_2
def zaq.T2 : Bool × List (List Nat × List Nat) := (true, [([], []), ([], []), ([1], [1]), ([0, 2], [0, 2]), ([3], [3]), ([4], [4]), ([4], [4]), ([5, 6, 4], [4, 5, 6]), ([7, 4], [4, 7]), ([4], [4]), ([8, 9, 4, 4], [4, 8, 9]), ([4, 10], [4, 10])])
def zaq.B2 : List Nat := [0, 0, 2, 7, 15, 31, 31, 127, 255, 31, 1023, 2047]
theorem zaq.tab2 : rtab .any (opsOf Tryz.f40 2) = zaq.T2 := by kernel_rfl
theorem zaq.bits2 : zdh zaq.T2.2 zaq.B2 = true := by kernel_rfl
def zaq.T4 : Bool × List (List Nat × List Nat) := (true, [([], []), ([], []), ([1], [1]), ([0, 2], [0, 2]), ([3], [3]), ([4], [4]), ([4], [4]), ([5, 6, 4], [4, 5, 6]), ([7, 4], [4, 7]), ([4], [4]), ([8, 9, 4], [4, 8, 9]), ([4, 10], [4, 10])])
def zaq.B4 : List Nat := [0, 0, 2, 7, 15, 31, 31, 127, 255, 31, 1023, 2047]
theorem zaq.tab4 : rtab .any (opsOf Tryz.f40 4) = zaq.T4 := by kernel_rfl
theorem zaq.bits4 : zdh zaq.T4.2 zaq.B4 = true := by kernel_rfl
theorem zaq.calls (k : Nat) (P0_ : Nat → Prop) (u9000_ : Value) (l0 : List (S50)) (a1_0 : Int) (a1_1 : Int) (a1_2 : Int) (r : List (S50)) (w0 w : World) (hB : Below w0.heap.size w0 w) (ho0 : Kd.R k50 50 w w0.heap.size P0_ u9000_ l0) (h : zaq.f k l0 a1_0 a1_1 a1_2 = some r) :
  Calls Tryz.prog 40 #[u9000_, .agg #[.int .i64 a1_0, .int .i64 a1_1, .int .i64 a1_2]] w fun e w' => ∃ v0_ : Value, e = .returned (v0_) ∧ Kd.R k50 50 w' w0.heap.size (fun k_ => (P0_ k_ ∨ w.heap.size ≤ k_)) v0_ r ∧ Below w0.heap.size w0 w' ∧ Kept w w' (fun k_ => P0_ k_) := by
 have hu50 := Tryz.underlying50
 have HO0 := zaa.mk (show Kd.R k50 50 w w0.heap.size (fun k_ => (P0_ k_ ∨ w.heap.size ≤ k_)) u9000_ l0 from Kd.za7 ho0 (fun k_ hk => (.inl hk)))
 have HK := zaa.mk (Kept.refl w (fun k_ => P0_ k_))
 have HW0 := zaa.mk hB.size
 have HB := zaa.mk hB;clear hB
 have H : (zaq.l0 k l0 0 a1_0 a1_1 a1_2) = some r := h
 clear h
 have H' := zaa.mk H
 clear H
 go_enter Tryz.func40, Tryz.ntmps40
 go_wp2_with (first | ((with_reducible refine zat (N := 3) rfl ?_); refine Ybx 3 #[.int .i64 a1_0, .int .i64 a1_1, .int .i64 a1_2] 50 ?_; intro gb156 hg w3 hbox hb; replace HO0 := zaa.mk (Kd.zbg (Kd.R_elderB (Yr HO0) gb156 (Nat.le_of_eq hg.symm)) hb); have BK156 := zaa.mk (hbox); have GW156 := zaa.mk ((by rw [hg]; exact (by first | exact HK.out.1 | exact (show Kept w _ (fun k_ => P0_ k_) from by repeat (first | (with_reducible first | exact HK.out | apply Kept.alloc | apply Kept.drewN | apply Kept.drew) | exact HK.out)).1) : w.heap.size ≤ gb156)); replace HK := zaa.mk (Kept.below (S := (fun k_ => P0_ k_)) (by repeat (first | (with_reducible first | exact HK.out | apply Kept.alloc | apply Kept.drewN | apply Kept.drew) | exact HK.out)) hb); have GE156 := zaa.mk ((by rw [hg]; exact (za0 Ybe) : w0.heap.size ≤ gb156)); replace HB := zaa.mk (zay Ybe hb); clear hb hbox hg))
 go_loopg [5] k (fun kq v5 w' => ∃ (x5_1 : Int), v5 = .int .i64 x5_1 ∧ zaa (zaq.l0 kq l0 x5_1 a1_0 a1_1 a1_2 = some r) ∧ zaa (kq ≤ k) ∧ zaa (Kd.R k50 50 w' w0.heap.size (fun k_ => (P0_ k_ ∨ w.heap.size ≤ k_) ∧ k_ ≠ gb156) u9000_ l0) ∧ zaa (w'.heap[gb156]? = some (.cells #[.int .i64 a1_0, .int .i64 a1_1, .int .i64 a1_2] 50 (0, 0))) ∧ zaa (Kept w w' (fun k_ => P0_ k_)) ∧ zaa (Below w0.heap.size w0 w'))
 case atStart => exact ⟨(0), Yfs, H', ⟨Nat.le_refl _⟩, ⟨Yr HO0⟩, ⟨Yg BK156⟩, ⟨by repeat (first | (with_reducible first | exact HK.out | apply Kept.alloc | apply Kept.drewN | apply Kept.drew | refine Kept.setCell ?_ (.inr GW156.out) _) | exact HK.out)⟩, ⟨Yb_PItemAllx7_0⟩⟩
 case round =>
  clear H'
  obtain ⟨x5_1, rfl, HA, HK1, HO_0, BK156, HK, HB⟩ := hrel
  cases gk with
  | zero => exact absurd HA.out (by simp [zaq.l0])
  | succ k1 =>
   have H := HA.out;clear HA
   simp only [zaq.l0] at H
   by_cases c4 : x5_1 < (l0.length : Int)
   ·rw [if_pos c4] at H
    have c4b0 := decide_eq_true c4
    clear c4
    by_cases c5 : 0 ≤ x5_1
    ·rw [if_pos c5] at H
     have c5b0 := decide_eq_true c5
     clear c5;replace H := Option.bind_eq_some_iff.mp H
     obtain ⟨t158, A60, H⟩ := H
     replace H : (if t158 = true then (zaq.l0 k1 l0 (wrap64 (x5_1 + 1)) a1_0 a1_1 a1_2) else (if (((zae l0 x5_1).f0) == a1_0 && (((zae l0 x5_1).f1) == a1_1 && (((zae l0 x5_1).f2) == a1_2))) = true then (some l0) else (if x5_1 ≤ (l0.length : Int) then ((some (l0.take (x5_1 : Int).toNat : List (S50))).bind fun y160 => (if ([] : List (S50)).length + y160.length < 5864062014805 then ((some (([] : List (S50)) ++ y160 : List (S50))).bind fun y164 => (if y164.length < 5864062014805 then ((some (y164 ++ [(⟨a1_0, a1_1, a1_2⟩ : S50)] : List (S50))).bind fun y167 => ((some (l0.drop (x5_1 : Int).toNat : List (S50))).bind fun y170 => (if y167.length + y170.length < 5864062014805 then (some (y167 ++ y170)) else (none)))) else (none))) else (none))) else (none)))) = some r := H
     have A6 := zaa.mk A60;clear A60
     by_cases c7 : t158 = true
     ·subst c7
      have H1 : (zaq.l0 k1 l0 (wrap64 (x5_1 + 1)) a1_0 a1_1 a1_2) = some r := by rw [if_pos rfl] at H; exact H
      clear H;have H := H1;clear H1
      have H' := zaa.mk H
      clear H
      try go_wp2
      replace HO_0 := zaa.mk (Kd.zbm HO_0.out)
      replace BK156 := zaa.mk (zah BK156.out)
      replace HK := zaa.mk (Kept.drew HK.out)
      replace HB := zaa.mk (zar HB.out)
      obtain ⟨Ao9, co9, eo9⟩ := Kd.zbn HO_0.out
      (first | subst eo9 | (injection eo9 with f1_ f2_ f3_; have f4_ := f1_.symm; have f5_ := f3_.symm; clear f1_ f2_ f3_; subst f4_; subst f5_))
      have p157 : 0 ≤ (x5_1 : Int) := Yod
      have q157 : x5_1 < (l0.length : Int) := Yod
      obtain ⟨ad157, e157, hx157_0, hx157_1, hx157_2⟩ := zc3 (Kd.R_reads' HO_0.out).2.2 x5_1 p157 q157
      cases e157
      replace p157 := eq_true p157
      replace q157 := eq_true q157
      refine zbp (n := 12) (S := fun w' => w'.cell? ⟨gb156, 0, none⟩ = some (.int .i64 a1_0) ∧ w'.cell? ⟨gb156, 1, none⟩ = some (.int .i64 a1_1) ∧ w'.cell? ⟨gb156, 2, none⟩ = some (.int .i64 a1_2) ∧ w'.cell? (ad157.add ((x5_1).toNat * 3)) = some (.int .i64 ((zae l0 x5_1).f0)) ∧ w'.cell? ⟨(ad157.add ((x5_1).toNat * 3)).block, (ad157.add ((x5_1).toNat * 3)).off + 1, none⟩ = some (.int .i64 ((zae l0 x5_1).f1)) ∧ w'.cell? ⟨(ad157.add ((x5_1).toNat * 3)).block, (ad157.add ((x5_1).toNat * 3)).off + 2, none⟩ = some (.int .i64 ((zae l0 x5_1).f2))) (ds := []) (Ymk 12 0) (by kernel_rfl) rfl rfl ⟨(zac BK156.out 0).trans rfl, (zac BK156.out 1).trans rfl, (zac BK156.out 2).trans rfl, hx157_0, hx157_1, hx157_2⟩ (fun hHeld => ?_); refine zbw zaq.tab2 zaq.bits2 (fun HT_ HW_ => ?_)
      generalize wr.drew = w8 at HO_0 BK156 HK HB hx157_0 hx157_1 hx157_2 hHeld ⊢
      refine Ypt 0 7 12 1 HT_ ?_
      refine Ypt 1 8 12 3 HT_ ?_
      refine Ypt 2 9 12 7 HT_ ?_
      refine Ypt 3 10 12 15 HT_ ?_
      refine Ypt 4 11 12 31 HT_ ?_
      refine Ypt 5 12 12 63 HT_ ?_
      refine Ypt 6 13 12 127 HT_ ?_
      refine Ypt 7 14 12 255 HT_ ?_
      refine Ytt 8 15 12 511 HT_ HW_ hHeld ?_
      refine Ytt 9 16 12 1023 HT_ HW_ hHeld ?_
      refine Yot 10 17 12 2047 HT_ (fun K hK => ?_)
      refine Ygs Tryz.func53 #[.agg #[.int .i64 ((zae l0 x5_1).f0), .int .i64 ((zae l0 x5_1).f1), .int .i64 ((zae l0 x5_1).f2)], .agg #[.int .i64 a1_0, .int .i64 a1_1, .int .i64 a1_2]] ?_
      with_reducible refine (zcj.calls ((zae l0 x5_1).f0) ((zae l0 x5_1).f1) ((zae l0 x5_1).f2) a1_0 a1_1 a1_2 true _ A6.out).mono ?_
      rintro e w10 ⟨rfl, hb⟩
      have HS3_ := (hb.cell (World.block_lt_of_cell? _ _ (hHeld.2.2.2.1))).trans (hHeld.2.2.2.1)
      have HS4_ := (hb.cell (World.block_lt_of_cell? _ _ (hHeld.2.2.2.2.1))).trans (hHeld.2.2.2.2.1)
      have HS5_ := (hb.cell (World.block_lt_of_cell? _ _ (hHeld.2.2.2.2.2))).trans (hHeld.2.2.2.2.2)
      refine ⟨_, rfl, ?_⟩
      replace HO_0 := zaa.mk (Kd.zbg (Yr HO_0) hb)
      replace BK156 := Ykb BK156 hb
      replace HK := zaa.mk (Kept.below (S := (fun k_ => P0_ k_)) (by repeat (first | (with_reducible first | exact HK.out | apply Kept.alloc | apply Kept.drewN | apply Kept.drew | refine Kept.setCell ?_ (.inr GW156.out) _) | exact HK.out)) hb)
      replace HB := zaa.mk (zay Yb_PItemAllx7_0 hb)
      (try clear hb)
      (try clear hb2)
      (try clear hk)
      (try clear hi)
      refine hK.out _ _ ⟨(zac BK156.out 0).trans rfl, (zac BK156.out 1).trans rfl, (zac BK156.out 2).trans rfl, HS3_, HS4_, HS5_⟩ (fun hHeld => ?_)
      clear hK K
      refine Ynw 17 ?_
      refine Ypt 11 18 12 4095 HT_ ?_
      refine zbs (zcc HT_.out (by kernel_rfl)) ?_
      try go_wp2
      go_roundg k1
      case measure => have := HK1.out; omega
      case rel => exact ⟨(wrap64 (x5_1 + 1)), Yfs, H', ⟨by have := HK1.out; omega⟩, ⟨Yr HO_0⟩, ⟨Yg BK156⟩, ⟨by repeat (first | (with_reducible first | exact HK.out | apply Kept.alloc | apply Kept.drewN | apply Kept.drew | refine Kept.setCell ?_ (.inr GW156.out) _) | exact HK.out)⟩, ⟨Yb_PItemAllx7_0⟩⟩
     ·replace c7 := Bool.eq_false_iff.mpr c7
      subst c7
      have H1 : (if (((zae l0 x5_1).f0) == a1_0 && (((zae l0 x5_1).f1) == a1_1 && (((zae l0 x5_1).f2) == a1_2))) = true then (some l0) else (if x5_1 ≤ (l0.length : Int) then ((some (l0.take (x5_1 : Int).toNat : List (S50))).bind fun y160 => (if ([] : List (S50)).length + y160.length < 5864062014805 then ((some (([] : List (S50)) ++ y160 : List (S50))).bind fun y164 => (if y164.length < 5864062014805 then ((some (y164 ++ [(⟨a1_0, a1_1, a1_2⟩ : S50)] : List (S50))).bind fun y167 => ((some (l0.drop (x5_1 : Int).toNat : List (S50))).bind fun y170 => (if y167.length + y170.length < 5864062014805 then (some (y167 ++ y170)) else (none)))) else (none))) else (none))) else (none))) = some r := by rw [if_neg (show ¬ (false = true) by decide)] at H; exact H
      clear H;have H := H1;clear H1
      by_cases c11 : (((zae l0 x5_1).f0) == a1_0 && (((zae l0 x5_1).f1) == a1_1 && (((zae l0 x5_1).f2) == a1_2))) = true
      ·rw [if_pos c11] at H
       have c11b0 : (((zae l0 x5_1).f0) == a1_0 && (((zae l0 x5_1).f1) == a1_1 && (((zae l0 x5_1).f2) == a1_2))) = true := c11
       (try (have c11b1 : decide (((zae l0 x5_1).f0) = a1_0 && (((zae l0 x5_1).f1) == a1_1 && (((zae l0 x5_1).f2) == a1_2))) = true := by simpa using c11))
       (try (have c11b2 : (((zae l0 x5_1).f0) == a1_0 && (((zae l0 x5_1).f1) == a1_1 && (((zae l0 x5_1).f2) == a1_2))) = true := by simpa using c11))
       clear c11;obtain rfl := Option.some.inj H
       try go_wp2
       replace HO_0 := zaa.mk (Kd.zbm HO_0.out)
       replace BK156 := zaa.mk (zah BK156.out)
       replace HK := zaa.mk (Kept.drew HK.out)
       replace HB := zaa.mk (zar HB.out)
       obtain ⟨Ao13, co13, eo13⟩ := Kd.zbn HO_0.out
       (first | subst eo13 | (injection eo13 with f1_ f2_ f3_; have f4_ := f1_.symm; have f5_ := f3_.symm; clear f1_ f2_ f3_; subst f4_; subst f5_))
       have p157 : 0 ≤ (x5_1 : Int) := Yod
       have q157 : x5_1 < (l0.length : Int) := Yod
       obtain ⟨ad157, e157, hx157_0, hx157_1, hx157_2⟩ := zc3 (Kd.R_reads' HO_0.out).2.2 x5_1 p157 q157
       cases e157
       replace p157 := eq_true p157
       replace q157 := eq_true q157
       refine zbp (n := 12) (S := fun w' => w'.cell? ⟨gb156, 0, none⟩ = some (.int .i64 a1_0) ∧ w'.cell? ⟨gb156, 1, none⟩ = some (.int .i64 a1_1) ∧ w'.cell? ⟨gb156, 2, none⟩ = some (.int .i64 a1_2) ∧ w'.cell? (ad157.add ((x5_1).toNat * 3)) = some (.int .i64 ((zae l0 x5_1).f0)) ∧ w'.cell? ⟨(ad157.add ((x5_1).toNat * 3)).block, (ad157.add ((x5_1).toNat * 3)).off + 1, none⟩ = some (.int .i64 ((zae l0 x5_1).f1)) ∧ w'.cell? ⟨(ad157.add ((x5_1).toNat * 3)).block, (ad157.add ((x5_1).toNat * 3)).off + 2, none⟩ = some (.int .i64 ((zae l0 x5_1).f2))) (ds := []) (Ymk 12 0) (by kernel_rfl) rfl rfl ⟨(zac BK156.out 0).trans rfl, (zac BK156.out 1).trans rfl, (zac BK156.out 2).trans rfl, hx157_0, hx157_1, hx157_2⟩ (fun hHeld => ?_); refine zbw zaq.tab2 zaq.bits2 (fun HT_ HW_ => ?_)
       generalize wr.drew = w12 at HO_0 BK156 HK HB hx157_0 hx157_1 hx157_2 hHeld ⊢
       refine Ypt 0 7 12 1 HT_ ?_
       refine Ypt 1 8 12 3 HT_ ?_
       refine Ypt 2 9 12 7 HT_ ?_
       refine Ypt 3 10 12 15 HT_ ?_
       refine Ypt 4 11 12 31 HT_ ?_
       refine Ypt 5 12 12 63 HT_ ?_
       refine Ypt 6 13 12 127 HT_ ?_
       refine Ypt 7 14 12 255 HT_ ?_
       refine Ytt 8 15 12 511 HT_ HW_ hHeld ?_
       refine Ytt 9 16 12 1023 HT_ HW_ hHeld ?_
       refine Yot 10 17 12 2047 HT_ (fun K hK => ?_)
       refine Ygs Tryz.func53 #[.agg #[.int .i64 ((zae l0 x5_1).f0), .int .i64 ((zae l0 x5_1).f1), .int .i64 ((zae l0 x5_1).f2)], .agg #[.int .i64 a1_0, .int .i64 a1_1, .int .i64 a1_2]] ?_
       with_reducible refine (zcj.calls ((zae l0 x5_1).f0) ((zae l0 x5_1).f1) ((zae l0 x5_1).f2) a1_0 a1_1 a1_2 false _ A6.out).mono ?_
       rintro e w14 ⟨rfl, hb⟩
       have HS3_ := (hb.cell (World.block_lt_of_cell? _ _ (hHeld.2.2.2.1))).trans (hHeld.2.2.2.1)
       have HS4_ := (hb.cell (World.block_lt_of_cell? _ _ (hHeld.2.2.2.2.1))).trans (hHeld.2.2.2.2.1)
       have HS5_ := (hb.cell (World.block_lt_of_cell? _ _ (hHeld.2.2.2.2.2))).trans (hHeld.2.2.2.2.2)
       refine ⟨_, rfl, ?_⟩
       replace HO_0 := zaa.mk (Kd.zbg (Yr HO_0) hb)
       replace BK156 := Ykb BK156 hb
       replace HK := zaa.mk (Kept.below (S := (fun k_ => P0_ k_)) (by repeat (first | (with_reducible first | exact HK.out | apply Kept.alloc | apply Kept.drewN | apply Kept.drew | refine Kept.setCell ?_ (.inr GW156.out) _) | exact HK.out)) hb)
       replace HB := zaa.mk (zay Yb_PItemAllx7_0 hb)
       (try clear hb)
       (try clear hb2)
       (try clear hk)
       (try clear hi)
       refine hK.out _ _ ⟨(zac BK156.out 0).trans rfl, (zac BK156.out 1).trans rfl, (zac BK156.out 2).trans rfl, HS3_, HS4_, HS5_⟩ (fun hHeld => ?_)
       clear hK K
       refine Ynw 17 ?_
       refine Ypt 11 18 12 4095 HT_ ?_
       refine zbs (zcc HT_.out (by kernel_rfl)) ?_
       try go_wp2
       replace HO_0 := zaa.mk (Kd.zbm HO_0.out)
       replace BK156 := zaa.mk (zah BK156.out)
       replace HK := zaa.mk (Kept.drew HK.out)
       replace HB := zaa.mk (zar HB.out)
       have p159 : 0 ≤ (x5_1 : Int) := Yod
       have q159 : x5_1 < (l0.length : Int) := Yod
       obtain ⟨ad159, e159, hx159_0, hx159_1, hx159_2⟩ := zc3 (Kd.R_reads' HO_0.out).2.2 x5_1 p159 q159
       obtain rfl : ad157 = ad159 := (by injection e159)
       replace p159 := eq_true p159
       replace q159 := eq_true q159
       refine zbp (n := 12) (S := fun w' => w'.cell? ⟨gb156, 0, none⟩ = some (.int .i64 a1_0) ∧ w'.cell? ⟨gb156, 1, none⟩ = some (.int .i64 a1_1) ∧ w'.cell? ⟨gb156, 2, none⟩ = some (.int .i64 a1_2) ∧ w'.cell? (ad157.add ((x5_1).toNat * 3)) = some (.int .i64 ((zae l0 x5_1).f0)) ∧ w'.cell? ⟨(ad157.add ((x5_1).toNat * 3)).block, (ad157.add ((x5_1).toNat * 3)).off + 1, none⟩ = some (.int .i64 ((zae l0 x5_1).f1)) ∧ w'.cell? ⟨(ad157.add ((x5_1).toNat * 3)).block, (ad157.add ((x5_1).toNat * 3)).off + 2, none⟩ = some (.int .i64 ((zae l0 x5_1).f2))) (ds := []) (Ymk 12 0) (by kernel_rfl) rfl rfl ⟨(zac BK156.out 0).trans rfl, (zac BK156.out 1).trans rfl, (zac BK156.out 2).trans rfl, hx159_0, hx159_1, hx159_2⟩ (fun hHeld => ?_); refine zbw zaq.tab4 zaq.bits4 (fun HT_ HW_ => ?_)
       generalize w14.drew = w15 at HO_0 BK156 HK HB hx159_0 hx159_1 hx159_2 hHeld ⊢
       refine Ypt 0 21 12 1 HT_ ?_
       refine Ypt 1 22 12 3 HT_ ?_
       refine Ypt 2 23 12 7 HT_ ?_
       refine Ypt 3 24 12 15 HT_ ?_
       refine Ypt 4 25 12 31 HT_ ?_
       refine Ypt 5 26 12 63 HT_ ?_
       refine Ypt 6 27 12 127 HT_ ?_
       refine Ypt 7 28 12 255 HT_ ?_
       refine Ytt 8 29 12 511 HT_ HW_ hHeld ?_
       refine Ytt 9 30 12 1023 HT_ HW_ hHeld ?_
       refine Ypt 10 31 12 2047 HT_ ?_
       refine Ypt 11 32 12 4095 HT_ ?_
       refine zbs (zcc HT_.out (by kernel_rfl)) ?_
       try go_wp2
       go_ret
       exact ⟨_, by first | rfl | (simp [errW_none, errW_some] <;> rfl) | (simp [*, errW_none, errW_some] <;> rfl), by (with_reducible repeat (first | apply Kd.R_alloc | apply Kd.zby | apply Kd.zbm)); exact Kd.za7 HO_0.out (fun _ hk => hk.1), by repeat (first | (with_reducible first | exact HB.out | apply za5 | apply zau | apply zar | refine za9 ?_ GE156.out) | exact HB.out), by repeat (first | (with_reducible first | exact HK.out | apply Kept.alloc | apply Kept.drewN | apply Kept.drew | refine Kept.setCell ?_ (.inr GW156.out) _) | exact HK.out)⟩
      ·rw [if_neg c11] at H
       have c11b0 : (((zae l0 x5_1).f0) == a1_0 && (((zae l0 x5_1).f1) == a1_1 && (((zae l0 x5_1).f2) == a1_2))) = false := by simpa using c11
       (try (have c11b1 : decide (((zae l0 x5_1).f0) = a1_0 && (((zae l0 x5_1).f1) == a1_1 && (((zae l0 x5_1).f2) == a1_2))) = false := by simpa using c11))
       (try (have c11b2 : (((zae l0 x5_1).f0) == a1_0 && (((zae l0 x5_1).f1) == a1_1 && (((zae l0 x5_1).f2) == a1_2))) = false := by simpa using c11))
       (try (have c11b3 : ¬ (((zae l0 x5_1).f0) = a1_0 && (((zae l0 x5_1).f1) == a1_1 && (((zae l0 x5_1).f2) == a1_2))) := by simpa using c11))
       clear c11
       have c16b0 := eq_true (of_decide_eq_true (by first | (with_reducible assumption) | assumption) : 0 ≤ x5_1)
       by_cases c17 : x5_1 ≤ (l0.length : Int)
       ·rw [if_pos c17] at H
        have c17b0 := eq_true c17
        have c17b1 := decide_eq_true c17
        clear c17
        obtain ⟨y160, hy160⟩ : ∃ y_ : List (S50), y_ = (l0.take (x5_1 : Int).toNat) := ⟨_, rfl⟩
        replace H : (if ([] : List (S50)).length + y160.length < 5864062014805 then ((some (([] : List (S50)) ++ y160 : List (S50))).bind fun y164 => (if y164.length < 5864062014805 then ((some (y164 ++ [(⟨a1_0, a1_1, a1_2⟩ : S50)] : List (S50))).bind fun y167 => ((some (l0.drop (x5_1 : Int).toNat : List (S50))).bind fun y170 => (if y167.length + y170.length < 5864062014805 then (some (y167 ++ y170)) else (none)))) else (none))) else (none)) = some r := by first | (rw [hy160]; with_reducible exact H) | (have H2_ := (Option.bind_some _ _).symm.trans H; rw [hy160]; with_reducible exact H2_) | (have H2_ := (Option.bind_some _ _).symm.trans H; with_reducible exact H2_) | with_reducible exact H | (rw [hy160]; exact H) | exact H
        have Ny160 := zaa.mk hy160;clear hy160
        by_cases c18 : ([] : List (S50)).length + y160.length < 5864062014805
        ·rw [if_pos c18] at H
         have LMc18 := zaa.mk c18;clear c18
         obtain ⟨y164, hy164⟩ : ∃ y_ : List (S50), y_ = (([] : List (S50)) ++ y160) := ⟨_, rfl⟩
         replace H : (if y164.length < 5864062014805 then ((some (y164 ++ [(⟨a1_0, a1_1, a1_2⟩ : S50)] : List (S50))).bind fun y167 => ((some (l0.drop (x5_1 : Int).toNat : List (S50))).bind fun y170 => (if y167.length + y170.length < 5864062014805 then (some (y167 ++ y170)) else (none)))) else (none)) = some r := by first | (rw [hy164]; with_reducible exact H) | (have H2_ := (Option.bind_some _ _).symm.trans H; rw [hy164]; with_reducible exact H2_) | (have H2_ := (Option.bind_some _ _).symm.trans H; with_reducible exact H2_) | with_reducible exact H | (rw [hy164]; exact H) | exact H
         have Ny164 := zaa.mk hy164;clear hy164
         by_cases c19 : y164.length < 5864062014805
         ·rw [if_pos c19] at H
          have LMc19 := zaa.mk c19;clear c19
          obtain ⟨y167, hy167⟩ : ∃ y_ : List (S50), y_ = (y164 ++ [(⟨a1_0, a1_1, a1_2⟩ : S50)]) := ⟨_, rfl⟩
          replace H : ((some (l0.drop (x5_1 : Int).toNat : List (S50))).bind fun y170 => (if y167.length + y170.length < 5864062014805 then (some (y167 ++ y170)) else (none))) = some r := by first | (rw [hy167]; with_reducible exact H) | (have H2_ := (Option.bind_some _ _).symm.trans H; rw [hy167]; with_reducible exact H2_) | (have H2_ := (Option.bind_some _ _).symm.trans H; with_reducible exact H2_) | with_reducible exact H | (rw [hy167]; exact H) | exact H
          have Ny167 := zaa.mk hy167;clear hy167
          have c20b0 := eq_true (of_decide_eq_true (by first | (with_reducible assumption) | assumption) : 0 ≤ x5_1)
          have c21b0 := eq_true (of_decide_eq_true (by first | (with_reducible assumption) | assumption) : x5_1 ≤ (l0.length : Int))
          obtain ⟨y170, hy170⟩ : ∃ y_ : List (S50), y_ = (l0.drop (x5_1 : Int).toNat) := ⟨_, rfl⟩
          replace H : (if y167.length + y170.length < 5864062014805 then (some (y167 ++ y170)) else (none)) = some r := by first | (rw [hy170]; with_reducible exact H) | (have H2_ := (Option.bind_some _ _).symm.trans H; rw [hy170]; with_reducible exact H2_) | (have H2_ := (Option.bind_some _ _).symm.trans H; with_reducible exact H2_) | with_reducible exact H | (rw [hy170]; exact H) | exact H
          have Ny170 := zaa.mk hy170;clear hy170
          by_cases c22 : y167.length + y170.length < 5864062014805
          ·rw [if_pos c22] at H
           have LMc22 := zaa.mk c22;clear c22
           obtain ⟨y174, hy174⟩ : ∃ y_ : List (S50), y_ = (y167 ++ y170) := ⟨_, rfl⟩
           replace H : (some y174) = some r := by first | (rw [hy174]; with_reducible exact H) | (have H2_ := (Option.bind_some _ _).symm.trans H; rw [hy174]; with_reducible exact H2_) | (have H2_ := (Option.bind_some _ _).symm.trans H; with_reducible exact H2_) | with_reducible exact H | (rw [hy174]; exact H) | exact H
           have Ny174 := zaa.mk hy174;clear hy174;obtain rfl := Option.some.inj H
           try go_wp2
           replace HO_0 := zaa.mk (Kd.zbm HO_0.out)
           replace BK156 := zaa.mk (zah BK156.out)
           replace HK := zaa.mk (Kept.drew HK.out)
           replace HB := zaa.mk (zar HB.out)
           obtain ⟨Ao24, co24, eo24⟩ := Kd.zbn HO_0.out
           (first | subst eo24 | (injection eo24 with f1_ f2_ f3_; have f4_ := f1_.symm; have f5_ := f3_.symm; clear f1_ f2_ f3_; subst f4_; subst f5_))
           have p157 : 0 ≤ (x5_1 : Int) := Yod
           have q157 : x5_1 < (l0.length : Int) := Yod
           obtain ⟨ad157, e157, hx157_0, hx157_1, hx157_2⟩ := zc3 (Kd.R_reads' HO_0.out).2.2 x5_1 p157 q157
           cases e157
           replace p157 := eq_true p157
           replace q157 := eq_true q157
           refine zbp (n := 12) (S := fun w' => w'.cell? ⟨gb156, 0, none⟩ = some (.int .i64 a1_0) ∧ w'.cell? ⟨gb156, 1, none⟩ = some (.int .i64 a1_1) ∧ w'.cell? ⟨gb156, 2, none⟩ = some (.int .i64 a1_2) ∧ w'.cell? (ad157.add ((x5_1).toNat * 3)) = some (.int .i64 ((zae l0 x5_1).f0)) ∧ w'.cell? ⟨(ad157.add ((x5_1).toNat * 3)).block, (ad157.add ((x5_1).toNat * 3)).off + 1, none⟩ = some (.int .i64 ((zae l0 x5_1).f1)) ∧ w'.cell? ⟨(ad157.add ((x5_1).toNat * 3)).block, (ad157.add ((x5_1).toNat * 3)).off + 2, none⟩ = some (.int .i64 ((zae l0 x5_1).f2))) (ds := []) (Ymk 12 0) (by kernel_rfl) rfl rfl ⟨(zac BK156.out 0).trans rfl, (zac BK156.out 1).trans rfl, (zac BK156.out 2).trans rfl, hx157_0, hx157_1, hx157_2⟩ (fun hHeld => ?_); refine zbw zaq.tab2 zaq.bits2 (fun HT_ HW_ => ?_)
           generalize wr.drew = w23 at HO_0 BK156 HK HB hx157_0 hx157_1 hx157_2 hHeld ⊢
           refine Ypt 0 7 12 1 HT_ ?_
           refine Ypt 1 8 12 3 HT_ ?_
           refine Ypt 2 9 12 7 HT_ ?_
           refine Ypt 3 10 12 15 HT_ ?_
           refine Ypt 4 11 12 31 HT_ ?_
           refine Ypt 5 12 12 63 HT_ ?_
           refine Ypt 6 13 12 127 HT_ ?_
           refine Ypt 7 14 12 255 HT_ ?_
           refine Ytt 8 15 12 511 HT_ HW_ hHeld ?_
           refine Ytt 9 16 12 1023 HT_ HW_ hHeld ?_
           refine Yot 10 17 12 2047 HT_ (fun K hK => ?_)
           refine Ygs Tryz.func53 #[.agg #[.int .i64 ((zae l0 x5_1).f0), .int .i64 ((zae l0 x5_1).f1), .int .i64 ((zae l0 x5_1).f2)], .agg #[.int .i64 a1_0, .int .i64 a1_1, .int .i64 a1_2]] ?_
           with_reducible refine (zcj.calls ((zae l0 x5_1).f0) ((zae l0 x5_1).f1) ((zae l0 x5_1).f2) a1_0 a1_1 a1_2 false _ A6.out).mono ?_
           rintro e w25 ⟨rfl, hb⟩
           have HS3_ := (hb.cell (World.block_lt_of_cell? _ _ (hHeld.2.2.2.1))).trans (hHeld.2.2.2.1)
           have HS4_ := (hb.cell (World.block_lt_of_cell? _ _ (hHeld.2.2.2.2.1))).trans (hHeld.2.2.2.2.1)
           have HS5_ := (hb.cell (World.block_lt_of_cell? _ _ (hHeld.2.2.2.2.2))).trans (hHeld.2.2.2.2.2)
           refine ⟨_, rfl, ?_⟩
           replace HO_0 := zaa.mk (Kd.zbg (Yr HO_0) hb)
           replace BK156 := Ykb BK156 hb
           replace HK := zaa.mk (Kept.below (S := (fun k_ => P0_ k_)) (by repeat (first | (with_reducible first | exact HK.out | apply Kept.alloc | apply Kept.drewN | apply Kept.drew | refine Kept.setCell ?_ (.inr GW156.out) _) | exact HK.out)) hb)
           replace HB := zaa.mk (zay Yb_PItemAllx7_0 hb)
           (try clear hb)
           (try clear hb2)
           (try clear hk)
           (try clear hi)
           refine hK.out _ _ ⟨(zac BK156.out 0).trans rfl, (zac BK156.out 1).trans rfl, (zac BK156.out 2).trans rfl, HS3_, HS4_, HS5_⟩ (fun hHeld => ?_)
           clear hK K
           refine Ynw 17 ?_
           refine Ypt 11 18 12 4095 HT_ ?_
           refine zbs (zcc HT_.out (by kernel_rfl)) ?_
           try go_wp2
           replace HO_0 := zaa.mk (Kd.zbm HO_0.out)
           replace BK156 := zaa.mk (zah BK156.out)
           replace HK := zaa.mk (Kept.drew HK.out)
           replace HB := zaa.mk (zar HB.out)
           have p159 : 0 ≤ (x5_1 : Int) := Yod
           have q159 : x5_1 < (l0.length : Int) := Yod
           obtain ⟨ad159, e159, hx159_0, hx159_1, hx159_2⟩ := zc3 (Kd.R_reads' HO_0.out).2.2 x5_1 p159 q159
           obtain rfl : ad157 = ad159 := (by injection e159)
           replace p159 := eq_true p159
           replace q159 := eq_true q159
           refine zbp (n := 12) (S := fun w' => w'.cell? ⟨gb156, 0, none⟩ = some (.int .i64 a1_0) ∧ w'.cell? ⟨gb156, 1, none⟩ = some (.int .i64 a1_1) ∧ w'.cell? ⟨gb156, 2, none⟩ = some (.int .i64 a1_2) ∧ w'.cell? (ad157.add ((x5_1).toNat * 3)) = some (.int .i64 ((zae l0 x5_1).f0)) ∧ w'.cell? ⟨(ad157.add ((x5_1).toNat * 3)).block, (ad157.add ((x5_1).toNat * 3)).off + 1, none⟩ = some (.int .i64 ((zae l0 x5_1).f1)) ∧ w'.cell? ⟨(ad157.add ((x5_1).toNat * 3)).block, (ad157.add ((x5_1).toNat * 3)).off + 2, none⟩ = some (.int .i64 ((zae l0 x5_1).f2))) (ds := []) (Ymk 12 0) (by kernel_rfl) rfl rfl ⟨(zac BK156.out 0).trans rfl, (zac BK156.out 1).trans rfl, (zac BK156.out 2).trans rfl, hx159_0, hx159_1, hx159_2⟩ (fun hHeld => ?_); refine zbw zaq.tab4 zaq.bits4 (fun HT_ HW_ => ?_)
           generalize w25.drew = w26 at HO_0 BK156 HK HB hx159_0 hx159_1 hx159_2 hHeld ⊢
           refine Ypt 0 21 12 1 HT_ ?_
           refine Ypt 1 22 12 3 HT_ ?_
           refine Ypt 2 23 12 7 HT_ ?_
           refine Ypt 3 24 12 15 HT_ ?_
           refine Ypt 4 25 12 31 HT_ ?_
           refine Ypt 5 26 12 63 HT_ ?_
           refine Ypt 6 27 12 127 HT_ ?_
           refine Ypt 7 28 12 255 HT_ ?_
           refine Ytt 8 29 12 511 HT_ HW_ hHeld ?_
           refine Ytt 9 30 12 1023 HT_ HW_ hHeld ?_
           refine Ypt 10 31 12 2047 HT_ ?_
           refine Ypt 11 32 12 4095 HT_ ?_
           refine zbs (zcc HT_.out (by kernel_rfl)) ?_
           have q27 : (x5_1 : Int) ≤ ((l0.length : Int) : Int) := Yod
           obtain ⟨i027, hi027, _, hsz27, _⟩ := info_parts zd1
           have hroom27 : l0.length ≤ co24 := (Kd.R_reads' HO_0.out).2.1
           have hC27 : Kd.C k50 _ (some ad157) l0.length l0 := (Kd.R_reads' HO_0.out).2.2
           have hcut27 := cut_to (P := Tryz.prog) 45 50 .i64 Tryz.underlying45 hi027 (some ad157) l0.length co24 x5_1 (of_decide_eq_true (by first | (with_reducible assumption) | assumption)) q27 hroom27
           have hr27 := Kd.zde (m := (x5_1 : Int).toNat) hC27 (by omega)
           have hy27 : y160.length = (x5_1 : Int).toNat := (by rw [Ny160.out, List.length_take]; omega)
           rw [← Ny160.out] at hr27
           rw [← hy27] at hcut27
           have HR163 := zaa.mk hr27
           have HC163 := zaa.mk (show y160.length ≤ co24 from by omega)
           clear hr27 hC27 hroom27 hi027 hsz27;have KY27 := zaa.mk hy27;clear hy27
           have KL27 := zaa.mk (show (x5_1 : Int).toNat ≤ l0.length from by omega)
           replace q27 := eq_true q27
           try go_wp2_with (first | ((with_reducible refine zb5 (b := .append) (xs := #[.tmp 34, .tmp 37]) rfl ?_); at_builtin; refine Kd.zcd k50 (w0 := w0) w0.heap.size rfl (.tmp 34) (.tmp 37) 45 50 (.agg #[(.int .i64 0), (.int .i64 0), (.int .i64 0)]) 24 rfl Tryz.underlying45 zd1 rfl (by decide) (by omega) (.slice none 0 0) ([] : List (S50)) y160 _ _ _ (fun k_ => (P0_ k_ ∨ w.heap.size ≤ k_) ∧ some k_ ≠ (.slice (some ad157) l0.length co24 : Value).ownBlock ∧ k_ ≠ gb156) (fun _ => False) rfl rfl ?aO ?aR (fun _ _ h => h) (fun _ h => h.elim) ?aF ?aB ?aS ?aL ?_; (case aR => repeat (first | exact (by repeat (first | (with_reducible exact HR163.out) | (with_reducible refine Kd.C_alloc ?_ _) | (with_reducible refine Kd.zbj ?_ _) | (with_reducible refine Kd.C_drew ?_) | exact HR163.out)) | (with_reducible refine Kd.C_alloc ?_ _) | (with_reducible refine Kd.zbj ?_ _) | (with_reducible refine Kd.C_drew ?_))); (case aB => exact Yb_PItemAllx7_0); (case aF => exact (fun k_ hk => ⟨(.inr (Nat.le_trans (by first | exact HK.out.1 | exact (show Kept w _ (fun k_ => P0_ k_) from by repeat (first | (with_reducible first | exact HK.out | apply Kept.alloc | apply Kept.drewN | apply Kept.drew | refine Kept.setCell ?_ (.inr GW156.out) _) | exact HK.out)).1) hk)), Kd.fresh' (Kd.R_lt (Yr HO_0)) k_ hk, Kd.zb4 (g := gb156) (o := .cells #[.int .i64 a1_0, .int .i64 a1_1, .int .i64 a1_2] 50 (0, 0)) (Yg BK156) k_ hk⟩)); (case aO => exact ((Kd.zdi _ _ _ _ (fun k_ => (P0_ k_ ∨ w.heap.size ≤ k_) ∧ some k_ ≠ (.slice (some ad157) l0.length co24 : Value).ownBlock ∧ k_ ≠ gb156)))); (case aS => exact (za0 Yb_PItemAllx7_0)); (case aL => have := LMc18.out; omega); intro v165 w28 ho hb hg hat; rw [← Ny164.out] at ho; replace BK156 := zaa.mk (zb9 (g := gb156) (o := .cells #[.int .i64 a1_0, .int .i64 a1_1, .int .i64 a1_2] 50 (0, 0)) (Yg BK156) hg (by simp [Value.ownBlock])); replace HB := zaa.mk (hb); replace HK := zaa.mk (Kept.zdm (S := (fun k_ => P0_ k_)) hg (by repeat (first | (with_reducible first | exact HK.out | apply Kept.alloc | apply Kept.drewN | apply Kept.drew | refine Kept.setCell ?_ (.inr GW156.out) _) | exact HK.out)) (fun k_ e_ => by simp [Value.ownBlock] at e_)); replace HR163 := zaa.mk ((show Kd.C k50 w28 (some ad157) y160.length y160 from by rw [Ny160.out]; exact Kd.zde (m := (x5_1 : Int).toNat) ((Kd.R_reads' (Kd.zb0 (Kd.zds (Yr HO_0)) hg hat)).2.2) KL27.out)); replace HO_0 := zaa.mk (Kd.zb0 (Kd.zds (Yr HO_0)) hg hat); have HO166 := zaa.mk (ho); clear ho hb hg hat; obtain ⟨hcz29_0, hfz29_0, hcz29_1, hfz29_1, hcz29_2, hfz29_2⟩ := Yc3 BK156.out) | ((with_reducible refine zb5 (b := .append) (xs := #[.tmp 39, .tmp 41]) rfl ?_); at_builtin; refine Kd.zdg k50 (w0 := w0) w0.heap.size rfl (.tmp 39) (.tmp 41) 45 50 (.agg #[(.int .i64 0), (.int .i64 0), (.int .i64 0)]) 24 rfl Tryz.underlying45 zd1 rfl (by decide) (by omega) v165 y164 (⟨a1_0, a1_1, a1_2⟩ : S50) [.int .i64 a1_0, .int .i64 a1_1, .int .i64 a1_2] (fun k_ => (P0_ k_ ∨ w.heap.size ≤ k_) ∧ some k_ ≠ (.slice (some ad157) l0.length co24 : Value).ownBlock ∧ k_ ≠ gb156) (fun _ => False) rfl rfl ?aP (fun _ hk => hk.elim) ?aF ?aO ?aB ?aS ?aL ?_; (case aP => exact zhc _ _ _ (⟨a1_0, a1_1, a1_2⟩ : S50)); (case aB => exact Yb_PItemAllx7_0); (case aF => exact (fun k_ hk => ⟨(.inr (Nat.le_trans (by first | exact HK.out.1 | exact (show Kept w _ (fun k_ => P0_ k_) from by repeat (first | (with_reducible first | exact HK.out | apply Kept.alloc | apply Kept.drewN | apply Kept.drew | refine Kept.setCell ?_ (.inr GW156.out) _) | exact HK.out)).1) hk)), Kd.fresh' (Kd.R_lt (Yr HO_0)) k_ hk, Kd.zb4 (g := gb156) (o := .cells #[.int .i64 a1_0, .int .i64 a1_1, .int .i64 a1_2] 50 (0, 0)) (Yg BK156) k_ hk⟩)); (case aO => exact (Yr HO166)); (case aS => exact (za0 Yb_PItemAllx7_0)); (case aL => have := LMc19.out; omega); intro v168 w30 ho hb hg hat; rw [← Ny167.out] at ho; replace BK156 := zaa.mk (zb9 (g := gb156) (o := .cells #[.int .i64 a1_0, .int .i64 a1_1, .int .i64 a1_2] 50 (0, 0)) (Yg BK156) hg (Kd.zg5 HO166.out (fun _ hk => hk.2.2))); replace HB := zaa.mk (hb); replace HK := zaa.mk (Kept.zdm (S := (fun k_ => P0_ k_)) hg (by repeat (first | (with_reducible first | exact HK.out | apply Kept.alloc | apply Kept.drewN | apply Kept.drew | refine Kept.setCell ?_ (.inr GW156.out) _) | exact HK.out)) (fun k_ e_ => (HO166.out.1 k_ e_).1)); replace HR163 := zaa.mk ((show Kd.C k50 w30 (some ad157) y160.length y160 from by rw [Ny160.out]; exact Kd.zde (m := (x5_1 : Int).toNat) ((Kd.R_reads' (Kd.zb0 (ok := (fun k_ => (P0_ k_ ∨ w.heap.size ≤ k_) ∧ k_ ≠ gb156)) (Yr HO_0) hg hat)).2.2) KL27.out)); replace HO_0 := zaa.mk (Kd.zb0 (ok := (fun k_ => (P0_ k_ ∨ w.heap.size ≤ k_) ∧ k_ ≠ gb156)) (Yr HO_0) hg hat); have HO169 := zaa.mk (ho); clear HO166; clear ho hb hg hat; have q31 : (x5_1 : Int) ≤ ((l0.length : Int) : Int) := Yod; obtain ⟨i031, hi031, _, hsz31, _⟩ := info_parts zd1; have hroom31 : l0.length ≤ co24 := (Kd.R_reads' HO_0.out).2.1; have hC31 : Kd.C k50 _ (some ad157) l0.length l0 := (Kd.R_reads' HO_0.out).2.2; have q031 : (0 : Int) ≤ (x5_1 : Int) := Yod; have hcut31 := zek (P := Tryz.prog) 45 50 .i64 Tryz.underlying45 hi031 3 hsz31 (some ad157) l0.length co24 x5_1 q031 q31; have hr31 := Kd.zef (m := (x5_1 : Int).toNat) (c := co24) hC31 (by omega) hroom31; obtain ⟨A31, hA31⟩ : ∃ A1, A1 = (if co24 = (x5_1 : Int).toNat then (some ad157) else ((some ad157) : Option Addr).map (·.add ((x5_1 : Int).toNat * 3))) := ⟨_, rfl⟩; obtain ⟨c31, hc31⟩ : ∃ c1, c1 = co24 - (x5_1 : Int).toNat := ⟨_, rfl⟩; have hy31 : y170.length = l0.length - (x5_1 : Int).toNat := (by rw [Ny170.out, List.length_drop] <;> omega); rw [show (l0).drop (x5_1 : Int).toNat = y170 from Ny170.out.symm] at hr31; replace hr31 : Kd.C k50 _ A31 y170.length y170 := (by rw [hA31]; exact hr31); rw [← hy31, ← hA31, ← hc31] at hcut31; have HR173 := zaa.mk hr31; have HC173 := zaa.mk (show y170.length ≤ c31 from by rw [hy31, hc31]; exact Nat.sub_le_sub_right hroom31 _); clear hr31 hC31 hroom31 hi031 hsz31 hc31; have KY31 := zaa.mk hy31; have KA31 := zaa.mk hA31; clear hy31 hA31; have KL31 := zaa.mk (show (x5_1 : Int).toNat ≤ l0.length from by omega); replace q31 := eq_true q31) | ((with_reducible refine zb5 (b := .append) (xs := #[.tmp 43, .tmp 46]) rfl ?_); at_builtin; refine Kd.zcd k50 (w0 := w0) w0.heap.size rfl (.tmp 43) (.tmp 46) 45 50 (.agg #[(.int .i64 0), (.int .i64 0), (.int .i64 0)]) 24 rfl Tryz.underlying45 zd1 rfl (by decide) (by omega) v168 y167 y170 _ _ _ (fun k_ => (P0_ k_ ∨ w.heap.size ≤ k_) ∧ some k_ ≠ (.slice (some ad157) l0.length co24 : Value).ownBlock ∧ k_ ≠ gb156) (fun _ => False) rfl rfl ?aO ?aR (fun _ _ h => h) (fun _ h => h.elim) ?aF ?aB ?aS ?aL ?_; (case aR => repeat (first | exact (by repeat (first | (with_reducible exact HR173.out) | (with_reducible refine Kd.C_alloc ?_ _) | (with_reducible refine Kd.zbj ?_ _) | (with_reducible refine Kd.C_drew ?_) | exact HR173.out)) | (with_reducible refine Kd.C_alloc ?_ _) | (with_reducible refine Kd.zbj ?_ _) | (with_reducible refine Kd.C_drew ?_))); (case aB => exact Yb_PItemAllx7_0); (case aF => exact (fun k_ hk => ⟨(.inr (Nat.le_trans (by first | exact HK.out.1 | exact (show Kept w _ (fun k_ => P0_ k_) from by repeat (first | (with_reducible first | exact HK.out | apply Kept.alloc | apply Kept.drewN | apply Kept.drew | refine Kept.setCell ?_ (.inr GW156.out) _) | exact HK.out)).1) hk)), Kd.fresh' (Kd.R_lt (Yr HO_0)) k_ hk, Kd.zb4 (g := gb156) (o := .cells #[.int .i64 a1_0, .int .i64 a1_1, .int .i64 a1_2] 50 (0, 0)) (Yg BK156) k_ hk⟩)); (case aO => exact (Yr HO169)); (case aS => exact (za0 Yb_PItemAllx7_0)); (case aL => have := LMc22.out; omega); intro v175 w32 ho hb hg hat; rw [← Ny174.out] at ho; replace BK156 := zaa.mk (zb9 (g := gb156) (o := .cells #[.int .i64 a1_0, .int .i64 a1_1, .int .i64 a1_2] 50 (0, 0)) (Yg BK156) hg (Kd.zg5 HO169.out (fun _ hk => hk.2.2))); replace HB := zaa.mk (hb); replace HK := zaa.mk (Kept.zdm (S := (fun k_ => P0_ k_)) hg (by repeat (first | (with_reducible first | exact HK.out | apply Kept.alloc | apply Kept.drewN | apply Kept.drew | refine Kept.setCell ?_ (.inr GW156.out) _) | exact HK.out)) (fun k_ e_ => (HO169.out.1 k_ e_).1)); replace HR163 := zaa.mk ((show Kd.C k50 w32 (some ad157) y160.length y160 from by rw [Ny160.out]; exact Kd.zde (m := (x5_1 : Int).toNat) ((Kd.R_reads' (Kd.zb0 (ok := (fun k_ => (P0_ k_ ∨ w.heap.size ≤ k_) ∧ k_ ≠ gb156)) (Yr HO_0) hg hat)).2.2) KL27.out)); replace HR173 := zaa.mk ((show Kd.C k50 w32 A31 y170.length y170 from by rw [Ny170.out, KA31.out]; exact Kd.zef (m := (x5_1 : Int).toNat) (c := co24) ((Kd.R_reads' (Kd.zb0 (ok := (fun k_ => (P0_ k_ ∨ w.heap.size ≤ k_) ∧ k_ ≠ gb156)) (Yr HO_0) hg hat)).2.2) KL31.out ((Kd.R_reads' (Kd.zb0 (ok := (fun k_ => (P0_ k_ ∨ w.heap.size ≤ k_) ∧ k_ ≠ gb156)) (Yr HO_0) hg hat)).2.1))); replace HO_0 := zaa.mk (Kd.zb0 (ok := (fun k_ => (P0_ k_ ∨ w.heap.size ≤ k_) ∧ k_ ≠ gb156)) (Yr HO_0) hg hat); have HO176 := zaa.mk (ho); clear HO169; clear ho hb hg hat))
           go_ret
           exact ⟨_, by first | rfl | (simp [errW_none, errW_some] <;> rfl) | (simp [*, errW_none, errW_some] <;> rfl), by (with_reducible repeat (first | apply Kd.R_alloc | apply Kd.zby | apply Kd.zbm)); exact Kd.za7 HO176.out (fun _ hk => hk.1), by repeat (first | (with_reducible first | exact HB.out | apply za5 | apply zau | apply zar | refine za9 ?_ GE156.out) | exact HB.out), by repeat (first | (with_reducible first | exact HK.out | apply Kept.alloc | apply Kept.drewN | apply Kept.drew | refine Kept.setCell ?_ (.inr GW156.out) _) | exact HK.out)⟩
          ·rw [if_neg c22] at H
           exact absurd H (by simp)
         ·rw [if_neg c19] at H
          exact absurd H (by simp)
        ·rw [if_neg c18] at H
         exact absurd H (by simp)
       ·rw [if_neg c17] at H
        exact absurd H (by simp)
    ·rw [if_neg c5] at H
     exact absurd H (by simp)
   ·rw [if_neg c4] at H
    have c4b0 := decide_eq_false c4
    clear c4
    by_cases c33 : 0 ≤ x5_1
    ·rw [if_pos c33] at H
     have c33b0 := eq_true c33
     have c33b1 := decide_eq_true c33
     clear c33
     by_cases c34 : x5_1 ≤ (l0.length : Int)
     ·rw [if_pos c34] at H
      have c34b0 := eq_true c34
      have c34b1 := decide_eq_true c34
      clear c34
      obtain ⟨y177, hy177⟩ : ∃ y_ : List (S50), y_ = (l0.take (x5_1 : Int).toNat) := ⟨_, rfl⟩
      replace H : (if ([] : List (S50)).length + y177.length < 5864062014805 then ((some (([] : List (S50)) ++ y177 : List (S50))).bind fun y181 => (if y181.length < 5864062014805 then ((some (y181 ++ [(⟨a1_0, a1_1, a1_2⟩ : S50)] : List (S50))).bind fun y184 => ((some (l0.drop (x5_1 : Int).toNat : List (S50))).bind fun y187 => (if y184.length + y187.length < 5864062014805 then (some (y184 ++ y187)) else (none)))) else (none))) else (none)) = some r := by first | (rw [hy177]; with_reducible exact H) | (have H2_ := (Option.bind_some _ _).symm.trans H; rw [hy177]; with_reducible exact H2_) | (have H2_ := (Option.bind_some _ _).symm.trans H; with_reducible exact H2_) | with_reducible exact H | (rw [hy177]; exact H) | exact H
      have Ny177 := zaa.mk hy177;clear hy177
      by_cases c35 : ([] : List (S50)).length + y177.length < 5864062014805
      ·rw [if_pos c35] at H
       have LMc35 := zaa.mk c35;clear c35
       obtain ⟨y181, hy181⟩ : ∃ y_ : List (S50), y_ = (([] : List (S50)) ++ y177) := ⟨_, rfl⟩
       replace H : (if y181.length < 5864062014805 then ((some (y181 ++ [(⟨a1_0, a1_1, a1_2⟩ : S50)] : List (S50))).bind fun y184 => ((some (l0.drop (x5_1 : Int).toNat : List (S50))).bind fun y187 => (if y184.length + y187.length < 5864062014805 then (some (y184 ++ y187)) else (none)))) else (none)) = some r := by first | (rw [hy181]; with_reducible exact H) | (have H2_ := (Option.bind_some _ _).symm.trans H; rw [hy181]; with_reducible exact H2_) | (have H2_ := (Option.bind_some _ _).symm.trans H; with_reducible exact H2_) | with_reducible exact H | (rw [hy181]; exact H) | exact H
       have Ny181 := zaa.mk hy181;clear hy181
       by_cases c36 : y181.length < 5864062014805
       ·rw [if_pos c36] at H
        have LMc36 := zaa.mk c36;clear c36
        obtain ⟨y184, hy184⟩ : ∃ y_ : List (S50), y_ = (y181 ++ [(⟨a1_0, a1_1, a1_2⟩ : S50)]) := ⟨_, rfl⟩
        replace H : ((some (l0.drop (x5_1 : Int).toNat : List (S50))).bind fun y187 => (if y184.length + y187.length < 5864062014805 then (some (y184 ++ y187)) else (none))) = some r := by first | (rw [hy184]; with_reducible exact H) | (have H2_ := (Option.bind_some _ _).symm.trans H; rw [hy184]; with_reducible exact H2_) | (have H2_ := (Option.bind_some _ _).symm.trans H; with_reducible exact H2_) | with_reducible exact H | (rw [hy184]; exact H) | exact H
        have Ny184 := zaa.mk hy184;clear hy184
        have c37b0 := eq_true (of_decide_eq_true (by first | (with_reducible assumption) | assumption) : 0 ≤ x5_1)
        have c38b0 := eq_true (of_decide_eq_true (by first | (with_reducible assumption) | assumption) : x5_1 ≤ (l0.length : Int))
        obtain ⟨y187, hy187⟩ : ∃ y_ : List (S50), y_ = (l0.drop (x5_1 : Int).toNat) := ⟨_, rfl⟩
        replace H : (if y184.length + y187.length < 5864062014805 then (some (y184 ++ y187)) else (none)) = some r := by first | (rw [hy187]; with_reducible exact H) | (have H2_ := (Option.bind_some _ _).symm.trans H; rw [hy187]; with_reducible exact H2_) | (have H2_ := (Option.bind_some _ _).symm.trans H; with_reducible exact H2_) | with_reducible exact H | (rw [hy187]; exact H) | exact H
        have Ny187 := zaa.mk hy187;clear hy187
        by_cases c39 : y184.length + y187.length < 5864062014805
        ·rw [if_pos c39] at H
         have LMc39 := zaa.mk c39;clear c39
         obtain ⟨y191, hy191⟩ : ∃ y_ : List (S50), y_ = (y184 ++ y187) := ⟨_, rfl⟩
         replace H : (some y191) = some r := by first | (rw [hy191]; with_reducible exact H) | (have H2_ := (Option.bind_some _ _).symm.trans H; rw [hy191]; with_reducible exact H2_) | (have H2_ := (Option.bind_some _ _).symm.trans H; with_reducible exact H2_) | with_reducible exact H | (rw [hy191]; exact H) | exact H
         have Ny191 := zaa.mk hy191;clear hy191;obtain rfl := Option.some.inj H
         try go_wp2
         replace HO_0 := zaa.mk (Kd.zbm HO_0.out)
         replace BK156 := zaa.mk (zah BK156.out)
         replace HK := zaa.mk (Kept.drew HK.out)
         replace HB := zaa.mk (zar HB.out)
         obtain ⟨Ao41, co41, eo41⟩ := Kd.zbn HO_0.out
         (first | subst eo41 | (injection eo41 with f1_ f2_ f3_; have f4_ := f1_.symm; have f5_ := f3_.symm; clear f1_ f2_ f3_; subst f4_; subst f5_))
         refine zbp (n := 12) (S := fun w' => True) (ds := []) (Ymk 12 0) (by kernel_rfl) rfl rfl trivial (fun hHeld => ?_); refine zbw zaq.tab2 zaq.bits2 (fun HT_ HW_ => ?_)
         generalize wr.drew = w40 at HO_0 BK156 HK HB hHeld ⊢
         refine Ypt 0 7 12 1 HT_ ?_
         refine Ypt 1 8 12 3 HT_ ?_
         refine Ypt 2 9 12 7 HT_ ?_
         refine Ypt 3 10 12 15 HT_ ?_
         refine Ypt 4 11 12 31 HT_ ?_
         refine Ypu 5 12 12 63 HT_ ?_
         refine Ypu 6 13 12 127 HT_ ?_
         refine Ypu 7 14 12 255 HT_ ?_
         refine Ypu 8 15 12 511 HT_ ?_
         refine Ypu 9 16 12 1023 HT_ ?_
         refine Ypu 10 17 12 2047 HT_ ?_
         refine Ypt 11 18 12 4095 HT_ ?_
         refine zbs (zcc HT_.out (by kernel_rfl)) ?_
         try go_wp2
         replace HO_0 := zaa.mk (Kd.zbm HO_0.out)
         replace BK156 := zaa.mk (zah BK156.out)
         replace HK := zaa.mk (Kept.drew HK.out)
         replace HB := zaa.mk (zar HB.out)
         refine zbp (n := 12) (S := fun w' => True) (ds := []) (Ymk 12 0) (by kernel_rfl) rfl rfl trivial (fun hHeld => ?_); refine zbw zaq.tab4 zaq.bits4 (fun HT_ HW_ => ?_)
         generalize w40.drew = w42 at HO_0 BK156 HK HB hHeld ⊢
         refine Ypt 0 21 12 1 HT_ ?_
         refine Ypt 1 22 12 3 HT_ ?_
         refine Ypt 2 23 12 7 HT_ ?_
         refine Ypt 3 24 12 15 HT_ ?_
         refine Ypt 4 25 12 31 HT_ ?_
         refine Ypu 5 26 12 63 HT_ ?_
         refine Ypu 6 27 12 127 HT_ ?_
         refine Ypu 7 28 12 255 HT_ ?_
         refine Ypu 8 29 12 511 HT_ ?_
         refine Ypu 9 30 12 1023 HT_ ?_
         refine Ypu 10 31 12 2047 HT_ ?_
         refine Ypt 11 32 12 4095 HT_ ?_
         refine zbs (zcc HT_.out (by kernel_rfl)) ?_
         have q43 : (x5_1 : Int) ≤ ((l0.length : Int) : Int) := Yod
         obtain ⟨i043, hi043, _, hsz43, _⟩ := info_parts zd1
         have hroom43 : l0.length ≤ co41 := (Kd.R_reads' HO_0.out).2.1
         have hC43 : Kd.C k50 _ Ao41 l0.length l0 := (Kd.R_reads' HO_0.out).2.2
         have hcut43 := cut_to (P := Tryz.prog) 45 50 .i64 Tryz.underlying45 hi043 Ao41 l0.length co41 x5_1 (of_decide_eq_true (by first | (with_reducible assumption) | assumption)) q43 hroom43
         have hr43 := Kd.zde (m := (x5_1 : Int).toNat) hC43 (by omega)
         have hy43 : y177.length = (x5_1 : Int).toNat := (by rw [Ny177.out, List.length_take]; omega)
         rw [← Ny177.out] at hr43
         rw [← hy43] at hcut43
         have HR180 := zaa.mk hr43
         have HC180 := zaa.mk (show y177.length ≤ co41 from by omega)
         clear hr43 hC43 hroom43 hi043 hsz43;have KY43 := zaa.mk hy43;clear hy43
         have KL43 := zaa.mk (show (x5_1 : Int).toNat ≤ l0.length from by omega)
         replace q43 := eq_true q43
         try go_wp2_with (first | ((with_reducible refine zb5 (b := .append) (xs := #[.tmp 34, .tmp 37]) rfl ?_); at_builtin; refine Kd.zcd k50 (w0 := w0) w0.heap.size rfl (.tmp 34) (.tmp 37) 45 50 (.agg #[(.int .i64 0), (.int .i64 0), (.int .i64 0)]) 24 rfl Tryz.underlying45 zd1 rfl (by decide) (by omega) (.slice none 0 0) ([] : List (S50)) y177 _ _ _ (fun k_ => (P0_ k_ ∨ w.heap.size ≤ k_) ∧ some k_ ≠ (.slice Ao41 l0.length co41 : Value).ownBlock ∧ k_ ≠ gb156) (fun _ => False) rfl rfl ?aO ?aR (fun _ _ h => h) (fun _ h => h.elim) ?aF ?aB ?aS ?aL ?_; (case aR => repeat (first | exact (by repeat (first | (with_reducible exact HR180.out) | (with_reducible refine Kd.C_alloc ?_ _) | (with_reducible refine Kd.zbj ?_ _) | (with_reducible refine Kd.C_drew ?_) | exact HR180.out)) | (with_reducible refine Kd.C_alloc ?_ _) | (with_reducible refine Kd.zbj ?_ _) | (with_reducible refine Kd.C_drew ?_))); (case aB => exact Yb_PItemAllx7_0); (case aF => exact (fun k_ hk => ⟨(.inr (Nat.le_trans (by first | exact HK.out.1 | exact (show Kept w _ (fun k_ => P0_ k_) from by repeat (first | (with_reducible first | exact HK.out | apply Kept.alloc | apply Kept.drewN | apply Kept.drew | refine Kept.setCell ?_ (.inr GW156.out) _) | exact HK.out)).1) hk)), Kd.fresh' (Kd.R_lt (Yr HO_0)) k_ hk, Kd.zb4 (g := gb156) (o := .cells #[.int .i64 a1_0, .int .i64 a1_1, .int .i64 a1_2] 50 (0, 0)) (Yg BK156) k_ hk⟩)); (case aO => exact ((Kd.zdi _ _ _ _ (fun k_ => (P0_ k_ ∨ w.heap.size ≤ k_) ∧ some k_ ≠ (.slice Ao41 l0.length co41 : Value).ownBlock ∧ k_ ≠ gb156)))); (case aS => exact (za0 Yb_PItemAllx7_0)); (case aL => have := LMc35.out; omega); intro v182 w44 ho hb hg hat; rw [← Ny181.out] at ho; replace BK156 := zaa.mk (zb9 (g := gb156) (o := .cells #[.int .i64 a1_0, .int .i64 a1_1, .int .i64 a1_2] 50 (0, 0)) (Yg BK156) hg (by simp [Value.ownBlock])); replace HB := zaa.mk (hb); replace HK := zaa.mk (Kept.zdm (S := (fun k_ => P0_ k_)) hg (by repeat (first | (with_reducible first | exact HK.out | apply Kept.alloc | apply Kept.drewN | apply Kept.drew | refine Kept.setCell ?_ (.inr GW156.out) _) | exact HK.out)) (fun k_ e_ => by simp [Value.ownBlock] at e_)); replace HR180 := zaa.mk ((show Kd.C k50 w44 Ao41 y177.length y177 from by rw [Ny177.out]; exact Kd.zde (m := (x5_1 : Int).toNat) ((Kd.R_reads' (Kd.zb0 (Kd.zds (Yr HO_0)) hg hat)).2.2) KL43.out)); replace HO_0 := zaa.mk (Kd.zb0 (Kd.zds (Yr HO_0)) hg hat); have HO183 := zaa.mk (ho); clear ho hb hg hat; obtain ⟨hcz45_0, hfz45_0, hcz45_1, hfz45_1, hcz45_2, hfz45_2⟩ := Yc3 BK156.out) | ((with_reducible refine zb5 (b := .append) (xs := #[.tmp 39, .tmp 41]) rfl ?_); at_builtin; refine Kd.zdg k50 (w0 := w0) w0.heap.size rfl (.tmp 39) (.tmp 41) 45 50 (.agg #[(.int .i64 0), (.int .i64 0), (.int .i64 0)]) 24 rfl Tryz.underlying45 zd1 rfl (by decide) (by omega) v182 y181 (⟨a1_0, a1_1, a1_2⟩ : S50) [.int .i64 a1_0, .int .i64 a1_1, .int .i64 a1_2] (fun k_ => (P0_ k_ ∨ w.heap.size ≤ k_) ∧ some k_ ≠ (.slice Ao41 l0.length co41 : Value).ownBlock ∧ k_ ≠ gb156) (fun _ => False) rfl rfl ?aP (fun _ hk => hk.elim) ?aF ?aO ?aB ?aS ?aL ?_; (case aP => exact zhc _ _ _ (⟨a1_0, a1_1, a1_2⟩ : S50)); (case aB => exact Yb_PItemAllx7_0); (case aF => exact (fun k_ hk => ⟨(.inr (Nat.le_trans (by first | exact HK.out.1 | exact (show Kept w _ (fun k_ => P0_ k_) from by repeat (first | (with_reducible first | exact HK.out | apply Kept.alloc | apply Kept.drewN | apply Kept.drew | refine Kept.setCell ?_ (.inr GW156.out) _) | exact HK.out)).1) hk)), Kd.fresh' (Kd.R_lt (Yr HO_0)) k_ hk, Kd.zb4 (g := gb156) (o := .cells #[.int .i64 a1_0, .int .i64 a1_1, .int .i64 a1_2] 50 (0, 0)) (Yg BK156) k_ hk⟩)); (case aO => exact (Yr HO183)); (case aS => exact (za0 Yb_PItemAllx7_0)); (case aL => have := LMc36.out; omega); intro v185 w46 ho hb hg hat; rw [← Ny184.out] at ho; replace BK156 := zaa.mk (zb9 (g := gb156) (o := .cells #[.int .i64 a1_0, .int .i64 a1_1, .int .i64 a1_2] 50 (0, 0)) (Yg BK156) hg (Kd.zg5 HO183.out (fun _ hk => hk.2.2))); replace HB := zaa.mk (hb); replace HK := zaa.mk (Kept.zdm (S := (fun k_ => P0_ k_)) hg (by repeat (first | (with_reducible first | exact HK.out | apply Kept.alloc | apply Kept.drewN | apply Kept.drew | refine Kept.setCell ?_ (.inr GW156.out) _) | exact HK.out)) (fun k_ e_ => (HO183.out.1 k_ e_).1)); replace HR180 := zaa.mk ((show Kd.C k50 w46 Ao41 y177.length y177 from by rw [Ny177.out]; exact Kd.zde (m := (x5_1 : Int).toNat) ((Kd.R_reads' (Kd.zb0 (ok := (fun k_ => (P0_ k_ ∨ w.heap.size ≤ k_) ∧ k_ ≠ gb156)) (Yr HO_0) hg hat)).2.2) KL43.out)); replace HO_0 := zaa.mk (Kd.zb0 (ok := (fun k_ => (P0_ k_ ∨ w.heap.size ≤ k_) ∧ k_ ≠ gb156)) (Yr HO_0) hg hat); have HO186 := zaa.mk (ho); clear HO183; clear ho hb hg hat; have q47 : (x5_1 : Int) ≤ ((l0.length : Int) : Int) := Yod; obtain ⟨i047, hi047, _, hsz47, _⟩ := info_parts zd1; have hroom47 : l0.length ≤ co41 := (Kd.R_reads' HO_0.out).2.1; have hC47 : Kd.C k50 _ Ao41 l0.length l0 := (Kd.R_reads' HO_0.out).2.2; have q047 : (0 : Int) ≤ (x5_1 : Int) := Yod; have hcut47 := zek (P := Tryz.prog) 45 50 .i64 Tryz.underlying45 hi047 3 hsz47 Ao41 l0.length co41 x5_1 q047 q47; have hr47 := Kd.zef (m := (x5_1 : Int).toNat) (c := co41) hC47 (by omega) hroom47; obtain ⟨A47, hA47⟩ : ∃ A1, A1 = (if co41 = (x5_1 : Int).toNat then Ao41 else (Ao41 : Option Addr).map (·.add ((x5_1 : Int).toNat * 3))) := ⟨_, rfl⟩; obtain ⟨c47, hc47⟩ : ∃ c1, c1 = co41 - (x5_1 : Int).toNat := ⟨_, rfl⟩; have hy47 : y187.length = l0.length - (x5_1 : Int).toNat := (by rw [Ny187.out, List.length_drop] <;> omega); rw [show (l0).drop (x5_1 : Int).toNat = y187 from Ny187.out.symm] at hr47; replace hr47 : Kd.C k50 _ A47 y187.length y187 := (by rw [hA47]; exact hr47); rw [← hy47, ← hA47, ← hc47] at hcut47; have HR190 := zaa.mk hr47; have HC190 := zaa.mk (show y187.length ≤ c47 from by rw [hy47, hc47]; exact Nat.sub_le_sub_right hroom47 _); clear hr47 hC47 hroom47 hi047 hsz47 hc47; have KY47 := zaa.mk hy47; have KA47 := zaa.mk hA47; clear hy47 hA47; have KL47 := zaa.mk (show (x5_1 : Int).toNat ≤ l0.length from by omega); replace q47 := eq_true q47) | ((with_reducible refine zb5 (b := .append) (xs := #[.tmp 43, .tmp 46]) rfl ?_); at_builtin; refine Kd.zcd k50 (w0 := w0) w0.heap.size rfl (.tmp 43) (.tmp 46) 45 50 (.agg #[(.int .i64 0), (.int .i64 0), (.int .i64 0)]) 24 rfl Tryz.underlying45 zd1 rfl (by decide) (by omega) v185 y184 y187 _ _ _ (fun k_ => (P0_ k_ ∨ w.heap.size ≤ k_) ∧ some k_ ≠ (.slice Ao41 l0.length co41 : Value).ownBlock ∧ k_ ≠ gb156) (fun _ => False) rfl rfl ?aO ?aR (fun _ _ h => h) (fun _ h => h.elim) ?aF ?aB ?aS ?aL ?_; (case aR => repeat (first | exact (by repeat (first | (with_reducible exact HR190.out) | (with_reducible refine Kd.C_alloc ?_ _) | (with_reducible refine Kd.zbj ?_ _) | (with_reducible refine Kd.C_drew ?_) | exact HR190.out)) | (with_reducible refine Kd.C_alloc ?_ _) | (with_reducible refine Kd.zbj ?_ _) | (with_reducible refine Kd.C_drew ?_))); (case aB => exact Yb_PItemAllx7_0); (case aF => exact (fun k_ hk => ⟨(.inr (Nat.le_trans (by first | exact HK.out.1 | exact (show Kept w _ (fun k_ => P0_ k_) from by repeat (first | (with_reducible first | exact HK.out | apply Kept.alloc | apply Kept.drewN | apply Kept.drew | refine Kept.setCell ?_ (.inr GW156.out) _) | exact HK.out)).1) hk)), Kd.fresh' (Kd.R_lt (Yr HO_0)) k_ hk, Kd.zb4 (g := gb156) (o := .cells #[.int .i64 a1_0, .int .i64 a1_1, .int .i64 a1_2] 50 (0, 0)) (Yg BK156) k_ hk⟩)); (case aO => exact (Yr HO186)); (case aS => exact (za0 Yb_PItemAllx7_0)); (case aL => have := LMc39.out; omega); intro v192 w48 ho hb hg hat; rw [← Ny191.out] at ho; replace BK156 := zaa.mk (zb9 (g := gb156) (o := .cells #[.int .i64 a1_0, .int .i64 a1_1, .int .i64 a1_2] 50 (0, 0)) (Yg BK156) hg (Kd.zg5 HO186.out (fun _ hk => hk.2.2))); replace HB := zaa.mk (hb); replace HK := zaa.mk (Kept.zdm (S := (fun k_ => P0_ k_)) hg (by repeat (first | (with_reducible first | exact HK.out | apply Kept.alloc | apply Kept.drewN | apply Kept.drew | refine Kept.setCell ?_ (.inr GW156.out) _) | exact HK.out)) (fun k_ e_ => (HO186.out.1 k_ e_).1)); replace HR180 := zaa.mk ((show Kd.C k50 w48 Ao41 y177.length y177 from by rw [Ny177.out]; exact Kd.zde (m := (x5_1 : Int).toNat) ((Kd.R_reads' (Kd.zb0 (ok := (fun k_ => (P0_ k_ ∨ w.heap.size ≤ k_) ∧ k_ ≠ gb156)) (Yr HO_0) hg hat)).2.2) KL43.out)); replace HR190 := zaa.mk ((show Kd.C k50 w48 A47 y187.length y187 from by rw [Ny187.out, KA47.out]; exact Kd.zef (m := (x5_1 : Int).toNat) (c := co41) ((Kd.R_reads' (Kd.zb0 (ok := (fun k_ => (P0_ k_ ∨ w.heap.size ≤ k_) ∧ k_ ≠ gb156)) (Yr HO_0) hg hat)).2.2) KL47.out ((Kd.R_reads' (Kd.zb0 (ok := (fun k_ => (P0_ k_ ∨ w.heap.size ≤ k_) ∧ k_ ≠ gb156)) (Yr HO_0) hg hat)).2.1))); replace HO_0 := zaa.mk (Kd.zb0 (ok := (fun k_ => (P0_ k_ ∨ w.heap.size ≤ k_) ∧ k_ ≠ gb156)) (Yr HO_0) hg hat); have HO193 := zaa.mk (ho); clear HO186; clear ho hb hg hat))
         go_ret
         exact ⟨_, by first | rfl | (simp [errW_none, errW_some] <;> rfl) | (simp [*, errW_none, errW_some] <;> rfl), by (with_reducible repeat (first | apply Kd.R_alloc | apply Kd.zby | apply Kd.zbm)); exact Kd.za7 HO193.out (fun _ hk => hk.1), by repeat (first | (with_reducible first | exact HB.out | apply za5 | apply zau | apply zar | refine za9 ?_ GE156.out) | exact HB.out), by repeat (first | (with_reducible first | exact HK.out | apply Kept.alloc | apply Kept.drewN | apply Kept.drew | refine Kept.setCell ?_ (.inr GW156.out) _) | exact HK.out)⟩
        ·rw [if_neg c39] at H
         exact absurd H (by simp)
       ·rw [if_neg c36] at H
        exact absurd H (by simp)
      ·rw [if_neg c35] at H
       exact absurd H (by simp)
     ·rw [if_neg c34] at H
      exact absurd H (by simp)
    ·rw [if_neg c33] at H
     exact absurd H (by simp)
section
end
def zbt.l0 : Nat → List Int → Int → Int → Option (List Int)
 | 0, _, _, _ => none
 | k + 1, x0, x1, x5 => if x5 < (x0.length : Int) then (if 0 ≤ x5 then (if (rd x0 x5) < x1 then (zbt.l0 k x0 x1 (wrap64 (x5 + 1))) else (if (rd x0 x5) = x1 then (some x0) else (if x5 ≤ (x0.length : Int) then ((some (x0.take (x5 : Int).toNat : List Int)).bind fun y196 => (if ([] : List Int).length + y196.length < 17592186044416 then ((some (([] : List Int) ++ y196 : List Int)).bind fun y200 => (if y200.length < 17592186044416 then ((some (y200 ++ [x1] : List Int)).bind fun y203 => ((some (x0.drop (x5 : Int).toNat : List Int)).bind fun y206 => (if y203.length + y206.length < 17592186044416 then (some (y203 ++ y206)) else (none)))) else (none))) else (none))) else (none)))) else (none)) else (if 0 ≤ x5 then (if x5 ≤ (x0.length : Int) then ((some (x0.take (x5 : Int).toNat : List Int)).bind fun y213 => (if ([] : List Int).length + y213.length < 17592186044416 then ((some (([] : List Int) ++ y213 : List Int)).bind fun y217 => (if y217.length < 17592186044416 then ((some (y217 ++ [x1] : List Int)).bind fun y220 => ((some (x0.drop (x5 : Int).toNat : List Int)).bind fun y223 => (if y220.length + y223.length < 17592186044416 then (some (y220 ++ y223)) else (none)))) else (none))) else (none))) else (none)) else (none))
def zbt.f (k : Nat) (l0 : List Int) (a1 : Int) : Option (List Int) := zbt.l0 k l0 a1 0
theorem zbt.calls (k : Nat) (P0_ : Nat → Prop) (u9000_ : Value) (l0 : List Int) (a1 : Int) (r : List Int) (w0 w : World) (hB : Below w0.heap.size w0 w) (ho0 : Kd.R (Kd.int .i64) 3 w w0.heap.size P0_ u9000_ l0) (h : zbt.f k l0 a1 = some r) :
  Calls Tryz.prog 54 #[u9000_, .int .i64 a1] w fun e w' => ∃ v0_ : Value, e = .returned (v0_) ∧ Kd.R (Kd.int .i64) 3 w' w0.heap.size (fun k_ => (P0_ k_ ∨ w.heap.size ≤ k_)) v0_ r ∧ Below w0.heap.size w0 w' ∧ Kept w w' (fun k_ => P0_ k_) := by
 have HO0 := zaa.mk (show Kd.R (Kd.int .i64) 3 w w0.heap.size (fun k_ => (P0_ k_ ∨ w.heap.size ≤ k_)) u9000_ l0 from Kd.za7 ho0 (fun k_ hk => (.inl hk)))
 have HK := zaa.mk (Kept.refl w (fun k_ => P0_ k_))
 have HW0 := zaa.mk hB.size
 have HB := zaa.mk hB;clear hB
 have H : (zbt.l0 k l0 a1 0) = some r := h
 clear h
 have H' := zaa.mk H
 clear H
 go_enter Tryz.func54, Tryz.ntmps54
 go_wp2
 go_loopg [5] k (fun kq v5 w' => ∃ (x5_1 : Int), v5 = .int .i64 x5_1 ∧ zaa (zbt.l0 kq l0 a1 x5_1 = some r) ∧ zaa (kq ≤ k) ∧ zaa (Kd.R (Kd.int .i64) 3 w' w0.heap.size (fun k_ => (P0_ k_ ∨ w.heap.size ≤ k_)) u9000_ l0) ∧ zaa (Kept w w' (fun k_ => P0_ k_)) ∧ zaa (Below w0.heap.size w0 w'))
 case atStart => exact ⟨(0), Yfs, H', ⟨Nat.le_refl _⟩, ⟨Yr HO0⟩, ⟨by repeat (first | (with_reducible first | exact HK.out | apply Kept.alloc | apply Kept.drewN | apply Kept.drew) | exact HK.out)⟩, ⟨Ybe⟩⟩
 case round =>
  clear H'
  obtain ⟨x5_1, rfl, HA, HK1, HO_0, HK, HB⟩ := hrel
  cases gk with
  | zero => exact absurd HA.out (by simp [zbt.l0])
  | succ k1 =>
   have H := HA.out;clear HA
   simp only [zbt.l0] at H
   by_cases c3 : x5_1 < (l0.length : Int)
   ·rw [if_pos c3] at H
    have c3b0 := decide_eq_true c3
    clear c3
    by_cases c4 : 0 ≤ x5_1
    ·rw [if_pos c4] at H
     have c4b0 := decide_eq_true c4
     clear c4
     by_cases c5 : (rd l0 x5_1) < a1
     ·rw [if_pos c5] at H
      have c5b0 := decide_eq_true c5
      clear c5
      have H' := zaa.mk H
      clear H
      obtain ⟨Ao6, co6, eo6⟩ := Kd.zbn HO_0.out
      subst eo6
      have p194 : 0 ≤ (x5_1 : Int) := Yod
      have q194 : x5_1 < (l0.length : Int) := Yod
      obtain ⟨ad194, e194, hx194_0⟩ := Kd.zeu (Kd.R_reads' HO_0.out).2.2 x5_1 p194 q194
      cases e194
      replace p194 := eq_true p194
      replace q194 := eq_true q194
      go_wp2
      go_roundg k1
      case measure => have := HK1.out; omega
      case rel => exact ⟨(wrap64 (x5_1 + 1)), Yfs, H', ⟨by have := HK1.out; omega⟩, ⟨Yr HO_0⟩, ⟨by repeat (first | (with_reducible first | exact HK.out | apply Kept.alloc | apply Kept.drewN | apply Kept.drew) | exact HK.out)⟩, ⟨Ybe⟩⟩
     ·rw [if_neg c5] at H
      have c5b0 := decide_eq_false c5
      clear c5
      by_cases c7 : (rd l0 x5_1) = a1
      ·rw [if_pos c7] at H
       have c7b0 : ((rd l0 x5_1) == a1) = true := beq_iff_eq.mpr c7
       have c7b1 : ((rd l0 x5_1) != a1) = false := bne_eq_false_iff_eq.mpr c7
       clear c7;obtain rfl := Option.some.inj H
       obtain ⟨Ao8, co8, eo8⟩ := Kd.zbn HO_0.out
       subst eo8
       have p194 : 0 ≤ (x5_1 : Int) := Yod
       have q194 : x5_1 < (l0.length : Int) := Yod
       obtain ⟨ad194, e194, hx194_0⟩ := Kd.zeu (Kd.R_reads' HO_0.out).2.2 x5_1 p194 q194
       cases e194
       replace p194 := eq_true p194
       replace q194 := eq_true q194
       have p195 : 0 ≤ (x5_1 : Int) := Yod
       have q195 : x5_1 < (l0.length : Int) := Yod
       obtain ⟨ad195, e195, hx195_0⟩ := Kd.zeu (Kd.R_reads' HO_0.out).2.2 x5_1 p195 q195
       obtain rfl : ad194 = ad195 := (by injection e195)
       replace p195 := eq_true p195
       replace q195 := eq_true q195
       go_wp2;go_ret
       exact ⟨_, by first | rfl | (simp [errW_none, errW_some] <;> rfl) | (simp [*, errW_none, errW_some] <;> rfl), by (with_reducible repeat (first | apply Kd.R_alloc | apply Kd.zby | apply Kd.zbm)); exact HO_0.out, by repeat (first | (with_reducible first | exact HB.out | apply za5 | apply zau | apply zar) | exact HB.out), by repeat (first | (with_reducible first | exact HK.out | apply Kept.alloc | apply Kept.drewN | apply Kept.drew) | exact HK.out)⟩
      ·rw [if_neg c7] at H
       have c7b0 : ((rd l0 x5_1) == a1) = false := beq_eq_false_iff_ne.mpr c7
       have c7b1 : ((rd l0 x5_1) != a1) = true := bne_iff_ne.mpr c7
       have c9b0 := eq_true (of_decide_eq_true (by first | (with_reducible assumption) | assumption) : 0 ≤ x5_1)
       by_cases c10 : x5_1 ≤ (l0.length : Int)
       ·rw [if_pos c10] at H
        have c10b0 := eq_true c10
        have c10b1 := decide_eq_true c10
        clear c10
        obtain ⟨y196, hy196⟩ : ∃ y_ : List Int, y_ = (l0.take (x5_1 : Int).toNat) := ⟨_, rfl⟩
        replace H : (if ([] : List Int).length + y196.length < 17592186044416 then ((some (([] : List Int) ++ y196 : List Int)).bind fun y200 => (if y200.length < 17592186044416 then ((some (y200 ++ [a1] : List Int)).bind fun y203 => ((some (l0.drop (x5_1 : Int).toNat : List Int)).bind fun y206 => (if y203.length + y206.length < 17592186044416 then (some (y203 ++ y206)) else (none)))) else (none))) else (none)) = some r := by first | (rw [hy196]; with_reducible exact H) | (have H2_ := (Option.bind_some _ _).symm.trans H; rw [hy196]; with_reducible exact H2_) | (have H2_ := (Option.bind_some _ _).symm.trans H; with_reducible exact H2_) | with_reducible exact H | (rw [hy196]; exact H) | exact H
        have Ny196 := zaa.mk hy196;clear hy196
        by_cases c11 : ([] : List Int).length + y196.length < 17592186044416
        ·rw [if_pos c11] at H
         have LMc11 := zaa.mk c11;clear c11
         obtain ⟨y200, hy200⟩ : ∃ y_ : List Int, y_ = (([] : List Int) ++ y196) := ⟨_, rfl⟩
         replace H : (if y200.length < 17592186044416 then ((some (y200 ++ [a1] : List Int)).bind fun y203 => ((some (l0.drop (x5_1 : Int).toNat : List Int)).bind fun y206 => (if y203.length + y206.length < 17592186044416 then (some (y203 ++ y206)) else (none)))) else (none)) = some r := by first | (rw [hy200]; with_reducible exact H) | (have H2_ := (Option.bind_some _ _).symm.trans H; rw [hy200]; with_reducible exact H2_) | (have H2_ := (Option.bind_some _ _).symm.trans H; with_reducible exact H2_) | with_reducible exact H | (rw [hy200]; exact H) | exact H
         have Ny200 := zaa.mk hy200;clear hy200
         by_cases c12 : y200.length < 17592186044416
         ·rw [if_pos c12] at H
          have LMc12 := zaa.mk c12;clear c12
          obtain ⟨y203, hy203⟩ : ∃ y_ : List Int, y_ = (y200 ++ [a1]) := ⟨_, rfl⟩
          replace H : ((some (l0.drop (x5_1 : Int).toNat : List Int)).bind fun y206 => (if y203.length + y206.length < 17592186044416 then (some (y203 ++ y206)) else (none))) = some r := by first | (rw [hy203]; with_reducible exact H) | (have H2_ := (Option.bind_some _ _).symm.trans H; rw [hy203]; with_reducible exact H2_) | (have H2_ := (Option.bind_some _ _).symm.trans H; with_reducible exact H2_) | with_reducible exact H | (rw [hy203]; exact H) | exact H
          have Ny203 := zaa.mk hy203;clear hy203
          have c13b0 := eq_true (of_decide_eq_true (by first | (with_reducible assumption) | assumption) : 0 ≤ x5_1)
          have c14b0 := eq_true (of_decide_eq_true (by first | (with_reducible assumption) | assumption) : x5_1 ≤ (l0.length : Int))
          obtain ⟨y206, hy206⟩ : ∃ y_ : List Int, y_ = (l0.drop (x5_1 : Int).toNat) := ⟨_, rfl⟩
          replace H : (if y203.length + y206.length < 17592186044416 then (some (y203 ++ y206)) else (none)) = some r := by first | (rw [hy206]; with_reducible exact H) | (have H2_ := (Option.bind_some _ _).symm.trans H; rw [hy206]; with_reducible exact H2_) | (have H2_ := (Option.bind_some _ _).symm.trans H; with_reducible exact H2_) | with_reducible exact H | (rw [hy206]; exact H) | exact H
          have Ny206 := zaa.mk hy206;clear hy206
          by_cases c15 : y203.length + y206.length < 17592186044416
          ·rw [if_pos c15] at H
           have LMc15 := zaa.mk c15;clear c15
           obtain ⟨y210, hy210⟩ : ∃ y_ : List Int, y_ = (y203 ++ y206) := ⟨_, rfl⟩
           replace H : (some y210) = some r := by first | (rw [hy210]; with_reducible exact H) | (have H2_ := (Option.bind_some _ _).symm.trans H; rw [hy210]; with_reducible exact H2_) | (have H2_ := (Option.bind_some _ _).symm.trans H; with_reducible exact H2_) | with_reducible exact H | (rw [hy210]; exact H) | exact H
           have Ny210 := zaa.mk hy210;clear hy210;obtain rfl := Option.some.inj H
           obtain ⟨Ao16, co16, eo16⟩ := Kd.zbn HO_0.out
           subst eo16
           have p194 : 0 ≤ (x5_1 : Int) := Yod
           have q194 : x5_1 < (l0.length : Int) := Yod
           obtain ⟨ad194, e194, hx194_0⟩ := Kd.zeu (Kd.R_reads' HO_0.out).2.2 x5_1 p194 q194
           cases e194
           replace p194 := eq_true p194
           replace q194 := eq_true q194
           have p195 : 0 ≤ (x5_1 : Int) := Yod
           have q195 : x5_1 < (l0.length : Int) := Yod
           obtain ⟨ad195, e195, hx195_0⟩ := Kd.zeu (Kd.R_reads' HO_0.out).2.2 x5_1 p195 q195
           obtain rfl : ad194 = ad195 := (by injection e195)
           replace p195 := eq_true p195
           replace q195 := eq_true q195
           have q17 : (x5_1 : Int) ≤ ((l0.length : Int) : Int) := Yod
           obtain ⟨i017, hi017, _, hsz17, _⟩ := info_parts info3
           have hroom17 : l0.length ≤ co16 := (Kd.R_reads' HO_0.out).2.1
           have hC17 : Kd.C (Kd.int .i64) _ (some ad194) l0.length l0 := (Kd.R_reads' HO_0.out).2.2
           have hcut17 := cut_to (P := Tryz.prog) 35 3 .i64 Tryz.underlying35 hi017 (some ad194) l0.length co16 x5_1 (of_decide_eq_true (by first | (with_reducible assumption) | assumption)) q17 hroom17
           have hr17 := Kd.zde (m := (x5_1 : Int).toNat) hC17 (by omega)
           have hy17 : y196.length = (x5_1 : Int).toNat := (by rw [Ny196.out, List.length_take]; omega)
           rw [← Ny196.out] at hr17
           rw [← hy17] at hcut17
           have HR199 := zaa.mk hr17
           have HC199 := zaa.mk (show y196.length ≤ co16 from by omega)
           clear hr17 hC17 hroom17 hi017 hsz17;have KY17 := zaa.mk hy17;clear hy17
           have KL17 := zaa.mk (show (x5_1 : Int).toNat ≤ l0.length from by omega)
           replace q17 := eq_true q17
           go_wp2_with (first | ((with_reducible refine zb5 (b := .append) (xs := #[.tmp 34, .tmp 37]) rfl ?_); at_builtin; refine Kd.zcd (Kd.int .i64) (w0 := w0) w0.heap.size rfl (.tmp 34) (.tmp 37) 35 3 (.int .i64 0) 8 rfl Tryz.underlying35 info3 rfl (by decide) (by omega) (.slice none 0 0) ([] : List Int) y196 _ _ _ (fun k_ => (P0_ k_ ∨ w.heap.size ≤ k_) ∧ some k_ ≠ (.slice (some ad194) l0.length co16 : Value).ownBlock) (fun _ => False) rfl rfl ?aO ?aR (fun _ _ h => h) (fun _ h => h.elim) ?aF ?aB ?aS ?aL ?_; (case aR => repeat (first | exact (by repeat (first | (with_reducible exact HR199.out) | (with_reducible refine Kd.C_alloc ?_ _) | (with_reducible refine Kd.zbj ?_ _) | (with_reducible refine Kd.C_drew ?_) | exact HR199.out)) | (with_reducible refine Kd.C_alloc ?_ _) | (with_reducible refine Kd.zbj ?_ _) | (with_reducible refine Kd.C_drew ?_))); (case aB => exact Ybe); (case aF => exact (fun k_ hk => ⟨(.inr (Nat.le_trans (by first | exact HK.out.1 | exact (show Kept w _ (fun k_ => P0_ k_) from by repeat (first | (with_reducible first | exact HK.out | apply Kept.alloc | apply Kept.drewN | apply Kept.drew) | exact HK.out)).1) hk)), Kd.fresh' (Kd.R_lt (Yr HO_0)) k_ hk⟩)); (case aO => exact ((Kd.zdi _ _ _ _ (fun k_ => (P0_ k_ ∨ w.heap.size ≤ k_) ∧ some k_ ≠ (.slice (some ad194) l0.length co16 : Value).ownBlock)))); (case aS => exact (za0 Ybe)); (case aL => have := LMc11.out; omega); intro v201 w18 ho hb hg hat; rw [← Ny200.out] at ho; replace HB := zaa.mk (hb); replace HK := zaa.mk (Kept.zdm (S := (fun k_ => P0_ k_)) hg (by repeat (first | (with_reducible first | exact HK.out | apply Kept.alloc | apply Kept.drewN | apply Kept.drew) | exact HK.out)) (fun k_ e_ => by simp [Value.ownBlock] at e_)); replace HR199 := zaa.mk ((show Kd.C (Kd.int .i64) w18 (some ad194) y196.length y196 from by rw [Ny196.out]; exact Kd.zde (m := (x5_1 : Int).toNat) ((Kd.R_reads' (Kd.zb0 (Kd.zds (Yr HO_0)) hg hat)).2.2) KL17.out)); replace HO_0 := zaa.mk (Kd.zb0 (Kd.zds (Yr HO_0)) hg hat); have HO202 := zaa.mk (ho); clear ho hb hg hat) | ((with_reducible refine zb5 (b := .append) (xs := #[.tmp 39, .tmp 41]) rfl ?_); at_builtin; refine Kd.zdg (Kd.int .i64) (w0 := w0) w0.heap.size rfl (.tmp 39) (.tmp 41) 35 3 (.int .i64 0) 8 rfl Tryz.underlying35 info3 rfl (by decide) (by omega) v201 y200 a1 [.int .i64 a1] (fun k_ => (P0_ k_ ∨ w.heap.size ≤ k_) ∧ some k_ ≠ (.slice (some ad194) l0.length co16 : Value).ownBlock) (fun _ => False) rfl rfl ?aP (fun _ hk => hk.elim) ?aF ?aO ?aB ?aS ?aL ?_; (case aP => exact rfl); (case aB => exact Ybe); (case aF => exact (fun k_ hk => ⟨(.inr (Nat.le_trans (by first | exact HK.out.1 | exact (show Kept w _ (fun k_ => P0_ k_) from by repeat (first | (with_reducible first | exact HK.out | apply Kept.alloc | apply Kept.drewN | apply Kept.drew) | exact HK.out)).1) hk)), Kd.fresh' (Kd.R_lt (Yr HO_0)) k_ hk⟩)); (case aO => exact (Yr HO202)); (case aS => exact (za0 Ybe)); (case aL => have := LMc12.out; omega); intro v204 w19 ho hb hg hat; rw [← Ny203.out] at ho; replace HB := zaa.mk (hb); replace HK := zaa.mk (Kept.zdm (S := (fun k_ => P0_ k_)) hg (by repeat (first | (with_reducible first | exact HK.out | apply Kept.alloc | apply Kept.drewN | apply Kept.drew) | exact HK.out)) (fun k_ e_ => (HO202.out.1 k_ e_).1)); replace HR199 := zaa.mk ((show Kd.C (Kd.int .i64) w19 (some ad194) y196.length y196 from by rw [Ny196.out]; exact Kd.zde (m := (x5_1 : Int).toNat) ((Kd.R_reads' (Kd.zb0 (ok := (fun k_ => (P0_ k_ ∨ w.heap.size ≤ k_))) (Yr HO_0) hg hat)).2.2) KL17.out)); replace HO_0 := zaa.mk (Kd.zb0 (ok := (fun k_ => (P0_ k_ ∨ w.heap.size ≤ k_))) (Yr HO_0) hg hat); have HO205 := zaa.mk (ho); clear HO202; clear ho hb hg hat; have q20 : (x5_1 : Int) ≤ ((l0.length : Int) : Int) := Yod; obtain ⟨i020, hi020, _, hsz20, _⟩ := info_parts info3; have hroom20 : l0.length ≤ co16 := (Kd.R_reads' HO_0.out).2.1; have hC20 : Kd.C (Kd.int .i64) _ (some ad194) l0.length l0 := (Kd.R_reads' HO_0.out).2.2; have q020 : (0 : Int) ≤ (x5_1 : Int) := Yod; have hcut20 := zek (P := Tryz.prog) 35 3 .i64 Tryz.underlying35 hi020 1 hsz20 (some ad194) l0.length co16 x5_1 q020 q20; have hr20 := Kd.zef (m := (x5_1 : Int).toNat) (c := co16) hC20 (by omega) hroom20; obtain ⟨A20, hA20⟩ : ∃ A1, A1 = (if co16 = (x5_1 : Int).toNat then (some ad194) else ((some ad194) : Option Addr).map (·.add ((x5_1 : Int).toNat * 1))) := ⟨_, rfl⟩; obtain ⟨c20, hc20⟩ : ∃ c1, c1 = co16 - (x5_1 : Int).toNat := ⟨_, rfl⟩; have hy20 : y206.length = l0.length - (x5_1 : Int).toNat := (by rw [Ny206.out, List.length_drop] <;> omega); rw [show (l0).drop (x5_1 : Int).toNat = y206 from Ny206.out.symm] at hr20; replace hr20 : Kd.C (Kd.int .i64) _ A20 y206.length y206 := (by rw [hA20]; exact hr20); rw [← hy20, ← hA20, ← hc20] at hcut20; have HR209 := zaa.mk hr20; have HC209 := zaa.mk (show y206.length ≤ c20 from by rw [hy20, hc20]; exact Nat.sub_le_sub_right hroom20 _); clear hr20 hC20 hroom20 hi020 hsz20 hc20; have KY20 := zaa.mk hy20; have KA20 := zaa.mk hA20; clear hy20 hA20; have KL20 := zaa.mk (show (x5_1 : Int).toNat ≤ l0.length from by omega); replace q20 := eq_true q20) | ((with_reducible refine zb5 (b := .append) (xs := #[.tmp 43, .tmp 46]) rfl ?_); at_builtin; refine Kd.zcd (Kd.int .i64) (w0 := w0) w0.heap.size rfl (.tmp 43) (.tmp 46) 35 3 (.int .i64 0) 8 rfl Tryz.underlying35 info3 rfl (by decide) (by omega) v204 y203 y206 _ _ _ (fun k_ => (P0_ k_ ∨ w.heap.size ≤ k_) ∧ some k_ ≠ (.slice (some ad194) l0.length co16 : Value).ownBlock) (fun _ => False) rfl rfl ?aO ?aR (fun _ _ h => h) (fun _ h => h.elim) ?aF ?aB ?aS ?aL ?_; (case aR => repeat (first | exact (by repeat (first | (with_reducible exact HR209.out) | (with_reducible refine Kd.C_alloc ?_ _) | (with_reducible refine Kd.zbj ?_ _) | (with_reducible refine Kd.C_drew ?_) | exact HR209.out)) | (with_reducible refine Kd.C_alloc ?_ _) | (with_reducible refine Kd.zbj ?_ _) | (with_reducible refine Kd.C_drew ?_))); (case aB => exact Ybe); (case aF => exact (fun k_ hk => ⟨(.inr (Nat.le_trans (by first | exact HK.out.1 | exact (show Kept w _ (fun k_ => P0_ k_) from by repeat (first | (with_reducible first | exact HK.out | apply Kept.alloc | apply Kept.drewN | apply Kept.drew) | exact HK.out)).1) hk)), Kd.fresh' (Kd.R_lt (Yr HO_0)) k_ hk⟩)); (case aO => exact (Yr HO205)); (case aS => exact (za0 Ybe)); (case aL => have := LMc15.out; omega); intro v211 w21 ho hb hg hat; rw [← Ny210.out] at ho; replace HB := zaa.mk (hb); replace HK := zaa.mk (Kept.zdm (S := (fun k_ => P0_ k_)) hg (by repeat (first | (with_reducible first | exact HK.out | apply Kept.alloc | apply Kept.drewN | apply Kept.drew) | exact HK.out)) (fun k_ e_ => (HO205.out.1 k_ e_).1)); replace HR199 := zaa.mk ((show Kd.C (Kd.int .i64) w21 (some ad194) y196.length y196 from by rw [Ny196.out]; exact Kd.zde (m := (x5_1 : Int).toNat) ((Kd.R_reads' (Kd.zb0 (ok := (fun k_ => (P0_ k_ ∨ w.heap.size ≤ k_))) (Yr HO_0) hg hat)).2.2) KL17.out)); replace HR209 := zaa.mk ((show Kd.C (Kd.int .i64) w21 A20 y206.length y206 from by rw [Ny206.out, KA20.out]; exact Kd.zef (m := (x5_1 : Int).toNat) (c := co16) ((Kd.R_reads' (Kd.zb0 (ok := (fun k_ => (P0_ k_ ∨ w.heap.size ≤ k_))) (Yr HO_0) hg hat)).2.2) KL20.out ((Kd.R_reads' (Kd.zb0 (ok := (fun k_ => (P0_ k_ ∨ w.heap.size ≤ k_))) (Yr HO_0) hg hat)).2.1))); replace HO_0 := zaa.mk (Kd.zb0 (ok := (fun k_ => (P0_ k_ ∨ w.heap.size ≤ k_))) (Yr HO_0) hg hat); have HO212 := zaa.mk (ho); clear HO205; clear ho hb hg hat))
           go_ret
           exact ⟨_, by first | rfl | (simp [errW_none, errW_some] <;> rfl) | (simp [*, errW_none, errW_some] <;> rfl), by (with_reducible repeat (first | apply Kd.R_alloc | apply Kd.zby | apply Kd.zbm)); exact Kd.za7 HO212.out (fun _ hk => hk.1), by repeat (first | (with_reducible first | exact HB.out | apply za5 | apply zau | apply zar) | exact HB.out), by repeat (first | (with_reducible first | exact HK.out | apply Kept.alloc | apply Kept.drewN | apply Kept.drew) | exact HK.out)⟩
          ·rw [if_neg c15] at H
           exact absurd H (by simp)
         ·rw [if_neg c12] at H
          exact absurd H (by simp)
        ·rw [if_neg c11] at H
         exact absurd H (by simp)
       ·rw [if_neg c10] at H
        exact absurd H (by simp)
    ·rw [if_neg c4] at H
     exact absurd H (by simp)
   ·rw [if_neg c3] at H
    have c3b0 := decide_eq_false c3
    clear c3
    by_cases c22 : 0 ≤ x5_1
    ·rw [if_pos c22] at H
     have c22b0 := eq_true c22
     have c22b1 := decide_eq_true c22
     clear c22
     by_cases c23 : x5_1 ≤ (l0.length : Int)
     ·rw [if_pos c23] at H
      have c23b0 := eq_true c23
      have c23b1 := decide_eq_true c23
      clear c23
      obtain ⟨y213, hy213⟩ : ∃ y_ : List Int, y_ = (l0.take (x5_1 : Int).toNat) := ⟨_, rfl⟩
      replace H : (if ([] : List Int).length + y213.length < 17592186044416 then ((some (([] : List Int) ++ y213 : List Int)).bind fun y217 => (if y217.length < 17592186044416 then ((some (y217 ++ [a1] : List Int)).bind fun y220 => ((some (l0.drop (x5_1 : Int).toNat : List Int)).bind fun y223 => (if y220.length + y223.length < 17592186044416 then (some (y220 ++ y223)) else (none)))) else (none))) else (none)) = some r := by first | (rw [hy213]; with_reducible exact H) | (have H2_ := (Option.bind_some _ _).symm.trans H; rw [hy213]; with_reducible exact H2_) | (have H2_ := (Option.bind_some _ _).symm.trans H; with_reducible exact H2_) | with_reducible exact H | (rw [hy213]; exact H) | exact H
      have Ny213 := zaa.mk hy213;clear hy213
      by_cases c24 : ([] : List Int).length + y213.length < 17592186044416
      ·rw [if_pos c24] at H
       have LMc24 := zaa.mk c24;clear c24
       obtain ⟨y217, hy217⟩ : ∃ y_ : List Int, y_ = (([] : List Int) ++ y213) := ⟨_, rfl⟩
       replace H : (if y217.length < 17592186044416 then ((some (y217 ++ [a1] : List Int)).bind fun y220 => ((some (l0.drop (x5_1 : Int).toNat : List Int)).bind fun y223 => (if y220.length + y223.length < 17592186044416 then (some (y220 ++ y223)) else (none)))) else (none)) = some r := by first | (rw [hy217]; with_reducible exact H) | (have H2_ := (Option.bind_some _ _).symm.trans H; rw [hy217]; with_reducible exact H2_) | (have H2_ := (Option.bind_some _ _).symm.trans H; with_reducible exact H2_) | with_reducible exact H | (rw [hy217]; exact H) | exact H
       have Ny217 := zaa.mk hy217;clear hy217
       by_cases c25 : y217.length < 17592186044416
       ·rw [if_pos c25] at H
        have LMc25 := zaa.mk c25;clear c25
        obtain ⟨y220, hy220⟩ : ∃ y_ : List Int, y_ = (y217 ++ [a1]) := ⟨_, rfl⟩
        replace H : ((some (l0.drop (x5_1 : Int).toNat : List Int)).bind fun y223 => (if y220.length + y223.length < 17592186044416 then (some (y220 ++ y223)) else (none))) = some r := by first | (rw [hy220]; with_reducible exact H) | (have H2_ := (Option.bind_some _ _).symm.trans H; rw [hy220]; with_reducible exact H2_) | (have H2_ := (Option.bind_some _ _).symm.trans H; with_reducible exact H2_) | with_reducible exact H | (rw [hy220]; exact H) | exact H
        have Ny220 := zaa.mk hy220;clear hy220
        have c26b0 := eq_true (of_decide_eq_true (by first | (with_reducible assumption) | assumption) : 0 ≤ x5_1)
        have c27b0 := eq_true (of_decide_eq_true (by first | (with_reducible assumption) | assumption) : x5_1 ≤ (l0.length : Int))
        obtain ⟨y223, hy223⟩ : ∃ y_ : List Int, y_ = (l0.drop (x5_1 : Int).toNat) := ⟨_, rfl⟩
        replace H : (if y220.length + y223.length < 17592186044416 then (some (y220 ++ y223)) else (none)) = some r := by first | (rw [hy223]; with_reducible exact H) | (have H2_ := (Option.bind_some _ _).symm.trans H; rw [hy223]; with_reducible exact H2_) | (have H2_ := (Option.bind_some _ _).symm.trans H; with_reducible exact H2_) | with_reducible exact H | (rw [hy223]; exact H) | exact H
        have Ny223 := zaa.mk hy223;clear hy223
        by_cases c28 : y220.length + y223.length < 17592186044416
        ·rw [if_pos c28] at H
         have LMc28 := zaa.mk c28;clear c28
         obtain ⟨y227, hy227⟩ : ∃ y_ : List Int, y_ = (y220 ++ y223) := ⟨_, rfl⟩
         replace H : (some y227) = some r := by first | (rw [hy227]; with_reducible exact H) | (have H2_ := (Option.bind_some _ _).symm.trans H; rw [hy227]; with_reducible exact H2_) | (have H2_ := (Option.bind_some _ _).symm.trans H; with_reducible exact H2_) | with_reducible exact H | (rw [hy227]; exact H) | exact H
         have Ny227 := zaa.mk hy227;clear hy227;obtain rfl := Option.some.inj H
         obtain ⟨Ao29, co29, eo29⟩ := Kd.zbn HO_0.out
         subst eo29
         have q30 : (x5_1 : Int) ≤ ((l0.length : Int) : Int) := Yod
         obtain ⟨i030, hi030, _, hsz30, _⟩ := info_parts info3
         have hroom30 : l0.length ≤ co29 := (Kd.R_reads' HO_0.out).2.1
         have hC30 : Kd.C (Kd.int .i64) _ Ao29 l0.length l0 := (Kd.R_reads' HO_0.out).2.2
         have hcut30 := cut_to (P := Tryz.prog) 35 3 .i64 Tryz.underlying35 hi030 Ao29 l0.length co29 x5_1 (of_decide_eq_true (by first | (with_reducible assumption) | assumption)) q30 hroom30
         have hr30 := Kd.zde (m := (x5_1 : Int).toNat) hC30 (by omega)
         have hy30 : y213.length = (x5_1 : Int).toNat := (by rw [Ny213.out, List.length_take]; omega)
         rw [← Ny213.out] at hr30
         rw [← hy30] at hcut30
         have HR216 := zaa.mk hr30
         have HC216 := zaa.mk (show y213.length ≤ co29 from by omega)
         clear hr30 hC30 hroom30 hi030 hsz30;have KY30 := zaa.mk hy30;clear hy30
         have KL30 := zaa.mk (show (x5_1 : Int).toNat ≤ l0.length from by omega)
         replace q30 := eq_true q30
         go_wp2_with (first | ((with_reducible refine zb5 (b := .append) (xs := #[.tmp 34, .tmp 37]) rfl ?_); at_builtin; refine Kd.zcd (Kd.int .i64) (w0 := w0) w0.heap.size rfl (.tmp 34) (.tmp 37) 35 3 (.int .i64 0) 8 rfl Tryz.underlying35 info3 rfl (by decide) (by omega) (.slice none 0 0) ([] : List Int) y213 _ _ _ (fun k_ => (P0_ k_ ∨ w.heap.size ≤ k_) ∧ some k_ ≠ (.slice Ao29 l0.length co29 : Value).ownBlock) (fun _ => False) rfl rfl ?aO ?aR (fun _ _ h => h) (fun _ h => h.elim) ?aF ?aB ?aS ?aL ?_; (case aR => repeat (first | exact (by repeat (first | (with_reducible exact HR216.out) | (with_reducible refine Kd.C_alloc ?_ _) | (with_reducible refine Kd.zbj ?_ _) | (with_reducible refine Kd.C_drew ?_) | exact HR216.out)) | (with_reducible refine Kd.C_alloc ?_ _) | (with_reducible refine Kd.zbj ?_ _) | (with_reducible refine Kd.C_drew ?_))); (case aB => exact Ybe); (case aF => exact (fun k_ hk => ⟨(.inr (Nat.le_trans (by first | exact HK.out.1 | exact (show Kept w _ (fun k_ => P0_ k_) from by repeat (first | (with_reducible first | exact HK.out | apply Kept.alloc | apply Kept.drewN | apply Kept.drew) | exact HK.out)).1) hk)), Kd.fresh' (Kd.R_lt (Yr HO_0)) k_ hk⟩)); (case aO => exact ((Kd.zdi _ _ _ _ (fun k_ => (P0_ k_ ∨ w.heap.size ≤ k_) ∧ some k_ ≠ (.slice Ao29 l0.length co29 : Value).ownBlock)))); (case aS => exact (za0 Ybe)); (case aL => have := LMc24.out; omega); intro v218 w31 ho hb hg hat; rw [← Ny217.out] at ho; replace HB := zaa.mk (hb); replace HK := zaa.mk (Kept.zdm (S := (fun k_ => P0_ k_)) hg (by repeat (first | (with_reducible first | exact HK.out | apply Kept.alloc | apply Kept.drewN | apply Kept.drew) | exact HK.out)) (fun k_ e_ => by simp [Value.ownBlock] at e_)); replace HR216 := zaa.mk ((show Kd.C (Kd.int .i64) w31 Ao29 y213.length y213 from by rw [Ny213.out]; exact Kd.zde (m := (x5_1 : Int).toNat) ((Kd.R_reads' (Kd.zb0 (Kd.zds (Yr HO_0)) hg hat)).2.2) KL30.out)); replace HO_0 := zaa.mk (Kd.zb0 (Kd.zds (Yr HO_0)) hg hat); have HO219 := zaa.mk (ho); clear ho hb hg hat) | ((with_reducible refine zb5 (b := .append) (xs := #[.tmp 39, .tmp 41]) rfl ?_); at_builtin; refine Kd.zdg (Kd.int .i64) (w0 := w0) w0.heap.size rfl (.tmp 39) (.tmp 41) 35 3 (.int .i64 0) 8 rfl Tryz.underlying35 info3 rfl (by decide) (by omega) v218 y217 a1 [.int .i64 a1] (fun k_ => (P0_ k_ ∨ w.heap.size ≤ k_) ∧ some k_ ≠ (.slice Ao29 l0.length co29 : Value).ownBlock) (fun _ => False) rfl rfl ?aP (fun _ hk => hk.elim) ?aF ?aO ?aB ?aS ?aL ?_; (case aP => exact rfl); (case aB => exact Ybe); (case aF => exact (fun k_ hk => ⟨(.inr (Nat.le_trans (by first | exact HK.out.1 | exact (show Kept w _ (fun k_ => P0_ k_) from by repeat (first | (with_reducible first | exact HK.out | apply Kept.alloc | apply Kept.drewN | apply Kept.drew) | exact HK.out)).1) hk)), Kd.fresh' (Kd.R_lt (Yr HO_0)) k_ hk⟩)); (case aO => exact (Yr HO219)); (case aS => exact (za0 Ybe)); (case aL => have := LMc25.out; omega); intro v221 w32 ho hb hg hat; rw [← Ny220.out] at ho; replace HB := zaa.mk (hb); replace HK := zaa.mk (Kept.zdm (S := (fun k_ => P0_ k_)) hg (by repeat (first | (with_reducible first | exact HK.out | apply Kept.alloc | apply Kept.drewN | apply Kept.drew) | exact HK.out)) (fun k_ e_ => (HO219.out.1 k_ e_).1)); replace HR216 := zaa.mk ((show Kd.C (Kd.int .i64) w32 Ao29 y213.length y213 from by rw [Ny213.out]; exact Kd.zde (m := (x5_1 : Int).toNat) ((Kd.R_reads' (Kd.zb0 (ok := (fun k_ => (P0_ k_ ∨ w.heap.size ≤ k_))) (Yr HO_0) hg hat)).2.2) KL30.out)); replace HO_0 := zaa.mk (Kd.zb0 (ok := (fun k_ => (P0_ k_ ∨ w.heap.size ≤ k_))) (Yr HO_0) hg hat); have HO222 := zaa.mk (ho); clear HO219; clear ho hb hg hat; have q33 : (x5_1 : Int) ≤ ((l0.length : Int) : Int) := Yod; obtain ⟨i033, hi033, _, hsz33, _⟩ := info_parts info3; have hroom33 : l0.length ≤ co29 := (Kd.R_reads' HO_0.out).2.1; have hC33 : Kd.C (Kd.int .i64) _ Ao29 l0.length l0 := (Kd.R_reads' HO_0.out).2.2; have q033 : (0 : Int) ≤ (x5_1 : Int) := Yod; have hcut33 := zek (P := Tryz.prog) 35 3 .i64 Tryz.underlying35 hi033 1 hsz33 Ao29 l0.length co29 x5_1 q033 q33; have hr33 := Kd.zef (m := (x5_1 : Int).toNat) (c := co29) hC33 (by omega) hroom33; obtain ⟨A33, hA33⟩ : ∃ A1, A1 = (if co29 = (x5_1 : Int).toNat then Ao29 else (Ao29 : Option Addr).map (·.add ((x5_1 : Int).toNat * 1))) := ⟨_, rfl⟩; obtain ⟨c33, hc33⟩ : ∃ c1, c1 = co29 - (x5_1 : Int).toNat := ⟨_, rfl⟩; have hy33 : y223.length = l0.length - (x5_1 : Int).toNat := (by rw [Ny223.out, List.length_drop] <;> omega); rw [show (l0).drop (x5_1 : Int).toNat = y223 from Ny223.out.symm] at hr33; replace hr33 : Kd.C (Kd.int .i64) _ A33 y223.length y223 := (by rw [hA33]; exact hr33); rw [← hy33, ← hA33, ← hc33] at hcut33; have HR226 := zaa.mk hr33; have HC226 := zaa.mk (show y223.length ≤ c33 from by rw [hy33, hc33]; exact Nat.sub_le_sub_right hroom33 _); clear hr33 hC33 hroom33 hi033 hsz33 hc33; have KY33 := zaa.mk hy33; have KA33 := zaa.mk hA33; clear hy33 hA33; have KL33 := zaa.mk (show (x5_1 : Int).toNat ≤ l0.length from by omega); replace q33 := eq_true q33) | ((with_reducible refine zb5 (b := .append) (xs := #[.tmp 43, .tmp 46]) rfl ?_); at_builtin; refine Kd.zcd (Kd.int .i64) (w0 := w0) w0.heap.size rfl (.tmp 43) (.tmp 46) 35 3 (.int .i64 0) 8 rfl Tryz.underlying35 info3 rfl (by decide) (by omega) v221 y220 y223 _ _ _ (fun k_ => (P0_ k_ ∨ w.heap.size ≤ k_) ∧ some k_ ≠ (.slice Ao29 l0.length co29 : Value).ownBlock) (fun _ => False) rfl rfl ?aO ?aR (fun _ _ h => h) (fun _ h => h.elim) ?aF ?aB ?aS ?aL ?_; (case aR => repeat (first | exact (by repeat (first | (with_reducible exact HR226.out) | (with_reducible refine Kd.C_alloc ?_ _) | (with_reducible refine Kd.zbj ?_ _) | (with_reducible refine Kd.C_drew ?_) | exact HR226.out)) | (with_reducible refine Kd.C_alloc ?_ _) | (with_reducible refine Kd.zbj ?_ _) | (with_reducible refine Kd.C_drew ?_))); (case aB => exact Ybe); (case aF => exact (fun k_ hk => ⟨(.inr (Nat.le_trans (by first | exact HK.out.1 | exact (show Kept w _ (fun k_ => P0_ k_) from by repeat (first | (with_reducible first | exact HK.out | apply Kept.alloc | apply Kept.drewN | apply Kept.drew) | exact HK.out)).1) hk)), Kd.fresh' (Kd.R_lt (Yr HO_0)) k_ hk⟩)); (case aO => exact (Yr HO222)); (case aS => exact (za0 Ybe)); (case aL => have := LMc28.out; omega); intro v228 w34 ho hb hg hat; rw [← Ny227.out] at ho; replace HB := zaa.mk (hb); replace HK := zaa.mk (Kept.zdm (S := (fun k_ => P0_ k_)) hg (by repeat (first | (with_reducible first | exact HK.out | apply Kept.alloc | apply Kept.drewN | apply Kept.drew) | exact HK.out)) (fun k_ e_ => (HO222.out.1 k_ e_).1)); replace HR216 := zaa.mk ((show Kd.C (Kd.int .i64) w34 Ao29 y213.length y213 from by rw [Ny213.out]; exact Kd.zde (m := (x5_1 : Int).toNat) ((Kd.R_reads' (Kd.zb0 (ok := (fun k_ => (P0_ k_ ∨ w.heap.size ≤ k_))) (Yr HO_0) hg hat)).2.2) KL30.out)); replace HR226 := zaa.mk ((show Kd.C (Kd.int .i64) w34 A33 y223.length y223 from by rw [Ny223.out, KA33.out]; exact Kd.zef (m := (x5_1 : Int).toNat) (c := co29) ((Kd.R_reads' (Kd.zb0 (ok := (fun k_ => (P0_ k_ ∨ w.heap.size ≤ k_))) (Yr HO_0) hg hat)).2.2) KL33.out ((Kd.R_reads' (Kd.zb0 (ok := (fun k_ => (P0_ k_ ∨ w.heap.size ≤ k_))) (Yr HO_0) hg hat)).2.1))); replace HO_0 := zaa.mk (Kd.zb0 (ok := (fun k_ => (P0_ k_ ∨ w.heap.size ≤ k_))) (Yr HO_0) hg hat); have HO229 := zaa.mk (ho); clear HO222; clear ho hb hg hat))
         go_ret
         exact ⟨_, by first | rfl | (simp [errW_none, errW_some] <;> rfl) | (simp [*, errW_none, errW_some] <;> rfl), by (with_reducible repeat (first | apply Kd.R_alloc | apply Kd.zby | apply Kd.zbm)); exact Kd.za7 HO229.out (fun _ hk => hk.1), by repeat (first | (with_reducible first | exact HB.out | apply za5 | apply zau | apply zar) | exact HB.out), by repeat (first | (with_reducible first | exact HK.out | apply Kept.alloc | apply Kept.drewN | apply Kept.drew) | exact HK.out)⟩
        ·rw [if_neg c28] at H
         exact absurd H (by simp)
       ·rw [if_neg c25] at H
        exact absurd H (by simp)
      ·rw [if_neg c24] at H
       exact absurd H (by simp)
     ·rw [if_neg c23] at H
      exact absurd H (by simp)
    ·rw [if_neg c22] at H
     exact absurd H (by simp)
def zbe.l0 : Nat → List Int → List Int → Int → Option (List Int)
 | 0, _, _, _ => none
 | k + 1, x0, x1, x5 => if x5 < (x1.length : Int) then (if 0 ≤ x5 then ((zbt.f k x0 (rd x1 x5)).bind fun t231 => (zbe.l0 k t231 x1 (wrap64 (x5 + 1)))) else (none)) else (some x0)
def zbe.f (k : Nat) (l0 : List Int) (l1 : List Int) : Option (List Int) := zbe.l0 k l0 l1 0
theorem zbe.calls (k : Nat) (P0_ : Nat → Prop) (u9000_ : Value) (l0 : List Int) (A1 : Option Addr) (c1 : Nat) (l1 : List Int) (r : List Int) (w0 w : World) (hB : Below w0.heap.size w0 w) (ho0 : Kd.R (Kd.int .i64) 3 w w0.heap.size P0_ u9000_ l0) (hr1 : ∀ W_, Kept w W_ (fun k_ => P0_ k_) → Kd.C (Kd.int .i64) W_ A1 l1.length l1) (hc1 : l1.length ≤ c1) (h : zbe.f k l0 l1 = some r) :
  Calls Tryz.prog 41 #[u9000_, .slice A1 l1.length c1] w fun e w' => ∃ v0_ : Value, e = .returned (v0_) ∧ Kd.R (Kd.int .i64) 3 w' w0.heap.size (fun k_ => (P0_ k_ ∨ w.heap.size ≤ k_)) v0_ r ∧ Below w0.heap.size w0 w' ∧ Kept w w' (fun k_ => P0_ k_) := by
 have HO0 := zaa.mk (show Kd.R (Kd.int .i64) 3 w w0.heap.size (fun k_ => (P0_ k_ ∨ w.heap.size ≤ k_)) u9000_ l0 from Kd.za7 ho0 (fun k_ hk => (.inl hk)))
 have HR1 := zaa.mk hr1;have HC1 := zaa.mk hc1;clear hr1 hc1
 have HK := zaa.mk (Kept.refl w (fun k_ => P0_ k_))
 have HW0 := zaa.mk hB.size
 have HB := zaa.mk hB;clear hB
 have H : (zbe.l0 k l0 l1 0) = some r := h
 clear h
 have H' := zaa.mk H
 clear H
 go_enter Tryz.func41, Tryz.ntmps41
 go_wp2
 go_loopg [0, 5] k (fun kq v0 v5 w' => ∃ (x0_1 : List Int) (x5_1 : Int), v5 = .int .i64 x5_1 ∧ zaa (zbe.l0 kq x0_1 l1 x5_1 = some r) ∧ zaa (kq ≤ k) ∧ zaa (Kd.R (Kd.int .i64) 3 w' w0.heap.size (fun k_ => (P0_ k_ ∨ w.heap.size ≤ k_)) v0 x0_1) ∧ zaa (Kept w w' (fun k_ => P0_ k_)) ∧ zaa (Below w0.heap.size w0 w'))
 case atStart => exact ⟨(l0), (0), Yfs, H', ⟨Nat.le_refl _⟩, ⟨Yr HO0⟩, ⟨by repeat (first | (with_reducible first | exact HK.out | apply Kept.alloc | apply Kept.drewN | apply Kept.drew) | exact HK.out)⟩, ⟨Ybe⟩⟩
 case round =>
  clear H'
  obtain ⟨x0_1, x5_1, rfl, HA, HK1, HO_0, HK, HB⟩ := hrel
  cases gk with
  | zero => exact absurd HA.out (by simp [zbe.l0])
  | succ k1 =>
   have H := HA.out;clear HA
   simp only [zbe.l0] at H
   by_cases c3 : x5_1 < (l1.length : Int)
   ·rw [if_pos c3] at H
    have c3b0 := decide_eq_true c3
    clear c3
    by_cases c4 : 0 ≤ x5_1
    ·rw [if_pos c4] at H
     have c4b0 := decide_eq_true c4
     clear c4;replace H := Option.bind_eq_some_iff.mp H
     obtain ⟨t231, A50, H⟩ := H
     replace H : (zbe.l0 k1 t231 l1 (wrap64 (x5_1 + 1))) = some r := H
     have A5 := zaa.mk A50;clear A50
     have H' := zaa.mk H
     clear H
     have p230 : 0 ≤ (x5_1 : Int) := Yod
     have q230 : x5_1 < (l1.length : Int) := Yod
     obtain ⟨ad230, e230, hx230_0⟩ := Kd.zeu (Kd.C_kept_now HR1.out HK.out) x5_1 p230 q230
     cases e230
     replace p230 := eq_true p230
     replace q230 := eq_true q230
     obtain ⟨Ao6, co6, eo6⟩ := Kd.zbn HO_0.out
     subst eo6
     go_wp2_with (first | ((with_reducible refine zbd (f := 54) rfl ?_); refine Ygl (some 17) Tryz.func54 #[.slice Ao6 x0_1.length co6, .int .i64 (rd l1 x5_1)] ?_; (with_reducible refine (zbt.calls k1 (fun k_ => some k_ = (.slice Ao6 x0_1.length co6 : Value).ownBlock) (.slice Ao6 x0_1.length co6) x0_1 (rd l1 x5_1) t231 w0 _ ?side1 ?side2 A5.out).mono ?_); (case side1 => repeat (first | (with_reducible first | exact HB.out | apply za5 | apply zau | apply zar) | exact HB.out)); (case side2 => exact Kd.zgc rfl HO_0.out); rintro e w7 ⟨v232, rfl, ho0, hb, hkp⟩; refine ⟨_, rfl, ?_⟩; have HO233 := zaa.mk (Kd.za7 (ok' := fun k_ => (P0_ k_ ∨ w.heap.size ≤ k_)) ho0 (fun k_ hk_ => Or.elim hk_ (fun hs_ => (HO_0.out.1 k_ (hs_).symm)) (fun hn_ => (.inr (Nat.le_trans (by first | exact HK.out.1 | exact (show Kept w _ (fun k_ => P0_ k_) from by repeat (first | (with_reducible first | exact HK.out | apply Kept.alloc | apply Kept.drewN | apply Kept.drew) | exact HK.out)).1) hn_))))); replace HK := zaa.mk (Kept.then_ (S := (fun k_ => P0_ k_)) (by repeat (first | (with_reducible first | exact HK.out | apply Kept.alloc | apply Kept.drewN | apply Kept.drew) | exact HK.out)) hkp (fun k_ hs_ => (fun e_ => (HO_0.out.1 k_ e_.symm)) hs_)); replace HB := zaa.mk (hb); clear HO_0; (try clear hb); (try clear hkp); (try clear ho0)))
     go_roundg k1
     case measure => have := HK1.out; omega
     case rel => exact ⟨(t231), (wrap64 (x5_1 + 1)), Yfs, H', ⟨by have := HK1.out; omega⟩, ⟨Yr HO233⟩, ⟨by repeat (first | (with_reducible first | exact HK.out | apply Kept.alloc | apply Kept.drewN | apply Kept.drew) | exact HK.out)⟩, ⟨Ybe⟩⟩
    ·rw [if_neg c4] at H
     exact absurd H (by simp)
   ·rw [if_neg c3] at H
    have c3b0 := decide_eq_false c3
    clear c3;obtain rfl := Option.some.inj H;go_wp2;go_ret
    exact ⟨_, by first | rfl | (simp [errW_none, errW_some] <;> rfl) | (simp [*, errW_none, errW_some] <;> rfl), by (with_reducible repeat (first | apply Kd.R_alloc | apply Kd.zby | apply Kd.zbm)); exact HO_0.out, by repeat (first | (with_reducible first | exact HB.out | apply za5 | apply zau | apply zar) | exact HB.out), by repeat (first | (with_reducible first | exact HK.out | apply Kept.alloc | apply Kept.drewN | apply Kept.drew) | exact HK.out)⟩
section
end
theorem Yb_PItemAllx9_0 {n : Nat} {w w' : World} (h : Below n w w' := by repeat (first | (with_reducible first | exact HB.out | apply za5 | apply zau | apply zar | refine za9 ?_ GE234.out) | exact HB.out)) : Below n w w' := h
theorem Yb_PItemAllx9_1 {n : Nat} {w w' : World} (h : Below n w w' := by repeat (first | (with_reducible first | exact HB.out | apply za5 | apply zau | apply zar | refine za9 ?_ GE234.out | refine za9 ?_ GE245.out) | exact HB.out)) : Below n w w' := h
mutual
def zab.l0 : Nat → List (List Int) → List Bool → List (S50) → List (S50) → List ByteArray → List ByteArray → List (S42) → Option ((List (S50)))
 | 0, _, _, _, _, _, _, _ => none
 | k + 1, x5, x6, x7, x8, x235000, x235001, x235002 => if (x8.length : Int) > 0 then (if 0 < (x8.length : Int) then (if 1 ≤ (x8.length : Int) then ((some (x8.drop (1 : Int).toNat : List (S50))).bind fun y246 => ((za3.f x235000 x235001 x235002 ((zae x8 0).f0) ((zae x8 0).f1) ((zae x8 0).f2)).bind fun t249 => (if t249 = true then ((zaq.f k x7 ((zae x8 0).f0) ((zae x8 0).f1) ((zae x8 0).f2)).bind fun t250 => (zab.j1 k x5 x6 t250 y246 (x7.length : Int) x235000 x235001 x235002 ((zae x8 0).f0) ((zae x8 0).f1) ((zae x8 0).f2))) else (zab.j1 k x5 x6 x7 y246 (x7.length : Int) x235000 x235001 x235002 ((zae x8 0).f0) ((zae x8 0).f1) ((zae x8 0).f2))))) else (none)) else (none)) else (some x7)
def zab.j1 : Nat → List (List Int) → List Bool → List (S50) → List (S50) → Int → List ByteArray → List ByteArray → List (S42) → Int → Int → Int → Option ((List (S50)))
 | 0, _, _, _, _, _, _, _, _, _, _, _ => none
 | k + 1, x5, x6, x7, x8, x10, x235000, x235001, x235002, x246000, x246001, x246002 => (zb1.f x235000 x235001 x235002 x246000 x246001 x246002).bind fun bt253 => (if (x7.length : Int) = x10 then (zab.j2 k x5 x6 x7 x8 bt253.1 true x235000 x235001 x235002 x246000 x246001 x246002) else (if bt253.2 = true then (zab.j2 k x5 x6 x7 x8 bt253.1 (decide (bt253.1 < (x235000.length : Int))) x235000 x235001 x235002 x246000 x246001 x246002) else (zab.j2 k x5 x6 x7 x8 bt253.1 true x235000 x235001 x235002 x246000 x246001 x246002)))
def zab.j2 : Nat → List (List Int) → List Bool → List (S50) → List (S50) → Int → Bool → List ByteArray → List ByteArray → List (S42) → Int → Int → Int → Option ((List (S50)))
 | 0, _, _, _, _, _, _, _, _, _, _, _, _ => none
 | k + 1, x5, x6, x7, x8, x11, x63, x235000, x235001, x235002, x246000, x246001, x246002 => if x63 = true then (zab.l0 k x5 x6 x7 x8 x235000 x235001 x235002) else ((zbr.f x235000 x235001 x235002 x246000).bind fun t255 => (if 0 ≤ (wrap64 (x246001 + 1)) then (if (wrap64 (x246001 + 1)) ≤ (t255.length : Int) then (zab.l1 k x5 x6 x7 x8 x11 ([] : List Int) (t255.drop ((wrap64 (x246001 + 1)) : Int).toNat) true 0 x235000 x235001 x235002 x246000 x246001 x246002) else (none)) else (none)))
def zab.j4 : Nat → List (List Int) → List Bool → List (S50) → List (S50) → Int → List Int → Bool → List ByteArray → List ByteArray → List (S42) → Int → Int → Int → Option ((List (S50)))
 | 0, _, _, _, _, _, _, _, _, _, _, _, _, _ => none
 | k + 1, x5, x6, x7, x8, x11, x13, x15, x235000, x235001, x235002, x246000, x246001, x246002 => if x15 = true then ((zbe.f k x13 (([x246002] : List Int))).bind fun t273 => (zab.j5 k x5 x6 x7 x8 x11 t273 x235000 x235001 x235002)) else (zab.j5 k x5 x6 x7 x8 x11 x13 x235000 x235001 x235002)
def zab.j5 : Nat → List (List Int) → List Bool → List (S50) → List (S50) → Int → List Int → List ByteArray → List ByteArray → List (S42) → Option ((List (S50)))
 | 0, _, _, _, _, _, _, _, _, _ => none
 | k + 1, x5, x6, x7, x8, x11, x13, x235000, x235001, x235002 => (zbu.f k x235000 x235001 x235002 x11).bind fun t276 => (zab.l2 k x5 x6 x7 x8 x13 t276 0 x235000 x235001 x235002)
def zab.l2 : Nat → List (List Int) → List Bool → List (S50) → List (S50) → List Int → List Int → Int → List ByteArray → List ByteArray → List (S42) → Option ((List (S50)))
 | 0, _, _, _, _, _, _, _, _, _, _ => none
 | k + 1, x5, x6, x7, x8, x13, x17, x18, x235000, x235001, x235002 => if x18 < (x17.length : Int) then (zab.l3 k x5 x6 x7 x8 x13 x17 x18 0 x235000 x235001 x235002) else (zab.l0 k x5 x6 x7 x8 x235000 x235001 x235002)
def zab.l3 : Nat → List (List Int) → List Bool → List (S50) → List (S50) → List Int → List Int → Int → Int → List ByteArray → List ByteArray → List (S42) → Option ((List (S50)))
 | 0, _, _, _, _, _, _, _, _, _, _, _ => none
 | k + 1, x5, x6, x7, x8, x13, x17, x18, x19, x235000, x235001, x235002 => if x19 < (x13.length : Int) then (if 0 ≤ x18 then (if x18 < (x17.length : Int) then (if 0 ≤ x19 then (if x8.length < 5864062014805 then (zab.l3 k x5 x6 x7 (x8 ++ [(⟨rd x17 x18, 0, rd x13 x19⟩ : S50)]) x13 x17 x18 (wrap64 (x19 + 1)) x235000 x235001 x235002) else (none)) else (none)) else (none)) else (none)) else (zab.l2 k x5 x6 x7 x8 x13 x17 (wrap64 (x18 + 1)) x235000 x235001 x235002)
def zab.l1 : Nat → List (List Int) → List Bool → List (S50) → List (S50) → Int → List Int → List (S44) → Bool → Int → List ByteArray → List ByteArray → List (S42) → Int → Int → Int → Option ((List (S50)))
 | 0, _, _, _, _, _, _, _, _, _, _, _, _, _, _, _ => none
 | k + 1, x5, x6, x7, x8, x11, x13, x14, x15, x16, x235000, x235001, x235002, x246000, x246001, x246002 => if x16 < (x14.length : Int) then (if x15 = true then (if 0 ≤ x16 then (if 0 ≤ ((za6 x14 x16).f0) then (if ((za6 x14 x16).f0) < (x5.length : Int) then ((zbe.f k x13 (zfo x5 ((za6 x14 x16).f0))).bind fun t265 => (if ((za6 x14 x16).f0) < (x6.length : Int) then (zab.l1 k x5 x6 x7 x8 x11 t265 x14 (rdOf false x6 ((za6 x14 x16).f0)) (wrap64 (x16 + 1)) x235000 x235001 x235002 x246000 x246001 x246002) else (none))) else (none)) else (none)) else (none)) else (zab.j4 k x5 x6 x7 x8 x11 x13 x15 x235000 x235001 x235002 x246000 x246001 x246002)) else (zab.j4 k x5 x6 x7 x8 x11 x13 x15 x235000 x235001 x235002 x246000 x246001 x246002)
end
def zab.f (k : Nat) (l0_0 : List ByteArray) (l0_1 : List ByteArray) (l0_2 : List (S42)) (l1 : List (S50)) : Option ((List (S50))) := (zco.f k l0_0 l0_1 l0_2).bind fun t235 => ((zal.f k l0_0 l0_1 l0_2).bind fun t238 => (if ([] : List (S50)).length + l1.length < 5864062014805 then (zab.l0 k t235 t238 ([] : List (S50)) (([] : List (S50)) ++ l1) l0_0 l0_1 l0_2) else (none)))
def zab.T15 : Bool × List (List Nat × List Nat) := (true, [([], []), ([], []), ([1], [1]), ([0, 2], [0, 2]), ([], []), ([4], [4]), ([5], [5]), ([3, 6], [3, 6]), ([7, 3, 0, 1, 2, 3, 4, 5, 6, 7], [7])])
def zab.B15 : List Nat := [0, 0, 2, 7, 0, 16, 48, 127, 255]
theorem zab.tab15 : rtab .any (opsOf Tryz.f21 15) = zab.T15 := by kernel_rfl
theorem zab.bits15 : zdh zab.T15.2 zab.B15 = true := by kernel_rfl
def zab.T31 : Bool × List (List Nat × List Nat) := (true, [([], []), ([], []), ([], []), ([1, 2], [1, 2]), ([3], [3]), ([], []), ([], []), ([5, 6], [5, 6]), ([7], [7]), ([4, 8], [4, 8]), ([9], [9]), ([0, 10], [0, 10]), ([11, 11, 0, 1, 2, 3, 4, 5, 6, 7, 8, 9, 10, 11], [0, 11])])
def zab.B31 : List Nat := [0, 0, 0, 6, 14, 0, 0, 96, 224, 510, 1022, 2047, 4095]
theorem zab.tab31 : rtab .any (opsOf Tryz.f21 31) = zab.T31 := by kernel_rfl
theorem zab.bits31 : zdh zab.T31.2 zab.B31 = true := by kernel_rfl
theorem zab.calls (k : Nat) (A0_0 : Option Addr) (c0_0 : Nat) (l0_0 : List ByteArray) (A0_1 : Option Addr) (c0_1 : Nat) (l0_1 : List ByteArray) (A0_2 : Option Addr) (c0_2 : Nat) (l0_2 : List (S42)) (A1 : Option Addr) (c1 : Nat) (l1 : List (S50)) (r : List (S50)) (w : World) (hr0_0 : Kd.C Kd.string w A0_0 l0_0.length l0_0) (hc0_0 : l0_0.length ≤ c0_0) (hr0_1 : Kd.C Kd.string w A0_1 l0_1.length l0_1) (hc0_1 : l0_1.length ≤ c0_1) (hr0_2 : Kd.C k42 w A0_2 l0_2.length l0_2) (hc0_2 : l0_2.length ≤ c0_2) (hr1 : Kd.C k50 w A1 l1.length l1) (hc1 : l1.length ≤ c1) (h : zab.f k l0_0 l0_1 l0_2 l1 = some r) :
  Calls Tryz.prog 21 #[.agg #[.slice A0_0 l0_0.length c0_0, .slice A0_1 l0_1.length c0_1, .slice A0_2 l0_2.length c0_2], .slice A1 l1.length c1] w fun e w' => ∃ v0_ : Value, e = .returned (v0_) ∧ Kd.R k50 50 w' w.heap.size (fun _ => True) v0_ r ∧ Below w.heap.size w w' := by
 have hu25 := Tryz.underlying25
 have hu50 := Tryz.underlying50
 have HR0_0 := zaa.mk hr0_0;have HC0_0 := zaa.mk hc0_0;clear hr0_0 hc0_0;have HR0_1 := zaa.mk hr0_1;have HC0_1 := zaa.mk hc0_1;clear hr0_1 hc0_1;have HR0_2 := zaa.mk hr0_2;have HC0_2 := zaa.mk hc0_2;clear hr0_2 hc0_2;have HR1 := zaa.mk hr1;have HC1 := zaa.mk hc1;clear hr1 hc1
 have HB := zaa.mk (Below.refl w.heap.size w)
 have H : ((zco.f k l0_0 l0_1 l0_2).bind fun t235 => ((zal.f k l0_0 l0_1 l0_2).bind fun t238 => (if ([] : List (S50)).length + l1.length < 5864062014805 then (zab.l0 k t235 t238 ([] : List (S50)) (([] : List (S50)) ++ l1) l0_0 l0_1 l0_2) else (none)))) = some r := h
 clear h;replace H := Option.bind_eq_some_iff.mp H
 obtain ⟨t235, A30, H⟩ := H
 replace H : ((zal.f k l0_0 l0_1 l0_2).bind fun t238 => (if ([] : List (S50)).length + l1.length < 5864062014805 then (zab.l0 k t235 t238 ([] : List (S50)) (([] : List (S50)) ++ l1) l0_0 l0_1 l0_2) else (none))) = some r := H
 have A3 := zaa.mk A30;clear A30;replace H := Option.bind_eq_some_iff.mp H
 obtain ⟨t238, A40, H⟩ := H
 replace H : (if ([] : List (S50)).length + l1.length < 5864062014805 then (zab.l0 k t235 t238 ([] : List (S50)) (([] : List (S50)) ++ l1) l0_0 l0_1 l0_2) else (none)) = some r := H
 have A4 := zaa.mk A40;clear A40
 by_cases c5 : ([] : List (S50)).length + l1.length < 5864062014805
 ·rw [if_pos c5] at H
  have LMc5 := zaa.mk c5;clear c5
  obtain ⟨y241, hy241⟩ : ∃ y_ : List (S50), y_ = (([] : List (S50)) ++ l1) := ⟨_, rfl⟩
  replace H : (zab.l0 k t235 t238 ([] : List (S50)) y241 l0_0 l0_1 l0_2) = some r := by first | (rw [hy241]; with_reducible exact H) | (have H2_ := (Option.bind_some _ _).symm.trans H; rw [hy241]; with_reducible exact H2_) | (have H2_ := (Option.bind_some _ _).symm.trans H; with_reducible exact H2_) | with_reducible exact H | (rw [hy241]; exact H) | exact H
  have Ny241 := zaa.mk hy241;clear hy241
  have H' := zaa.mk H
  clear H
  go_enter Tryz.func21, Tryz.ntmps21
  go_wp2_with (first | ((with_reducible refine zat (N := 2) rfl ?_); (try (refine zaz (by rfl) ?_; dsimp only)); refine Ybx 2 #[.slice A0_0 l0_0.length c0_0, .slice A0_1 l0_1.length c0_1, .slice A0_2 l0_2.length c0_2] 25 ?_; intro gb234 hg w6 hbox hb; obtain ⟨BK234, GW234, GE234, HB⟩ := Yb4 hbox hg hb Ybe; clear hb hbox hg; obtain ⟨hcz7_0, hfz7_0, hcz7_1, hfz7_1, hcz7_2, hfz7_2⟩ := Yc3 BK234.out) | ((with_reducible refine zbd (f := 38) rfl ?_); refine Ygl (some 21) Tryz.func38 #[.agg #[.slice A0_0 l0_0.length c0_0, .slice A0_1 l0_1.length c0_1, .slice A0_2 l0_2.length c0_2]] ?_; (with_reducible refine (zco.calls k _ _ l0_0 _ _ l0_1 _ _ l0_2 t235 _ (Kd.zak HR0_0.out Ybe) HC0_0.out (Kd.zak HR0_1.out Ybe) HC0_1.out (Kd.zak HR0_2.out Ybe) HC0_2.out A3.out).mono ?_); rintro e w8 ⟨v236, rfl, ho0, hb⟩; refine ⟨_, rfl, ?_⟩; have HO237 := zaa.mk (Kd.zb7 ho0 (za0 Yb_PItemAllx9_0)); replace BK234 := Ykb BK234 hb; replace HB := zaa.mk (zay Yb_PItemAllx9_0 hb); (try clear hb); (try clear hb2); (try clear hk); (try clear hi); (try clear ho0); obtain ⟨hcz9_0, hfz9_0, hcz9_1, hfz9_1, hcz9_2, hfz9_2⟩ := Yc3 BK234.out) | ((with_reducible refine zbd (f := 39) rfl ?_); refine Ygl (some 23) Tryz.func39 #[.agg #[.slice A0_0 l0_0.length c0_0, .slice A0_1 l0_1.length c0_1, .slice A0_2 l0_2.length c0_2]] ?_; (with_reducible refine (zal.calls k _ _ l0_0 _ _ l0_1 _ _ l0_2 t238 _ (Kd.zak HR0_0.out Ybe) HC0_0.out (Kd.zak HR0_1.out Ybe) HC0_1.out (Kd.zak HR0_2.out Ybe) HC0_2.out A4.out).mono ?_); rintro e w10 ⟨v239, rfl, ho0, hb⟩; refine ⟨_, rfl, ?_⟩; replace HO237 := zaa.mk (Kd.zbg (Yr HO237) hb); have HO240 := zaa.mk (Kd.zb7 ho0 (za0 Yb_PItemAllx9_0)); replace BK234 := Ykb BK234 hb; replace HB := zaa.mk (zay Yb_PItemAllx9_0 hb); (try clear hb); (try clear hb2); (try clear hk); (try clear hi); (try clear ho0)) | ((with_reducible refine zb5 (b := .append) (xs := #[.tmp 24, .tmp 25]) rfl ?_); (try (refine zaz (by rfl) ?_; dsimp only)); at_builtin; refine Kd.zcd k50 (w0 := w) w.heap.size rfl (.tmp 24) (.tmp 25) 45 50 (.agg #[(.int .i64 0), (.int .i64 0), (.int .i64 0)]) 24 rfl Tryz.underlying45 zd1 rfl (by decide) (by omega) (.slice none 0 0) ([] : List (S50)) l1 _ _ _ (fun _ => True) (fun _ => False) rfl rfl ?aO ?aR (fun _ _ h => h) (fun _ h => h.elim) ?aF ?aB ?aS ?aL ?_; (case aR => repeat (first | exact (Kd.zak HR1.out HB.out) | (with_reducible refine Kd.C_alloc ?_ _) | (with_reducible refine Kd.zbj ?_ _) | (with_reducible refine Kd.C_drew ?_))); (case aB => exact Yb_PItemAllx9_0); (case aF => exact (fun _ _ => trivial)); (case aO => exact ((Kd.zdi _ _ _ _ (fun _ => True)))); (case aS => exact (za0 Yb_PItemAllx9_0)); (case aL => have := LMc5.out; omega); intro v242 w11 ho hb hg hat; rw [← Ny241.out] at ho; replace BK234 := zaa.mk (zb9 (g := gb234) (o := .cells #[.slice A0_0 l0_0.length c0_0, .slice A0_1 l0_1.length c0_1, .slice A0_2 l0_2.length c0_2] 25 (0, 0)) (Yg BK234) hg (by simp [Value.ownBlock])); replace HO237 := zaa.mk (Kd.zfd (Yr HO237) hg (fun _ _ => by simp [Value.ownBlock])); replace HO240 := zaa.mk (Kd.zfd (Yr HO240) hg (fun _ _ => by simp [Value.ownBlock])); replace HB := zaa.mk (hb); have HO243 := zaa.mk (ho); clear ho hb hg hat))
  go_loopg [7, 8] k (fun kq v7 v8 w' => ∃ (x7_1 : List (S50)) (x8_1 : List (S50)), zaa (zab.l0 kq t235 t238 x7_1 x8_1 l0_0 l0_1 l0_2 = some r) ∧ zaa (kq ≤ k) ∧ zaa (Kd.R (Kd.slice 3 (Kd.int .i64)) 35 w' w.heap.size (fun _ => True) v236 t235) ∧ zaa (Kd.R Kd.bool 4 w' w.heap.size (fun _ => True) v239 t238) ∧ zaa (Kd.R k50 50 w' w.heap.size (fun k_ => some k_ ≠ (v8 : Value).ownBlock) v7 x7_1) ∧ zaa (Kd.Q k50 50 w' w.heap.size (fun k_ => some k_ ≠ (v7 : Value).ownBlock) v8 x8_1) ∧ zaa (w'.heap[gb234]? = some (.cells #[(.slice A0_0 l0_0.length c0_0), (.slice A0_1 l0_1.length c0_1), (.slice A0_2 l0_2.length c0_2)] 25 (0, 0))) ∧ zaa (Below w.heap.size w w'))
  case atStart => exact ⟨(([] : List (S50))), (y241), H', ⟨Nat.le_refl _⟩, ⟨Yr HO237⟩, ⟨Yr HO240⟩, ⟨by first | exact Kd.zdi _ _ _ _ _ | exact Kd.N_nil _ _ _ _ _ | exact Kd.V_nil _ _ _ _ _ | exact Kd.Q_nil _ _ _ _ _ | exact Kd.S_nil _ _ _ _ _⟩, ⟨Kd.Q_of_R (by (with_reducible repeat (first | apply Kd.R_alloc | apply Kd.zby | apply Kd.zbm)); exact Kd.za7 HO243.out (fun _ hk => (by simp [Value.ownBlock])))⟩, ⟨Yg BK234⟩, ⟨Yb_PItemAllx9_0⟩⟩
  case round =>
   clear H'
   obtain ⟨x7_1, x8_1, HA, HK1, HO_5, HO_6, HO_7, HO_8, BK234, HB⟩ := hrel
   cases gk with
   | zero => exact absurd HA.out (by simp [zab.l0])
   | succ k1 =>
    have H := HA.out;clear HA
    simp only [zab.l0] at H
    by_cases c12 : (x8_1.length : Int) > 0
    ·rw [if_pos c12] at H
     have c12b0 := decide_eq_true c12
     have c12b1 : decide (0 < x8_1.length) = true := decide_eq_true (by omega)
     clear c12
     by_cases c13 : 0 < (x8_1.length : Int)
     ·rw [if_pos c13] at H
      have c13b0 := decide_eq_true c13
      have c13b1 : decide (0 < x8_1.length) = true := decide_eq_true (by omega)
      clear c13
      by_cases c14 : 1 ≤ (x8_1.length : Int)
      ·rw [if_pos c14] at H
       have c14b0 := eq_true c14
       have c14b1 := decide_eq_true c14
       clear c14
       obtain ⟨y246, hy246⟩ : ∃ y_ : List (S50), y_ = (x8_1.drop (1 : Int).toNat) := ⟨_, rfl⟩
       replace H : ((za3.f l0_0 l0_1 l0_2 ((zae x8_1 0).f0) ((zae x8_1 0).f1) ((zae x8_1 0).f2)).bind fun t249 => (if t249 = true then ((zaq.f k1 x7_1 ((zae x8_1 0).f0) ((zae x8_1 0).f1) ((zae x8_1 0).f2)).bind fun t250 => (zab.j1 k1 t235 t238 t250 y246 (x7_1.length : Int) l0_0 l0_1 l0_2 ((zae x8_1 0).f0) ((zae x8_1 0).f1) ((zae x8_1 0).f2))) else (zab.j1 k1 t235 t238 x7_1 y246 (x7_1.length : Int) l0_0 l0_1 l0_2 ((zae x8_1 0).f0) ((zae x8_1 0).f1) ((zae x8_1 0).f2)))) = some r := by first | (rw [hy246]; with_reducible exact H) | (have H2_ := (Option.bind_some _ _).symm.trans H; rw [hy246]; with_reducible exact H2_) | (have H2_ := (Option.bind_some _ _).symm.trans H; with_reducible exact H2_) | with_reducible exact H | (rw [hy246]; exact H) | exact H
       have Ny246 := zaa.mk hy246;clear hy246;replace H := Option.bind_eq_some_iff.mp H
       obtain ⟨t249, A150, H⟩ := H
       replace H : (if t249 = true then ((zaq.f k1 x7_1 ((zae x8_1 0).f0) ((zae x8_1 0).f1) ((zae x8_1 0).f2)).bind fun t250 => (zab.j1 k1 t235 t238 t250 y246 (x7_1.length : Int) l0_0 l0_1 l0_2 ((zae x8_1 0).f0) ((zae x8_1 0).f1) ((zae x8_1 0).f2))) else (zab.j1 k1 t235 t238 x7_1 y246 (x7_1.length : Int) l0_0 l0_1 l0_2 ((zae x8_1 0).f0) ((zae x8_1 0).f1) ((zae x8_1 0).f2))) = some r := H
       have A15 := zaa.mk A150;clear A150;have HC16 := zaa.mk H;clear H
       obtain ⟨Ao17, co17, eo17, _⟩ := Kd.Q_slice HO_8.out
       subst eo17
       have p244 : 0 ≤ (0 : Int) := (by omega)
       have q244 : 0 < (x8_1.length : Int) := Yod
       obtain ⟨ad244, e244, hx244_0, hx244_1, hx244_2⟩ := zc3 (Kd.Q_reads' HO_8.out).2.2 0 p244 q244
       cases e244
       have qi244 : (0 < x8_1.length) = True := eq_true (by omega)
       (try rw [show ((0 : Int)).toNat = 0 from rfl] at hx244_0)
       (try rw [show 0 * 3 = 0 from rfl] at hx244_0)
       (try rw [Addr.add_zero'] at hx244_0)
       (try rw [show ((0 : Int)).toNat = 0 from rfl] at hx244_1)
       (try rw [show 0 * 3 = 0 from rfl] at hx244_1)
       (try rw [Addr.add_zero'] at hx244_1)
       (try rw [show ((0 : Int)).toNat = 0 from rfl] at hx244_2)
       (try rw [show 0 * 3 = 0 from rfl] at hx244_2)
       (try rw [Addr.add_zero'] at hx244_2)
       replace p244 := eq_true p244
       replace q244 := eq_true q244
       go_upto_if 39 with (first | ((with_reducible refine zat (N := 9) rfl ?_); (try (refine zaz (by rfl) ?_; dsimp only)); refine Ybx 9 #[.int .i64 0, .int .i64 0, .int .i64 0] 50 ?_; intro gb245 hg w18 hbox hb; replace HO_5 := zaa.mk (Kd.zbg (Yr HO_5) hb); replace HO_6 := zaa.mk (Kd.zbg (Yr HO_6) hb); replace HO_7 := zaa.mk (Kd.zbg (Kd.R_elderB (Yr HO_7) gb245 (Nat.le_of_eq hg.symm)) hb); replace HO_8 := zaa.mk (Kd.zfc (Kd.Q_elderB (by (with_reducible repeat (first | apply Kd.Q_alloc | apply Kd.Q_drewN | apply Kd.zcb)); exact HO_8.out) gb245 (Nat.le_of_eq hg.symm)) hb); obtain ⟨BK245, GW245, GE245, HB⟩ := Yb4 hbox hg hb Yb_PItemAllx9_0; have NB234_245 := Ynl BK234 hg; have NB245_234 := Yng BK234 hg; replace BK234 := Ykb BK234 hb; clear hb hbox hg; have hnb19 := NB245_234.out; have hnc19 := NB234_245.out; obtain ⟨hcz20_0, hfz20_0, hcz20_1, hfz20_1, hcz20_2, hfz20_2⟩ := Yc3 BK245.out) | ((with_reducible refine zjz (t := 50) (p := 9) rfl ?_); refine zi8 (t := 50) (p := 9) (v := ?vo_w21) (w1 := (((w18.setCell ⟨gb245, 0, none⟩ (.int .i64 ((zae x8_1 0).f0))).setCell ⟨gb245, 1, none⟩ (.int .i64 ((zae x8_1 0).f1))).setCell ⟨gb245, 2, none⟩ (.int .i64 ((zae x8_1 0).f2)))) ?hg ?ho ?hn ?hr ?_; (case ho => rfl); (case hg => rfl); (case hn => rfl); (case hr => first | (go_simp; done) | (go_simp; rfl)); intro w21 hw; have n0_ : zaa (Kd.R (Kd.slice 3 (Kd.int .i64)) 35 w21 w.heap.size (fun _ => True) v236 t235) := ⟨(by rw [hw]; exact (by (with_reducible repeat (first | apply Kd.R_alloc | apply Kd.zby | apply Kd.zbm)); exact Kd.za7 (Kd.zdo (p := ⟨gb245, 2, none⟩) (Kd.zdo (p := ⟨gb245, 1, none⟩) (Kd.zdo (p := ⟨gb245, 0, none⟩) (Kd.zeb HO_5.out BK245.out (by decide)) (fun _ hk => hk.2) (.int .i64 ((zae x8_1 0).f0))) (fun _ hk => hk.2) (.int .i64 ((zae x8_1 0).f1))) (fun _ hk => hk.2) (.int .i64 ((zae x8_1 0).f2))) (fun _ hk => trivial)))⟩; have n1_ : zaa (Kd.R Kd.bool 4 w21 w.heap.size (fun _ => True) v239 t238) := ⟨(by rw [hw]; exact (by (with_reducible repeat (first | apply Kd.R_alloc | apply Kd.zby | apply Kd.zbm)); exact Kd.za7 (Kd.zdo (p := ⟨gb245, 2, none⟩) (Kd.zdo (p := ⟨gb245, 1, none⟩) (Kd.zdo (p := ⟨gb245, 0, none⟩) (Kd.zeb HO_6.out BK245.out (by decide)) (fun _ hk => hk.2) (.int .i64 ((zae x8_1 0).f0))) (fun _ hk => hk.2) (.int .i64 ((zae x8_1 0).f1))) (fun _ hk => hk.2) (.int .i64 ((zae x8_1 0).f2))) (fun _ hk => trivial)))⟩; have n2_ : zaa (Kd.R k50 50 w21 w.heap.size (fun k_ => some k_ ≠ (.slice (some ad244) x8_1.length co17 : Value).ownBlock ∧ k_ ≠ gb245) u7 x7_1) := ⟨(by rw [hw]; exact (by (with_reducible repeat (first | apply Kd.R_alloc | apply Kd.zby | apply Kd.zbm)); exact Kd.za7 (Kd.zdo (p := ⟨gb245, 2, none⟩) (Kd.zdo (p := ⟨gb245, 1, none⟩) (Kd.zdo (p := ⟨gb245, 0, none⟩) (Kd.za7 HO_7.out (fun k_ hk => (⟨hk, hk.2⟩ : _ ∧ k_ ≠ gb245))) (fun _ hk => hk.2) (.int .i64 ((zae x8_1 0).f0))) (fun _ hk => hk.2) (.int .i64 ((zae x8_1 0).f1))) (fun _ hk => hk.2) (.int .i64 ((zae x8_1 0).f2))) (fun _ hk => ⟨hk.1.1, hk.1.2⟩)))⟩; have n3_ : zaa (Kd.Q k50 50 w21 w.heap.size (fun k_ => some k_ ≠ (u7 : Value).ownBlock ∧ k_ ≠ gb245) (.slice (some ad244) x8_1.length co17) x8_1) := ⟨(by rw [hw]; exact (by (with_reducible repeat (first | apply Kd.Q_alloc | apply Kd.Q_drewN | apply Kd.zcb)); exact Kd.zeg (Kd.Q_far (p := ⟨gb245, 2, none⟩) (Kd.Q_far (p := ⟨gb245, 1, none⟩) (Kd.Q_far (p := ⟨gb245, 0, none⟩) (Kd.zeg HO_8.out (fun k_ hk => (⟨hk, hk.2⟩ : _ ∧ k_ ≠ gb245))) (fun _ hk => hk.2) (.int .i64 ((zae x8_1 0).f0))) (fun _ hk => hk.2) (.int .i64 ((zae x8_1 0).f1))) (fun _ hk => hk.2) (.int .i64 ((zae x8_1 0).f2))) (fun _ hk => ⟨hk.1.1, hk.1.2⟩)))⟩; have n4_ : zaa (w21.heap[gb234]? = some (.cells #[.slice A0_0 l0_0.length c0_0, .slice A0_1 l0_1.length c0_1, .slice A0_2 l0_2.length c0_2] 25 (0, 0))) := ⟨(by rw [hw]; exact (by (with_reducible repeat (first | refine zam ?_ _ | refine zah ?_ | refine zaj ?_ _)); refine zbk ?_ NB234_245.out _; (with_reducible repeat (first | refine zam ?_ _ | refine zah ?_ | refine zaj ?_ _)); refine zbk ?_ NB234_245.out _; (with_reducible repeat (first | refine zam ?_ _ | refine zah ?_ | refine zaj ?_ _)); refine zbk ?_ NB234_245.out _; (with_reducible repeat (first | refine zam ?_ _ | refine zah ?_ | refine zaj ?_ _)); exact BK234.out))⟩; have n5_ : zaa (w21.heap[gb245]? = some (.cells #[.int .i64 ((zae x8_1 0).f0), .int .i64 ((zae x8_1 0).f1), .int .i64 ((zae x8_1 0).f2)] 50 (0, 0))) := ⟨(by rw [hw]; exact (by (with_reducible repeat (first | refine zam ?_ _ | refine zah ?_ | refine zaj ?_ _)); refine zbv (cs := #[.int .i64 ((zae x8_1 0).f0), .int .i64 ((zae x8_1 0).f1), .int .i64 0]) ?_ 2 _ rfl; (with_reducible repeat (first | refine zam ?_ _ | refine zah ?_ | refine zaj ?_ _)); refine zbv (cs := #[.int .i64 ((zae x8_1 0).f0), .int .i64 0, .int .i64 0]) ?_ 1 _ rfl; (with_reducible repeat (first | refine zam ?_ _ | refine zah ?_ | refine zaj ?_ _)); refine zbv (cs := #[.int .i64 0, .int .i64 0, .int .i64 0]) ?_ 0 _ rfl; (with_reducible repeat (first | refine zam ?_ _ | refine zah ?_ | refine zaj ?_ _)); exact BK245.out))⟩; have n6_ : zaa (Below w.heap.size w w21) := ⟨(by rw [hw]; exact Yb_PItemAllx9_1)⟩; clear hw; clear HO_5; clear HO_6; clear HO_7; clear HO_8; clear BK234; clear BK245; clear HB; have HO_5 := n0_; have HO_6 := n1_; have HO_7 := n2_; have HO_8 := n3_; have BK234 := n4_; have BK245 := n5_; have HB := n6_; clear n0_ n1_ n2_ n3_ n4_ n5_ n6_; have q22 : (1 : Int) ≤ ((x8_1.length : Int) : Int) := Yod; obtain ⟨i022, hi022, _, hsz22, _⟩ := info_parts zd1; have hcut22 := zek (P := Tryz.prog) 45 50 .i64 Tryz.underlying45 hi022 3 hsz22 (some ad244) x8_1.length co17 1 (by omega) q22; have hr22 := Kd.Q_drop (k := (1 : Int).toNat) HO_8.out (by omega); obtain ⟨A22, hA22⟩ : ∃ A1, A1 = (if co17 = (1 : Int).toNat then (some ad244) else ((some ad244) : Option Addr).map (·.add ((1 : Int).toNat * 3))) := ⟨_, rfl⟩; obtain ⟨c22, hc22⟩ : ∃ c1, c1 = co17 - (1 : Int).toNat := ⟨_, rfl⟩; have hy22 : y246.length = x8_1.length - (1 : Int).toNat := (by rw [Ny246.out, List.length_drop]); rw [← Ny246.out] at hr22; rw [← hy22, ← hA22, ← hc22] at hcut22; replace hr22 : Kd.Q k50 50 w21 w.heap.size (fun k_ => some k_ ≠ (u7 : Value).ownBlock ∧ k_ ≠ gb245) (.slice A22 y246.length c22) y246 := (by rw [hA22, hc22, hy22]; exact hr22); have HE22 : zaa ((Value.slice A22 y246.length c22).ownBlock = (.slice (some ad244) x8_1.length co17 : Value).ownBlock) := ⟨by rw [hA22]; split <;> (cases ((some ad244) : Option Addr) <;> rfl)⟩; clear hy22 hi022 hsz22 HO_8 hA22 hc22; have HO248 := zaa.mk hr22; clear hr22; replace q22 := eq_true q22; have n_ := zaa.mk (Kd.za7 (ok' := fun k_ => (some k_ ≠ (.slice A22 y246.length c22 : Value).ownBlock ∧ k_ ≠ gb245)) HO_7.out (fun k_ hk => ⟨(by rw [HE22.out]; exact hk.1), hk.2⟩)); clear HO_7; have HO_7 := n_; clear n_; obtain ⟨Ao23, co23, eo23⟩ := Kd.zbn HO_7.out; subst eo23; obtain ⟨hcz24_0, hfz24_0, hcz24_1, hfz24_1, hcz24_2, hfz24_2⟩ := Yc3 BK234.out; obtain ⟨hcz25_0, hfz25_0, hcz25_1, hfz25_1, hcz25_2, hfz25_2⟩ := Yc3 BK245.out) | ((with_reducible refine zbd (f := 18) rfl ?_); refine Ygl (some 39) Tryz.func18 #[.agg #[.slice A0_0 l0_0.length c0_0, .slice A0_1 l0_1.length c0_1, .slice A0_2 l0_2.length c0_2], .agg #[.int .i64 ((zae x8_1 0).f0), .int .i64 ((zae x8_1 0).f1), .int .i64 ((zae x8_1 0).f2)]] ?_; (with_reducible refine (za3.calls _ _ l0_0 _ _ l0_1 _ _ l0_2 ((zae x8_1 0).f0) ((zae x8_1 0).f1) ((zae x8_1 0).f2) t249 _ (Kd.zak HR0_0.out Ybe) HC0_0.out (Kd.zak HR0_1.out Ybe) HC0_1.out (Kd.zak HR0_2.out Ybe) HC0_2.out A15.out).mono ?_); rintro e w26 ⟨rfl, hb⟩; refine ⟨_, rfl, ?_⟩; replace HO_5 := zaa.mk (Kd.zbg (Yr HO_5) hb); replace HO_6 := zaa.mk (Kd.zbg (Yr HO_6) hb); replace HO_7 := zaa.mk (Kd.zbg (Yr HO_7) hb); replace HO248 := zaa.mk (Kd.zfc (by (with_reducible repeat (first | apply Kd.Q_alloc | apply Kd.Q_drewN | apply Kd.zcb)); exact HO248.out) hb); replace BK234 := Ykb BK234 hb; replace BK245 := Ykb BK245 hb; replace HB := zaa.mk (zay Yb_PItemAllx9_1 hb); (try clear hb); (try clear hb2); (try clear hk); (try clear hi)))
       (try simp only [Act.put, Y1, Y2, Y3])
       go_cut [7] (fun v7 wc => ∃ (kq : Nat) (x7_15 : List (S50)), zaa (zab.j1 kq t235 t238 x7_15 y246 (x7_1.length : Int) l0_0 l0_1 l0_2 ((zae x8_1 0).f0) ((zae x8_1 0).f1) ((zae x8_1 0).f2) = some r) ∧ zaa (kq ≤ k1) ∧ zaa (Kd.R (Kd.slice 3 (Kd.int .i64)) 35 wc w.heap.size (fun _ => True) v236 t235) ∧ zaa (Kd.R Kd.bool 4 wc w.heap.size (fun _ => True) v239 t238) ∧ zaa (Kd.R k50 50 wc w.heap.size (fun k_ => some k_ ≠ ((.slice A22 y246.length c22) : Value).ownBlock ∧ k_ ≠ gb245) v7 x7_15) ∧ zaa (Kd.Q k50 50 wc w.heap.size (fun k_ => some k_ ≠ (v7 : Value).ownBlock ∧ k_ ≠ gb245) (.slice A22 y246.length c22) y246) ∧ zaa (wc.heap[gb234]? = some (.cells #[(.slice A0_0 l0_0.length c0_0), (.slice A0_1 l0_1.length c0_1), (.slice A0_2 l0_2.length c0_2)] 25 (0, 0))) ∧ zaa (wc.heap[gb245]? = some (.cells #[.int .i64 ((zae x8_1 0).f0), .int .i64 ((zae x8_1 0).f1), .int .i64 ((zae x8_1 0).f2)] 50 (0, 0))) ∧ zaa (Below w.heap.size w wc))
       case first =>
        have H := HC16.out;clear HC16
        by_cases c27 : t249 = true
        ·subst c27
         have H1 : ((zaq.f k1 x7_1 ((zae x8_1 0).f0) ((zae x8_1 0).f1) ((zae x8_1 0).f2)).bind fun t250 => (zab.j1 k1 t235 t238 t250 y246 (x7_1.length : Int) l0_0 l0_1 l0_2 ((zae x8_1 0).f0) ((zae x8_1 0).f1) ((zae x8_1 0).f2))) = some r := by rw [if_pos rfl] at H; exact H
         clear H;have H := H1;clear H1;replace H := Option.bind_eq_some_iff.mp H
         obtain ⟨t250, A280, H⟩ := H
         replace H : (zab.j1 k1 t235 t238 t250 y246 (x7_1.length : Int) l0_0 l0_1 l0_2 ((zae x8_1 0).f0) ((zae x8_1 0).f1) ((zae x8_1 0).f2)) = some r := H
         have A28 := zaa.mk A280;clear A280
         have H' := zaa.mk H
         clear H
         have hnb29 := NB245_234.out
         have hnc29 := NB234_245.out
         obtain ⟨hcz30_0, hfz30_0, hcz30_1, hfz30_1, hcz30_2, hfz30_2⟩ := Yc3 BK245.out
         go_wp2_with (first | ((with_reducible refine zbd (f := 40) rfl ?_); refine Ygl (some 42) Tryz.func40 #[.slice Ao23 x7_1.length co23, .agg #[.int .i64 ((zae x8_1 0).f0), .int .i64 ((zae x8_1 0).f1), .int .i64 ((zae x8_1 0).f2)]] ?_; (with_reducible refine (zaq.calls k1 (fun k_ => some k_ = (.slice Ao23 x7_1.length co23 : Value).ownBlock) (.slice Ao23 x7_1.length co23) x7_1 ((zae x8_1 0).f0) ((zae x8_1 0).f1) ((zae x8_1 0).f2) t250 w _ ?side1 ?side2 A28.out).mono ?_); (case side1 => repeat (first | (with_reducible first | exact HB.out | apply za5 | apply zau | apply zar | refine za9 ?_ GE234.out | refine za9 ?_ GE245.out) | exact HB.out)); (case side2 => exact Kd.zgc rfl HO_7.out); rintro e w31 ⟨v251, rfl, ho0, hb, hkp⟩; refine ⟨_, rfl, ?_⟩; replace HO_5 := zaa.mk (Kd.za7 (ok' := fun k_ => True) (Kd.zen ((Kd.R_apart' HO_5.out (Kd.zdk HO_7.out) (by decide))) hkp (fun k_ hk_ hs_ => (hk_.2) hs_)) (fun k_ hk_ => trivial)); replace HO_6 := zaa.mk (Kd.za7 (ok' := fun k_ => True) (Kd.zen ((Kd.R_apart' HO_6.out (Kd.zdk HO_7.out) (by decide))) hkp (fun k_ hk_ hs_ => (hk_.2) hs_)) (fun k_ hk_ => trivial)); replace BK234 := zaa.mk (zfe (Yg BK234) hkp (fun hs_ => (fun e_ => (Kd.R_ne HO_7.out BK234.out (by decide)) e_) hs_)); have HO252 := zaa.mk (Kd.za7 (ok' := fun k_ => some k_ ≠ (.slice A22 y246.length c22 : Value).ownBlock ∧ k_ ≠ gb245) ho0 (fun k_ hk_ => ⟨Or.elim hk_ (fun hs_ => fun e_ => (((HO248.out).1 k_ e_.symm).1) hs_) (fun hn_ => (Kd.fresh' (Kd.Q_lt (by (with_reducible repeat (first | apply Kd.Q_alloc | apply Kd.Q_drewN | apply Kd.zcb)); exact HO248.out)) k_ hn_)), Or.elim hk_ (fun hs_ => fun e_ => (Kd.zg5 HO_7.out (fun _ hk => hk.2)) (by rw [← e_]; exact hs_)) (fun hn_ => (Kd.zb4 (g := gb245) (o := .cells #[.int .i64 ((zae x8_1 0).f0), .int .i64 ((zae x8_1 0).f1), .int .i64 ((zae x8_1 0).f2)] 50 (0, 0)) (Yg BK245) k_ hn_))⟩)); replace HO248 := zaa.mk (Kd.zeg (ok' := fun k_ => k_ ≠ gb245 ∧ some k_ ≠ (v251 : Value).ownBlock) (Kd.Q_keptB (HO248.out) hkp (fun k_ hk_ hs_ => (hk_.1) hs_)) (fun k_ hk_ => ⟨hk_.1.2, fun e_ => Or.elim (ho0.1 k_ e_.symm) (fun hs_ => hk_.2.1 hs_) (fun hn_ => Nat.not_le.2 hk_.2.2 hn_)⟩)); replace BK245 := zaa.mk (zfe (Yg BK245) hkp (fun hs_ => (fun e_ => (Kd.zg5 HO_7.out (fun _ hk => hk.2)) e_) hs_)); replace HB := zaa.mk (hb); clear HO_7; (try clear hb); (try clear hkp); (try clear ho0)))
         go_meet
         case rel => exact ⟨_, (t250), H', ⟨by have := HK1.out; first | omega | exact Nat.le_refl _⟩, ⟨Yr HO_5⟩, ⟨Yr HO_6⟩, ⟨Yr HO252⟩, ⟨by (with_reducible repeat (first | apply Kd.Q_alloc | apply Kd.Q_drewN | apply Kd.zcb)); exact Kd.zeg HO248.out (fun _ hk => ⟨hk.2, hk.1⟩)⟩, ⟨Yg BK234⟩, ⟨Yg BK245⟩, ⟨Yb_PItemAllx9_1⟩⟩
        ·replace c27 := Bool.eq_false_iff.mpr c27
         subst c27
         have H1 : (zab.j1 k1 t235 t238 x7_1 y246 (x7_1.length : Int) l0_0 l0_1 l0_2 ((zae x8_1 0).f0) ((zae x8_1 0).f1) ((zae x8_1 0).f2)) = some r := by rw [if_neg (show ¬ (false = true) by decide)] at H; exact H
         clear H;have H := H1;clear H1
         have H' := zaa.mk H
         clear H;go_wp2
         go_meet
         case rel => exact ⟨_, (x7_1), H', ⟨by have := HK1.out; first | omega | exact Nat.le_refl _⟩, ⟨Yr HO_5⟩, ⟨Yr HO_6⟩, ⟨Yr HO_7⟩, ⟨by (with_reducible repeat (first | apply Kd.Q_alloc | apply Kd.Q_drewN | apply Kd.zcb)); exact HO248.out⟩, ⟨Yg BK234⟩, ⟨Yg BK245⟩, ⟨Yb_PItemAllx9_1⟩⟩
       case rest =>
        clear HC16
        obtain ⟨kq, x7_15, HA, HJ15, HO_5, HO_6, HO_7, HO_8, BK234, BK245, HB⟩ := hcut
        cases kq with
        | zero => exact absurd HA.out (by simp [zab.j1])
        | succ kj15 =>
         have H := HA.out;clear HA
         simp only [zab.j1] at H
         replace H := Option.bind_eq_some_iff.mp H
         obtain ⟨⟨t253, t254⟩, A320, H⟩ := H
         replace H : (if (x7_15.length : Int) = (x7_1.length : Int) then (zab.j2 kj15 t235 t238 x7_15 y246 t253 true l0_0 l0_1 l0_2 ((zae x8_1 0).f0) ((zae x8_1 0).f1) ((zae x8_1 0).f2)) else (if t254 = true then (zab.j2 kj15 t235 t238 x7_15 y246 t253 (decide (t253 < (l0_0.length : Int))) l0_0 l0_1 l0_2 ((zae x8_1 0).f0) ((zae x8_1 0).f1) ((zae x8_1 0).f2)) else (zab.j2 kj15 t235 t238 x7_15 y246 t253 true l0_0 l0_1 l0_2 ((zae x8_1 0).f0) ((zae x8_1 0).f1) ((zae x8_1 0).f2)))) = some r := H
         have A32 := zaa.mk A320;clear A320;have HC33 := zaa.mk H;clear H
         have hnb34 := NB234_245.out
         have hnc34 := NB245_234.out
         obtain ⟨hcz35_0, hfz35_0, hcz35_1, hfz35_1, hcz35_2, hfz35_2⟩ := Yc3 BK234.out
         obtain ⟨hcz36_0, hfz36_0, hcz36_1, hfz36_1, hcz36_2, hfz36_2⟩ := Yc3 BK245.out
         go_upto_region 13 with (first | ((with_reducible refine zbd (f := 16) rfl ?_); refine Ygl (some 46) Tryz.func16 #[.agg #[.slice A0_0 l0_0.length c0_0, .slice A0_1 l0_1.length c0_1, .slice A0_2 l0_2.length c0_2], .agg #[.int .i64 ((zae x8_1 0).f0), .int .i64 ((zae x8_1 0).f1), .int .i64 ((zae x8_1 0).f2)]] ?_; (with_reducible refine (zb1.calls _ _ l0_0 _ _ l0_1 _ _ l0_2 ((zae x8_1 0).f0) ((zae x8_1 0).f1) ((zae x8_1 0).f2) t253 t254 _ (Kd.zak HR0_0.out Ybe) HC0_0.out (Kd.zak HR0_1.out Ybe) HC0_1.out (Kd.zak HR0_2.out Ybe) HC0_2.out A32.out).mono ?_); rintro e w37 ⟨rfl, hb⟩; refine ⟨_, rfl, ?_⟩; replace HO_5 := zaa.mk (Kd.zbg (Yr HO_5) hb); replace HO_6 := zaa.mk (Kd.zbg (Yr HO_6) hb); replace HO_7 := zaa.mk (Kd.zbg (Yr HO_7) hb); replace HO_8 := zaa.mk (Kd.zfc (by (with_reducible repeat (first | apply Kd.Q_alloc | apply Kd.Q_drewN | apply Kd.zcb)); exact HO_8.out) hb); replace BK234 := Ykb BK234 hb; replace BK245 := Ykb BK245 hb; replace HB := zaa.mk (zay Yb_PItemAllx9_1 hb); (try clear hb); (try clear hb2); (try clear hk); (try clear hi)))
         (try simp only [Act.put, Y1, Y2, Y3])
         go_cut [63] (fun v63 wc => ∃ (kq : Nat) (x63_32 : Bool), v63 = .bool x63_32 ∧ zaa (zab.j2 kq t235 t238 x7_15 y246 t253 x63_32 l0_0 l0_1 l0_2 ((zae x8_1 0).f0) ((zae x8_1 0).f1) ((zae x8_1 0).f2) = some r) ∧ zaa (kq ≤ kj15) ∧ zaa (Kd.R (Kd.slice 3 (Kd.int .i64)) 35 wc w.heap.size (fun _ => True) v236 t235) ∧ zaa (Kd.R Kd.bool 4 wc w.heap.size (fun _ => True) v239 t238) ∧ zaa (Kd.R k50 50 wc w.heap.size (fun k_ => some k_ ≠ ((.slice A22 y246.length c22) : Value).ownBlock ∧ k_ ≠ gb245) u7 x7_15) ∧ zaa (Kd.Q k50 50 wc w.heap.size (fun k_ => some k_ ≠ (u7 : Value).ownBlock ∧ k_ ≠ gb245) (.slice A22 y246.length c22) y246) ∧ zaa (wc.heap[gb234]? = some (.cells #[(.slice A0_0 l0_0.length c0_0), (.slice A0_1 l0_1.length c0_1), (.slice A0_2 l0_2.length c0_2)] 25 (0, 0))) ∧ zaa (wc.heap[gb245]? = some (.cells #[.int .i64 ((zae x8_1 0).f0), .int .i64 ((zae x8_1 0).f1), .int .i64 ((zae x8_1 0).f2)] 50 (0, 0))) ∧ zaa (Below w.heap.size w wc))
         case first =>
          have H := HC33.out;clear HC33
          by_cases c38 : (x7_15.length : Int) = (x7_1.length : Int)
          ·rw [if_pos c38] at H
           have c38b0 : ((x7_15.length : Int) == (x7_1.length : Int)) = true := beq_iff_eq.mpr c38
           have c38b1 : ((x7_15.length : Int) != (x7_1.length : Int)) = false := bne_eq_false_iff_eq.mpr c38
           have c38b2 : (x7_15.length == x7_1.length) = true := by first | simpa using c38 | (simp at c38 ⊢; omega)
           clear c38
           (first | rw [c38b0] | (simp only [zd6, zej]; rw [c38b0]) | skip)
           have H' := zaa.mk H
           clear H
           obtain ⟨Ao39, co39, eo39⟩ := Kd.zbn HO_7.out
           subst eo39;go_wp2
           go_meet
           case rel => exact ⟨_, (true), Yfs, H', ⟨by have := HK1.out; have := HJ15.out; first | omega | exact Nat.le_refl _⟩, ⟨Yr HO_5⟩, ⟨Yr HO_6⟩, ⟨Yr HO_7⟩, ⟨by (with_reducible repeat (first | apply Kd.Q_alloc | apply Kd.Q_drewN | apply Kd.zcb)); exact HO_8.out⟩, ⟨Yg BK234⟩, ⟨Yg BK245⟩, ⟨Yb_PItemAllx9_1⟩⟩
          ·rw [if_neg c38] at H
           have c38b0 : ((x7_15.length : Int) == (x7_1.length : Int)) = false := beq_eq_false_iff_ne.mpr c38
           have c38b1 : ((x7_15.length : Int) != (x7_1.length : Int)) = true := bne_iff_ne.mpr c38
           have c38b2 : (x7_15.length == x7_1.length) = false := by first | simpa using c38 | (simp at c38 ⊢; omega)
           (first | rw [c38b0] | (simp only [zd6, zej]; rw [c38b0]) | skip)
           by_cases c40 : t254 = true
           ·subst c40
            have H1 : (zab.j2 kj15 t235 t238 x7_15 y246 t253 (decide (t253 < (l0_0.length : Int))) l0_0 l0_1 l0_2 ((zae x8_1 0).f0) ((zae x8_1 0).f1) ((zae x8_1 0).f2)) = some r := by rw [if_pos rfl] at H; exact H
            clear H;have H := H1;clear H1
            have H' := zaa.mk H
            clear H
            obtain ⟨Ao41, co41, eo41⟩ := Kd.zbn HO_7.out
            subst eo41
            have hnb42 := NB234_245.out
            have hnc42 := NB245_234.out
            obtain ⟨hcz43_0, hfz43_0, hcz43_1, hfz43_1, hcz43_2, hfz43_2⟩ := Yc3 BK234.out
            go_wp2
            go_meet
            case rel => exact ⟨_, (decide (t253 < (l0_0.length : Int))), Yfs, H', ⟨by have := HK1.out; have := HJ15.out; first | omega | exact Nat.le_refl _⟩, ⟨Yr HO_5⟩, ⟨Yr HO_6⟩, ⟨Yr HO_7⟩, ⟨by (with_reducible repeat (first | apply Kd.Q_alloc | apply Kd.Q_drewN | apply Kd.zcb)); exact HO_8.out⟩, ⟨Yg BK234⟩, ⟨Yg BK245⟩, ⟨Yb_PItemAllx9_1⟩⟩
           ·replace c40 := Bool.eq_false_iff.mpr c40
            subst c40
            have H1 : (zab.j2 kj15 t235 t238 x7_15 y246 t253 true l0_0 l0_1 l0_2 ((zae x8_1 0).f0) ((zae x8_1 0).f1) ((zae x8_1 0).f2)) = some r := by rw [if_neg (show ¬ (false = true) by decide)] at H; exact H
            clear H;have H := H1;clear H1
            have H' := zaa.mk H
            clear H
            obtain ⟨Ao44, co44, eo44⟩ := Kd.zbn HO_7.out
            subst eo44;go_wp2
            go_meet
            case rel => exact ⟨_, (true), Yfs, H', ⟨by have := HK1.out; have := HJ15.out; first | omega | exact Nat.le_refl _⟩, ⟨Yr HO_5⟩, ⟨Yr HO_6⟩, ⟨Yr HO_7⟩, ⟨by (with_reducible repeat (first | apply Kd.Q_alloc | apply Kd.Q_drewN | apply Kd.zcb)); exact HO_8.out⟩, ⟨Yg BK234⟩, ⟨Yg BK245⟩, ⟨Yb_PItemAllx9_1⟩⟩
         case rest =>
          clear HC33
          obtain ⟨kq, x63_32, rfl, HA, HJ32, HO_5, HO_6, HO_7, HO_8, BK234, BK245, HB⟩ := hcut
          cases kq with
          | zero => exact absurd HA.out (by simp [zab.j2])
          | succ kj32 =>
           have H := HA.out;clear HA
           simp only [zab.j2] at H
           by_cases c45 : x63_32 = true
           ·subst c45
            have H1 : (zab.l0 kj32 t235 t238 x7_15 y246 l0_0 l0_1 l0_2) = some r := by rw [if_pos rfl] at H; exact H
            clear H;have H := H1;clear H1
            have H' := zaa.mk H
            clear H;go_wp2
            go_roundg kj32
            case measure => have := HK1.out; have := HJ15.out; have := HJ32.out; omega
            case rel => exact ⟨(x7_15), (y246), H', ⟨by have := HK1.out; have := HJ15.out; have := HJ32.out; omega⟩, ⟨Yr HO_5⟩, ⟨Yr HO_6⟩, ⟨by (with_reducible repeat (first | apply Kd.R_alloc | apply Kd.zby | apply Kd.zbm)); exact Kd.za7 HO_7.out (fun _ hk => hk.1)⟩, ⟨by (with_reducible repeat (first | apply Kd.Q_alloc | apply Kd.Q_drewN | apply Kd.zcb)); exact Kd.zeg HO_8.out (fun _ hk => hk.1)⟩, ⟨Yg BK234⟩, ⟨Yb_PItemAllx9_1⟩⟩
           ·replace c45 := Bool.eq_false_iff.mpr c45
            subst c45
            have H1 : ((zbr.f l0_0 l0_1 l0_2 ((zae x8_1 0).f0)).bind fun t255 => (if 0 ≤ (wrap64 (((zae x8_1 0).f1) + 1)) then (if (wrap64 (((zae x8_1 0).f1) + 1)) ≤ (t255.length : Int) then (zab.l1 kj32 t235 t238 x7_15 y246 t253 ([] : List Int) (t255.drop ((wrap64 (((zae x8_1 0).f1) + 1)) : Int).toNat) true 0 l0_0 l0_1 l0_2 ((zae x8_1 0).f0) ((zae x8_1 0).f1) ((zae x8_1 0).f2)) else (none)) else (none))) = some r := by rw [if_neg (show ¬ (false = true) by decide)] at H; exact H
            clear H;have H := H1;clear H1;replace H := Option.bind_eq_some_iff.mp H
            obtain ⟨t255, A460, H⟩ := H
            replace H : (if 0 ≤ (wrap64 (((zae x8_1 0).f1) + 1)) then (if (wrap64 (((zae x8_1 0).f1) + 1)) ≤ (t255.length : Int) then (zab.l1 kj32 t235 t238 x7_15 y246 t253 ([] : List Int) (t255.drop ((wrap64 (((zae x8_1 0).f1) + 1)) : Int).toNat) true 0 l0_0 l0_1 l0_2 ((zae x8_1 0).f0) ((zae x8_1 0).f1) ((zae x8_1 0).f2)) else (none)) else (none)) = some r := H
            have A46 := zaa.mk A460;clear A460
            obtain ⟨ji47, hji47⟩ : ∃ j_ : Int, (wrap64 (((zae x8_1 0).f1) + 1)) = j_ := ⟨_, rfl⟩
            replace H : (if 0 ≤ (ji47) then (if (ji47) ≤ (t255.length : Int) then (zab.l1 kj32 t235 t238 x7_15 y246 t253 ([] : List Int) (t255.drop ((ji47) : Int).toNat) true 0 l0_0 l0_1 l0_2 ((zae x8_1 0).f0) ((zae x8_1 0).f1) ((zae x8_1 0).f2)) else (none)) else (none)) = some r := by first | (rw [hji47] at H; exact H) | (simp only [hji47] at H ⊢; exact H)
            (try rw [hji47] at A46)
            have hji47w : (IntKind.i64.wrap (((zae x8_1 0).f1) + 1)) = ji47 := (zd6 _).trans hji47
            by_cases c48 : 0 ≤ (ji47)
            ·rw [if_pos c48] at H
             have c48b0 := eq_true c48
             have c48b1 := decide_eq_true c48
             clear c48
             by_cases c49 : (ji47) ≤ (t255.length : Int)
             ·rw [if_pos c49] at H
              have c49b0 := eq_true c49
              have c49b1 := decide_eq_true c49
              clear c49
              obtain ⟨y258, hy258⟩ : ∃ y_ : List (S44), y_ = (t255.drop ((ji47) : Int).toNat) := ⟨_, rfl⟩
              replace H : (zab.l1 kj32 t235 t238 x7_15 y246 t253 ([] : List Int) y258 true 0 l0_0 l0_1 l0_2 ((zae x8_1 0).f0) ((zae x8_1 0).f1) ((zae x8_1 0).f2)) = some r := by first | (rw [hy258]; with_reducible exact H) | (have H2_ := (Option.bind_some _ _).symm.trans H; rw [hy258]; with_reducible exact H2_) | (have H2_ := (Option.bind_some _ _).symm.trans H; with_reducible exact H2_) | with_reducible exact H | (rw [hy258]; exact H) | exact H
              have Ny258 := zaa.mk hy258;clear hy258;have HC50 := zaa.mk H;clear H
              try go_wp2
              replace HO_5 := zaa.mk (Kd.zbm HO_5.out)
              replace HO_6 := zaa.mk (Kd.zbm HO_6.out)
              replace HO_7 := zaa.mk (Kd.zbm HO_7.out)
              replace HO_8 := zaa.mk (Kd.zcb HO_8.out)
              replace BK234 := zaa.mk (zah BK234.out)
              replace BK245 := zaa.mk (zah BK245.out)
              replace HB := zaa.mk (zar HB.out)
              refine zbp (n := 9) (S := fun w' => w'.cell? ⟨gb234, 0, none⟩ = some (.slice A0_0 l0_0.length c0_0) ∧ w'.cell? ⟨gb234, 1, none⟩ = some (.slice A0_1 l0_1.length c0_1) ∧ w'.cell? ⟨gb234, 2, none⟩ = some (.slice A0_2 l0_2.length c0_2) ∧ w'.cell? ⟨gb245, 0, none⟩ = some (.int .i64 ((zae x8_1 0).f0)) ∧ w'.cell? ⟨gb245, 1, none⟩ = some (.int .i64 ((zae x8_1 0).f1)) ∧ w'.cell? ⟨gb245, 2, none⟩ = some (.int .i64 ((zae x8_1 0).f2))) (ds := []) (Ymk 9 0) (by kernel_rfl) rfl rfl ⟨(zac BK234.out 0).trans rfl, (zac BK234.out 1).trans rfl, (zac BK234.out 2).trans rfl, (zac BK245.out 0).trans rfl, (zac BK245.out 1).trans rfl, (zac BK245.out 2).trans rfl⟩ (fun hHeld => ?_); refine zbw zab.tab15 zab.bits15 (fun HT_ HW_ => ?_)
              generalize wc.drew = w51 at HO_5 HO_6 HO_7 HO_8 BK234 BK245 HB hHeld ⊢
              refine Ypt 1 65 9 2 HT_ ?_
              refine Ypt 4 68 9 18 HT_ ?_
              refine Ytt 0 64 9 19 HT_ HW_ hHeld ?_
              refine Ytt 2 66 9 23 HT_ HW_ hHeld ?_
              refine Ytt 5 69 9 55 HT_ HW_ hHeld ?_
              refine Ypt 6 70 9 119 HT_ ?_
              refine Yot 3 67 9 127 HT_ (fun K hK => ?_)
              refine Ygs Tryz.func36 #[.agg #[.slice A0_0 l0_0.length c0_0, .slice A0_1 l0_1.length c0_1, .slice A0_2 l0_2.length c0_2], .int .i64 ((zae x8_1 0).f0)] ?_
              with_reducible refine (zbr.calls _ _ l0_0 _ _ l0_1 (fun k_ => k_ < w.heap.size) _ _ l0_2 ((zae x8_1 0).f0) t255 _ (Kd.zak HR0_0.out Ybe) HC0_0.out (Kd.zak HR0_1.out Ybe) HC0_1.out ?side5 A46.out).mono ?_
              (case side5 => exact Kd.V_mk HC0_2.out (Kd.zei (Kd.C_F zd4 HR0_2.out) Yb_PItemAllx9_1))
              rintro e w52 ⟨v256, rfl, ho0, hb⟩
              refine ⟨_, rfl, ?_⟩
              have HO257 := zaa.mk (Kd.zeo (Kd.zc7 (ok' := fun k_ => some k_ ≠ (v236 : Value).ownBlock ∧ some k_ ≠ (v239 : Value).ownBlock ∧ some k_ ≠ (u7 : Value).ownBlock ∧ some k_ ≠ (.slice A22 y246.length c22 : Value).ownBlock ∧ k_ ≠ gb234 ∧ k_ ≠ gb245) ho0 (fun k_ hk_ => ⟨Or.elim hk_ (fun hs_ => fun e_ => Nat.not_le.2 hs_ (Kd.zdz HO_5.out k_ e_.symm)) (fun hn_ => (Kd.fresh' (Kd.R_lt (Yr HO_5)) k_ hn_)), Or.elim hk_ (fun hs_ => fun e_ => Nat.not_le.2 hs_ (Kd.zdz HO_6.out k_ e_.symm)) (fun hn_ => (Kd.fresh' (Kd.R_lt (Yr HO_6)) k_ hn_)), Or.elim hk_ (fun hs_ => fun e_ => Nat.not_le.2 hs_ (Kd.zdz HO_7.out k_ e_.symm)) (fun hn_ => (Kd.fresh' (Kd.R_lt (Yr HO_7)) k_ hn_)), Or.elim hk_ (fun hs_ => fun e_ => Nat.not_le.2 hs_ (Kd.Q_base HO_8.out k_ e_.symm)) (fun hn_ => (Kd.fresh' (Kd.Q_lt (by (with_reducible repeat (first | apply Kd.Q_alloc | apply Kd.Q_drewN | apply Kd.zcb)); exact HO_8.out)) k_ hn_)), Or.elim hk_ (fun hs_ => fun e_ => Nat.not_le.2 hs_ (by rw [e_]; exact GW234.out)) (fun hn_ => (Kd.zb4 (g := gb234) (o := .cells #[.slice A0_0 l0_0.length c0_0, .slice A0_1 l0_1.length c0_1, .slice A0_2 l0_2.length c0_2] 25 (0, 0)) (Yg BK234) k_ hn_)), Or.elim hk_ (fun hs_ => fun e_ => Nat.not_le.2 hs_ (by rw [e_]; exact GW245.out)) (fun hn_ => (Kd.zb4 (g := gb245) (o := .cells #[.int .i64 ((zae x8_1 0).f0), .int .i64 ((zae x8_1 0).f1), .int .i64 ((zae x8_1 0).f2)] 50 (0, 0)) (Yg BK245) k_ hn_))⟩)) (za0 Yb_PItemAllx9_1))
              replace HO_5 := zaa.mk (Kd.zbg (Yr HO_5) hb)
              replace HO_6 := zaa.mk (Kd.zbg (Yr HO_6) hb)
              replace HO_7 := zaa.mk (Kd.zbg (Yr HO_7) hb)
              replace HO_8 := zaa.mk (Kd.zfc (by (with_reducible repeat (first | apply Kd.Q_alloc | apply Kd.Q_drewN | apply Kd.zcb)); exact HO_8.out) hb)
              replace BK234 := Ykb BK234 hb
              replace BK245 := Ykb BK245 hb
              replace HB := zaa.mk (zay Yb_PItemAllx9_1 hb)
              (try clear hb)
              (try clear hb2)
              (try clear hk)
              (try clear hi)
              (try clear ho0)
              obtain ⟨Ao54, co54, eo54⟩ := Kd.zep HO257.out
              (first | subst eo54 | (injection eo54 with f1_ f2_ f3_; have f4_ := f1_.symm; have f5_ := f3_.symm; clear f1_ f2_ f3_; subst f4_; subst f5_))
              have q53 : ((ji47) : Int) ≤ ((t255.length : Int) : Int) := Yod
              obtain ⟨i053, hi053, _, hsz53, _⟩ := info_parts info44
              have hroom53 : t255.length ≤ co54 := (Kd.V_reads' HO257.out).2.1
              have hC53 : Kd.F k44 _ _ Ao54 t255.length t255 := (Kd.V_at (base := w.heap.size) HO257.out).2.2
              have q053 : (0 : Int) ≤ ((ji47) : Int) := Yod
              have hcut53 := zek (P := Tryz.prog) 40 44 .i64 Tryz.underlying40 hi053 3 hsz53 Ao54 t255.length co54 (ji47) q053 q53
              have hr53 := Kd.F_cut (m := ((ji47) : Int).toNat) (c := co54) hC53 (by omega) hroom53
              obtain ⟨A53, hA53⟩ : ∃ A1, A1 = (if co54 = ((ji47) : Int).toNat then Ao54 else (Ao54 : Option Addr).map (·.add (((ji47) : Int).toNat * 3))) := ⟨_, rfl⟩
              obtain ⟨c53, hc53⟩ : ∃ c1, c1 = co54 - ((ji47) : Int).toNat := ⟨_, rfl⟩
              have hy53 : y258.length = t255.length - ((ji47) : Int).toNat := (by rw [Ny258.out, List.length_drop] <;> omega)
              rw [show (t255).drop ((ji47) : Int).toNat = y258 from Ny258.out.symm] at hr53
              replace hr53 : Kd.F k44 _ _ A53 y258.length y258 := (by rw [hA53]; exact hr53)
              rw [← hy53, ← hA53, ← hc53] at hcut53
              have HO262 := zaa.mk (show Kd.V k44 44 _ w.heap.size _ (.slice A53 y258.length c53) y258 from Kd.V_mk (by rw [hy53, hc53]; exact Nat.sub_le_sub_right hroom53 _) hr53)
              have HC262 := zaa.mk (show y258.length ≤ c53 from by rw [hy53, hc53]; exact Nat.sub_le_sub_right hroom53 _)
              clear hr53 hC53 hroom53 hi053 hsz53 hc53;have KY53 := zaa.mk hy53;have KA53 := zaa.mk hA53;clear hy53 hA53
              replace q53 := eq_true q53
              refine hK.out _ _ ⟨(zac BK234.out 0).trans rfl, (zac BK234.out 1).trans rfl, (zac BK234.out 2).trans rfl, (zac BK245.out 0).trans rfl, (zac BK245.out 1).trans rfl, (zac BK245.out 2).trans rfl⟩ (fun hHeld => ?_)
              clear hK K
              refine Ynw 67 ?_
              refine Ypt 7 71 9 255 HT_ ?_
              refine Ypt 8 14 9 511 HT_ ?_
              refine zbs (zcc HT_.out (by kernel_rfl)) ?_
              go_upto_block 2 with (fail)
              go_cut [13, 15] (fun v13 v15 wc => ∃ (kq : Nat) (x13_49 : List Int) (x15_49 : Bool), v15 = .bool x15_49 ∧ zaa (zab.j4 kq t235 t238 x7_15 y246 t253 x13_49 x15_49 l0_0 l0_1 l0_2 ((zae x8_1 0).f0) ((zae x8_1 0).f1) ((zae x8_1 0).f2) = some r) ∧ zaa (kq ≤ kj32) ∧ zaa (Kd.R (Kd.slice 3 (Kd.int .i64)) 35 wc w.heap.size (fun k_ => some k_ ≠ (v13 : Value).ownBlock) v236 t235) ∧ zaa (Kd.R Kd.bool 4 wc w.heap.size (fun _ => True) v239 t238) ∧ zaa (Kd.R k50 50 wc w.heap.size (fun k_ => some k_ ≠ ((.slice A22 y246.length c22) : Value).ownBlock ∧ k_ ≠ gb245) u7 x7_15) ∧ zaa (Kd.Q k50 50 wc w.heap.size (fun k_ => some k_ ≠ (u7 : Value).ownBlock ∧ k_ ≠ gb245) (.slice A22 y246.length c22) y246) ∧ zaa (Kd.R (Kd.int .i64) 3 wc w.heap.size (fun _ => True) v13 x13_49) ∧ zaa (wc.heap[gb234]? = some (.cells #[(.slice A0_0 l0_0.length c0_0), (.slice A0_1 l0_1.length c0_1), (.slice A0_2 l0_2.length c0_2)] 25 (0, 0))) ∧ zaa (wc.heap[gb245]? = some (.cells #[.int .i64 ((zae x8_1 0).f0), .int .i64 ((zae x8_1 0).f1), .int .i64 ((zae x8_1 0).f2)] 50 (0, 0))) ∧ zaa (Below w.heap.size w wc))
              case first =>
               have H := HC50.out;clear HC50
               have H' := zaa.mk H
               clear H;go_wp2
               go_loopg [13, 15, 16] kj32 (fun kq v13 v15 v16 w' => ∃ (x13_4 : List Int) (x15_4 : Bool) (x16_4 : Int), v15 = .bool x15_4 ∧ v16 = .int .i64 x16_4 ∧ zaa (zab.l1 kq t235 t238 x7_15 y246 t253 x13_4 y258 x15_4 x16_4 l0_0 l0_1 l0_2 ((zae x8_1 0).f0) ((zae x8_1 0).f1) ((zae x8_1 0).f2) = some r) ∧ zaa (kq ≤ kj32) ∧ zaa (Kd.R (Kd.slice 3 (Kd.int .i64)) 35 w' w.heap.size (fun k_ => some k_ ≠ (v13 : Value).ownBlock) v236 t235) ∧ zaa (Kd.R Kd.bool 4 w' w.heap.size (fun _ => True) v239 t238) ∧ zaa (Kd.R k50 50 w' w.heap.size (fun k_ => some k_ ≠ ((.slice A22 y246.length c22) : Value).ownBlock ∧ k_ ≠ gb245) u7 x7_15) ∧ zaa (Kd.Q k50 50 w' w.heap.size (fun k_ => some k_ ≠ (u7 : Value).ownBlock ∧ k_ ≠ gb245) (.slice A22 y246.length c22) y246) ∧ zaa (Kd.R (Kd.int .i64) 3 w' w.heap.size (fun _ => True) v13 x13_4) ∧ zaa (Kd.V k44 44 w' w.heap.size (fun k_ => some k_ ≠ (v236 : Value).ownBlock ∧ some k_ ≠ (v239 : Value).ownBlock ∧ some k_ ≠ (u7 : Value).ownBlock ∧ some k_ ≠ ((.slice A22 y246.length c22) : Value).ownBlock ∧ some k_ ≠ (v13 : Value).ownBlock ∧ k_ ≠ gb234 ∧ k_ ≠ gb245) (.slice A53 y258.length c53) y258) ∧ zaa (w'.heap[gb234]? = some (.cells #[(.slice A0_0 l0_0.length c0_0), (.slice A0_1 l0_1.length c0_1), (.slice A0_2 l0_2.length c0_2)] 25 (0, 0))) ∧ zaa (w'.heap[gb245]? = some (.cells #[.int .i64 ((zae x8_1 0).f0), .int .i64 ((zae x8_1 0).f1), .int .i64 ((zae x8_1 0).f2)] 50 (0, 0))) ∧ zaa (Below w.heap.size w w'))
               case atStart => exact ⟨(([] : List Int)), (true), (0), Yfs, Yfs, H', ⟨Nat.le_refl _⟩, ⟨by (with_reducible repeat (first | apply Kd.R_alloc | apply Kd.zby | apply Kd.zbm)); exact Kd.za7 HO_5.out (fun _ hk => (by simp [Value.ownBlock]))⟩, ⟨Yr HO_6⟩, ⟨Yr HO_7⟩, ⟨by (with_reducible repeat (first | apply Kd.Q_alloc | apply Kd.Q_drewN | apply Kd.zcb)); exact HO_8.out⟩, ⟨by first | exact Kd.zdi _ _ _ _ _ | exact Kd.N_nil _ _ _ _ _ | exact Kd.V_nil _ _ _ _ _ | exact Kd.Q_nil _ _ _ _ _ | exact Kd.S_nil _ _ _ _ _⟩, ⟨by (with_reducible repeat (first | apply Kd.V_alloc | apply Kd.V_drewN | apply Kd.V_drew)); exact Kd.zc7 HO262.out (fun _ hk => ⟨hk.1, ⟨hk.2.1, ⟨hk.2.2.1, ⟨hk.2.2.2.1, ⟨(by simp [Value.ownBlock]), ⟨hk.2.2.2.2.1, hk.2.2.2.2.2⟩⟩⟩⟩⟩⟩)⟩, ⟨Yg BK234⟩, ⟨Yg BK245⟩, ⟨Yb_PItemAllx9_1⟩⟩
               case round =>
                clear H'
                obtain ⟨x13_4, x15_4, x16_4, rfl, rfl, HA, HK4, HO_5, HO_6, HO_7, HO_8, HO_13, HO_14, BK234, BK245, HB⟩ := hrel
                cases gk with
                | zero => exact absurd HA.out (by simp [zab.l1])
                | succ k4 =>
                 have H := HA.out;clear HA
                 simp only [zab.l1] at H
                 by_cases c55 : x16_4 < (y258.length : Int)
                 ·rw [if_pos c55] at H
                  have c55b0 := decide_eq_true c55
                  clear c55
                  (first | rw [c55b0] | (simp only [zd6, zej]; rw [c55b0]) | skip)
                  by_cases c56 : x15_4 = true
                  ·subst c56
                   have H1 : (if 0 ≤ x16_4 then (if 0 ≤ ((za6 y258 x16_4).f0) then (if ((za6 y258 x16_4).f0) < (t235.length : Int) then ((zbe.f k4 x13_4 (zfo t235 ((za6 y258 x16_4).f0))).bind fun t265 => (if ((za6 y258 x16_4).f0) < (t238.length : Int) then (zab.l1 k4 t235 t238 x7_15 y246 t253 t265 y258 (rdOf false t238 ((za6 y258 x16_4).f0)) (wrap64 (x16_4 + 1)) l0_0 l0_1 l0_2 ((zae x8_1 0).f0) ((zae x8_1 0).f1) ((zae x8_1 0).f2)) else (none))) else (none)) else (none)) else (none)) = some r := by rw [if_pos rfl] at H; exact H
                   clear H;have H := H1;clear H1
                   by_cases c57 : 0 ≤ x16_4
                   ·rw [if_pos c57] at H
                    have c57b0 := decide_eq_true c57
                    clear c57
                    by_cases c58 : 0 ≤ ((za6 y258 x16_4).f0)
                    ·rw [if_pos c58] at H
                     have c58b0 := decide_eq_true c58
                     clear c58
                     by_cases c59 : ((za6 y258 x16_4).f0) < (t235.length : Int)
                     ·rw [if_pos c59] at H
                      have c59b0 := decide_eq_true c59
                      clear c59;replace H := Option.bind_eq_some_iff.mp H
                      obtain ⟨t265, A600, H⟩ := H
                      replace H : (if ((za6 y258 x16_4).f0) < (t238.length : Int) then (zab.l1 k4 t235 t238 x7_15 y246 t253 t265 y258 (rdOf false t238 ((za6 y258 x16_4).f0)) (wrap64 (x16_4 + 1)) l0_0 l0_1 l0_2 ((zae x8_1 0).f0) ((zae x8_1 0).f1) ((zae x8_1 0).f2)) else (none)) = some r := H
                      have A60 := zaa.mk A600;clear A600
                      by_cases c61 : ((za6 y258 x16_4).f0) < (t238.length : Int)
                      ·rw [if_pos c61] at H
                       have c61b0 := decide_eq_true c61
                       clear c61
                       have H' := zaa.mk H
                       clear H
                       have p263 : 0 ≤ (x16_4 : Int) := Yod
                       have q263 : x16_4 < (y258.length : Int) := Yod
                       obtain ⟨ad263, e263, hx263_0, hx263_1, hx263_2⟩ := zet (Kd.V_reads' HO_14.out).2.2 x16_4 p263 q263
                       cases e263
                       replace p263 := eq_true p263
                       replace q263 := eq_true q263
                       obtain ⟨Ao62, co62, eo62⟩ := Kd.zbn HO_5.out
                       subst eo62
                       have p264 : 0 ≤ (((za6 y258 x16_4).f0) : Int) := Yod
                       have q264 : ((za6 y258 x16_4).f0) < (t235.length : Int) := Yod
                       obtain ⟨ad264, A264_0, c264_0, e264, hx264_0, hl264_0, hi264_0⟩ := at_L8 (Kd.R_reads' HO_5.out).2.2 ((za6 y258 x16_4).f0) p264 q264
                       cases e264
                       obtain ⟨ce264, hce264, hMe264, hcc264⟩ := Kd.R_get HO_5.out [] ((za6 y258 x16_4).f0) p264 (by first | exact q264 | exact of_decide_eq_true (by first | (with_reducible assumption) | assumption) | (have e_ := (Kd.R_reads' HO_5.out).1; omega))
                       obtain ⟨ve264_0, rfl, ge264_0⟩ := hMe264
                       have hv264_0 := hcc264 0 _ rfl
                       rw [Nat.add_zero, show ((Kd.slice 3 (Kd.int .i64))).sz = 1 from rfl, Nat.mul_one] at hv264_0
                       replace hv264_0 := Option.some.inj (hv264_0.symm.trans hx264_0)
                       rw [hv264_0] at ge264_0
                       have HL264_0 := zaa.mk (show Kd.R (Kd.int .i64) 3 _ _ _ _ (zfo t235 ((za6 y258 x16_4).f0)) from ge264_0)
                       clear hv264_0 ge264_0;clear hcc264 hce264;have HR264_0 := zaa.mk hi264_0;have HC264_0 := zaa.mk hl264_0;clear hi264_0 hl264_0
                       replace p264 := eq_true p264
                       replace q264 := eq_true q264
                       obtain ⟨Ao63, co63, eo63⟩ := Kd.zbn HO_13.out
                       subst eo63
                       go_wp2_with (first | ((with_reducible refine zbd (f := 41) rfl ?_); refine Ygl (some 90) Tryz.func41 #[.slice Ao63 x13_4.length co63, .slice A264_0 (zfo t235 ((za6 y258 x16_4).f0)).length c264_0] ?_; (with_reducible refine (zbe.calls k4 (fun k_ => some k_ = (.slice Ao63 x13_4.length co63 : Value).ownBlock) (.slice Ao63 x13_4.length co63) x13_4 _ _ (zfo t235 ((za6 y258 x16_4).f0)) t265 w _ ?side1 ?side2 ?side3 HC264_0.out A60.out).mono ?_); (case side1 => repeat (first | (with_reducible first | exact HB.out | apply za5 | apply zau | apply zar | refine za9 ?_ GE234.out | refine za9 ?_ GE245.out) | exact HB.out)); (case side2 => exact Kd.zgc rfl HO_13.out); (case side3 => exact Kd.zjt (HL264_0.out) (fun k_ hk_ hs_ => (hk_.1) hs_)); rintro e w64 ⟨v266, rfl, ho0, hb, hkp⟩; refine ⟨_, rfl, ?_⟩; replace HO_5 := zaa.mk (Kd.za7 (ok' := fun k_ => some k_ ≠ (v266 : Value).ownBlock) (Kd.zen (HO_5.out) hkp (fun k_ hk_ hs_ => (hk_) hs_)) (fun k_ hk_ => fun e_ => Or.elim (ho0.1 k_ e_.symm) (fun hs_ => hk_.2.1 hs_) (fun hn_ => Nat.not_le.2 hk_.2.2 hn_))); replace HO_6 := zaa.mk (Kd.za7 (ok' := fun k_ => True) (Kd.zen ((Kd.R_apart' HO_6.out (Kd.zdk HO_13.out) (by decide))) hkp (fun k_ hk_ hs_ => (hk_.2) hs_)) (fun k_ hk_ => trivial)); replace HO_7 := zaa.mk (Kd.za7 (ok' := fun k_ => some k_ ≠ (.slice A22 y246.length c22 : Value).ownBlock ∧ k_ ≠ gb245) (Kd.zen ((Kd.R_apart' HO_7.out (Kd.zdk HO_13.out) (by decide))) hkp (fun k_ hk_ hs_ => (hk_.2) hs_)) (fun k_ hk_ => ⟨hk_.1.1.1, hk_.1.1.2⟩)); replace HO_8 := zaa.mk (Kd.zeg (ok' := fun k_ => some k_ ≠ (u7 : Value).ownBlock ∧ k_ ≠ gb245) (Kd.Q_keptB ((Kd.Q_apart' HO_8.out (Kd.zdk HO_13.out) (by decide))) hkp (fun k_ hk_ hs_ => (hk_.2) hs_)) (fun k_ hk_ => ⟨hk_.1.1.1, hk_.1.1.2⟩)); replace HO_14 := zaa.mk (Kd.zc7 (ok' := fun k_ => some k_ ≠ (.slice (some ad264) t235.length co62 : Value).ownBlock ∧ some k_ ≠ (v239 : Value).ownBlock ∧ some k_ ≠ (u7 : Value).ownBlock ∧ some k_ ≠ (.slice A22 y246.length c22 : Value).ownBlock ∧ k_ ≠ gb234 ∧ k_ ≠ gb245 ∧ some k_ ≠ (v266 : Value).ownBlock) (Kd.V_keptB (HO_14.out) hkp (fun k_ hk_ hs_ => (hk_.2.2.2.2.1) hs_)) (fun k_ hk_ => ⟨hk_.1.1, hk_.1.2.1, hk_.1.2.2.1, hk_.1.2.2.2.1, hk_.1.2.2.2.2.2.1, hk_.1.2.2.2.2.2.2, fun e_ => Or.elim (ho0.1 k_ e_.symm) (fun hs_ => hk_.2.1 hs_) (fun hn_ => Nat.not_le.2 hk_.2.2 hn_)⟩)); replace BK234 := zaa.mk (zfe (Yg BK234) hkp (fun hs_ => (fun e_ => (Kd.R_ne HO_13.out BK234.out (by decide)) e_) hs_)); replace BK245 := zaa.mk (zfe (Yg BK245) hkp (fun hs_ => (fun e_ => (Kd.R_ne HO_13.out BK245.out (by decide)) e_) hs_)); have HO267 := zaa.mk (Kd.za7 (ok' := fun k_ => True) ho0 (fun k_ hk_ => trivial)); replace HB := zaa.mk (hb); clear HO_13 HL264_0; (try clear hb); (try clear hkp); (try clear ho0); have p268 : 0 ≤ (x16_4 : Int) := Yod; have q268 : x16_4 < (y258.length : Int) := Yod; obtain ⟨ad268, e268, hx268_0, hx268_1, hx268_2⟩ := zet (Kd.V_reads' HO_14.out).2.2 x16_4 p268 q268; obtain rfl : ad263 = ad268 := (by injection e268); replace p268 := eq_true p268; replace q268 := eq_true q268; obtain ⟨Ao65, co65, eo65⟩ := Kd.zbn HO_6.out; subst eo65; have p269 : 0 ≤ (((za6 y258 x16_4).f0) : Int) := Yod; have q269 : ((za6 y258 x16_4).f0) < (t238.length : Int) := Yod; obtain ⟨ad269, e269, hx269_0⟩ := Kd.zge (Kd.R_reads' HO_6.out).2.2 ((za6 y258 x16_4).f0) p269 q269; cases e269; replace p269 := eq_true p269; replace q269 := eq_true q269))
                       go_roundg k4
                       case measure => have := HK1.out; have := HJ15.out; have := HJ32.out; have := HK4.out; omega
                       case rel => exact ⟨(t265), (rdOf false t238 ((za6 y258 x16_4).f0)), (wrap64 (x16_4 + 1)), Yfs, Yfs, H', ⟨by have := HK1.out; have := HJ15.out; have := HJ32.out; have := HK4.out; omega⟩, ⟨Yr HO_5⟩, ⟨Yr HO_6⟩, ⟨Yr HO_7⟩, ⟨by (with_reducible repeat (first | apply Kd.Q_alloc | apply Kd.Q_drewN | apply Kd.zcb)); exact HO_8.out⟩, ⟨Yr HO267⟩, ⟨by (with_reducible repeat (first | apply Kd.V_alloc | apply Kd.V_drewN | apply Kd.V_drew)); exact Kd.zc7 HO_14.out (fun _ hk => ⟨hk.1, ⟨hk.2.1, ⟨hk.2.2.1, ⟨hk.2.2.2.1, ⟨hk.2.2.2.2.2.2, ⟨hk.2.2.2.2.1, hk.2.2.2.2.2.1⟩⟩⟩⟩⟩⟩)⟩, ⟨Yg BK234⟩, ⟨Yg BK245⟩, ⟨Yb_PItemAllx9_1⟩⟩
                      ·rw [if_neg c61] at H
                       exact absurd H (by simp)
                     ·rw [if_neg c59] at H
                      exact absurd H (by simp)
                    ·rw [if_neg c58] at H
                     exact absurd H (by simp)
                   ·rw [if_neg c57] at H
                    exact absurd H (by simp)
                  ·replace c56 := Bool.eq_false_iff.mpr c56
                   subst c56
                   have H1 : (zab.j4 k4 t235 t238 x7_15 y246 t253 x13_4 false l0_0 l0_1 l0_2 ((zae x8_1 0).f0) ((zae x8_1 0).f1) ((zae x8_1 0).f2)) = some r := by rw [if_neg (show ¬ (false = true) by decide)] at H; exact H
                   clear H;have H := H1;clear H1
                   have H' := zaa.mk H
                   clear H;go_wp2
                   go_meet
                   case rel => exact ⟨_, (x13_4), (false), Yfs, H', ⟨by have := HK1.out; have := HJ15.out; have := HJ32.out; have := HK4.out; first | omega | exact Nat.le_refl _⟩, ⟨Yr HO_5⟩, ⟨Yr HO_6⟩, ⟨Yr HO_7⟩, ⟨by (with_reducible repeat (first | apply Kd.Q_alloc | apply Kd.Q_drewN | apply Kd.zcb)); exact HO_8.out⟩, ⟨Yr HO_13⟩, ⟨Yg BK234⟩, ⟨Yg BK245⟩, ⟨Yb_PItemAllx9_1⟩⟩
                 ·rw [if_neg c55] at H
                  have c55b0 := decide_eq_false c55
                  clear c55
                  (first | rw [c55b0] | (simp only [zd6, zej]; rw [c55b0]) | skip)
                  have H' := zaa.mk H
                  clear H;go_wp2
                  go_meet
                  case rel => exact ⟨_, (x13_4), (x15_4), Yfs, H', ⟨by have := HK1.out; have := HJ15.out; have := HJ32.out; have := HK4.out; first | omega | exact Nat.le_refl _⟩, ⟨Yr HO_5⟩, ⟨Yr HO_6⟩, ⟨Yr HO_7⟩, ⟨by (with_reducible repeat (first | apply Kd.Q_alloc | apply Kd.Q_drewN | apply Kd.zcb)); exact HO_8.out⟩, ⟨Yr HO_13⟩, ⟨Yg BK234⟩, ⟨Yg BK245⟩, ⟨Yb_PItemAllx9_1⟩⟩
              case rest =>
               clear HC50
               obtain ⟨kq, x13_49, x15_49, rfl, HA, HJ49, HO_5, HO_6, HO_7, HO_8, HO_13, BK234, BK245, HB⟩ := hcut
               cases kq with
               | zero => exact absurd HA.out (by simp [zab.j4])
               | succ kj49 =>
                have H := HA.out;clear HA
                simp only [zab.j4] at H
                have HC66 := zaa.mk H;clear H
                go_upto_if 99 with (fail)
                go_cut [13] (fun v13 wc => ∃ (kq : Nat) (x13_65 : List Int), zaa (zab.j5 kq t235 t238 x7_15 y246 t253 x13_65 l0_0 l0_1 l0_2 = some r) ∧ zaa (kq ≤ kj49) ∧ zaa (Kd.R (Kd.slice 3 (Kd.int .i64)) 35 wc w.heap.size (fun k_ => some k_ ≠ (v13 : Value).ownBlock) v236 t235) ∧ zaa (Kd.R Kd.bool 4 wc w.heap.size (fun _ => True) v239 t238) ∧ zaa (Kd.R k50 50 wc w.heap.size (fun k_ => some k_ ≠ ((.slice A22 y246.length c22) : Value).ownBlock ∧ k_ ≠ gb245) u7 x7_15) ∧ zaa (Kd.Q k50 50 wc w.heap.size (fun k_ => some k_ ≠ (u7 : Value).ownBlock ∧ k_ ≠ gb245) (.slice A22 y246.length c22) y246) ∧ zaa (Kd.R (Kd.int .i64) 3 wc w.heap.size (fun _ => True) v13 x13_65) ∧ zaa (wc.heap[gb234]? = some (.cells #[(.slice A0_0 l0_0.length c0_0), (.slice A0_1 l0_1.length c0_1), (.slice A0_2 l0_2.length c0_2)] 25 (0, 0))) ∧ zaa (wc.heap[gb245]? = some (.cells #[.int .i64 ((zae x8_1 0).f0), .int .i64 ((zae x8_1 0).f1), .int .i64 ((zae x8_1 0).f2)] 50 (0, 0))) ∧ zaa (Below w.heap.size w wc))
                case first =>
                 have H := HC66.out;clear HC66
                 by_cases c67 : x15_49 = true
                 ·subst c67
                  have H1 : ((zbe.f kj49 x13_49 (([((zae x8_1 0).f2)] : List Int))).bind fun t273 => (zab.j5 kj49 t235 t238 x7_15 y246 t253 t273 l0_0 l0_1 l0_2)) = some r := by rw [if_pos rfl] at H; exact H
                  clear H;have H := H1;clear H1
                  obtain ⟨y270, hy270⟩ : ∃ y_ : List Int, y_ = (([((zae x8_1 0).f2)] : List Int)) := ⟨_, rfl⟩
                  replace H : ((zbe.f kj49 x13_49 y270).bind fun t273 => (zab.j5 kj49 t235 t238 x7_15 y246 t253 t273 l0_0 l0_1 l0_2)) = some r := by first | (rw [hy270]; with_reducible exact H) | (have H2_ := (Option.bind_some _ _).symm.trans H; rw [hy270]; with_reducible exact H2_) | (have H2_ := (Option.bind_some _ _).symm.trans H; with_reducible exact H2_) | with_reducible exact H | (rw [hy270]; exact H) | exact H
                  have Ny270 := zaa.mk hy270;clear hy270;replace H := Option.bind_eq_some_iff.mp H
                  obtain ⟨t273, A680, H⟩ := H
                  replace H : (zab.j5 kj49 t235 t238 x7_15 y246 t253 t273 l0_0 l0_1 l0_2) = some r := H
                  have A68 := zaa.mk A680;clear A680
                  have H' := zaa.mk H
                  clear H
                  have hnb69 := NB245_234.out
                  have hnc69 := NB234_245.out
                  obtain ⟨hcz70_0, hfz70_0, hcz70_1, hfz70_1, hcz70_2, hfz70_2⟩ := Yc3 BK245.out
                  go_wp2_with (first | ((with_reducible refine zat (N := 103) rfl ?_); (try (refine zaz (by rfl) ?_; dsimp only)); refine Kd.R_lit (Kd.int .i64) _ 3 ?hg (N := 103) ?hd (xs := ([((zae x8_1 0).f2)] : List Int)) (inner := [.int .i64 ((zae x8_1 0).f2)]) (ok := fun _ => True) (okp := fun _ => True) ?hr ?hp (fun _ hk => hk) trivial (Below.refl _ _) (Nat.le_refl _) (by simp) ?_; (case hd => rfl); (case hg => rfl); (case hr => first | (go_simp; done) | (go_simp; rfl)); (case hp => exact (Reps.one (show Kd.M (Kd.int .i64) _ _ _ ((zae x8_1 0).f2) [.int .i64 ((zae x8_1 0).f2)] from rfl) (Reps.none _ _))); intro v271 w71 ho72 hb hg_ hnew_; clear hg_ hnew_; (first | rw [← Ny270.out] at ho72 | (simp only [Int.reduceToNat] at ho72; rw [← Ny270.out] at ho72)); replace HO_5 := zaa.mk (Kd.R_elder' (Yr HO_5) (Kd.zdz ho72) hb); replace HO_6 := zaa.mk (Kd.zbg (Yr HO_6) hb); replace HO_7 := zaa.mk (Kd.zbg (Yr HO_7) hb); replace HO_8 := zaa.mk (Kd.zfc (by (with_reducible repeat (first | apply Kd.Q_alloc | apply Kd.Q_drewN | apply Kd.zcb)); exact HO_8.out) hb); have HO272 := zaa.mk (Kd.zb7 (Kd.R_new' ho72 (Kd.R_lt (Yr HO_13))) (za0 Yb_PItemAllx9_1)); replace HO_13 := zaa.mk (Kd.R_elder' (Yr HO_13) (Kd.zdz ho72) hb); replace BK234 := Ykb BK234 hb; replace BK245 := Ykb BK245 hb; replace HB := zaa.mk (zay Yb_PItemAllx9_1 hb); clear hb ho72; obtain ⟨Ao73, co73, eo73⟩ := Kd.zbn HO_13.out; subst eo73; obtain ⟨Ao74, co74, eo74⟩ := Kd.zbn HO272.out; subst eo74) | ((with_reducible refine zbd (f := 41) rfl ?_); refine Ygl (some 104) Tryz.func41 #[.slice Ao73 x13_49.length co73, .slice Ao74 y270.length co74] ?_; (with_reducible refine (zbe.calls kj49 (fun k_ => some k_ = (.slice Ao73 x13_49.length co73 : Value).ownBlock) (.slice Ao73 x13_49.length co73) x13_49 _ _ y270 t273 w _ ?side1 ?side2 ?side3 ?side4 A68.out).mono ?_); (case side1 => repeat (first | (with_reducible first | exact HB.out | apply za5 | apply zau | apply zar | refine za9 ?_ GE234.out | refine za9 ?_ GE245.out) | exact HB.out)); (case side2 => exact Kd.zgc rfl HO_13.out); (case side3 => exact Kd.zjt (HO272.out) (fun k_ hk_ hs_ => (hk_.2) hs_)); (case side4 => exact (Kd.R_reads' HO272.out).2.1); rintro e w75 ⟨v274, rfl, ho0, hb, hkp⟩; refine ⟨_, rfl, ?_⟩; replace HO_5 := zaa.mk (Kd.za7 (ok' := fun k_ => some k_ ≠ (.slice Ao74 y270.length co74 : Value).ownBlock ∧ some k_ ≠ (v274 : Value).ownBlock) (Kd.zen (HO_5.out) hkp (fun k_ hk_ hs_ => (hk_.1) hs_)) (fun k_ hk_ => ⟨hk_.1.2, fun e_ => Or.elim (ho0.1 k_ e_.symm) (fun hs_ => hk_.2.1 hs_) (fun hn_ => Nat.not_le.2 hk_.2.2 hn_)⟩)); replace HO_6 := zaa.mk (Kd.za7 (ok' := fun k_ => True) (Kd.zen ((Kd.R_apart' HO_6.out (Kd.zdk HO_13.out) (by decide))) hkp (fun k_ hk_ hs_ => (hk_.2) hs_)) (fun k_ hk_ => trivial)); replace HO_7 := zaa.mk (Kd.za7 (ok' := fun k_ => some k_ ≠ (.slice A22 y246.length c22 : Value).ownBlock ∧ k_ ≠ gb245) (Kd.zen ((Kd.R_apart' HO_7.out (Kd.zdk HO_13.out) (by decide))) hkp (fun k_ hk_ hs_ => (hk_.2) hs_)) (fun k_ hk_ => ⟨hk_.1.1.1, hk_.1.1.2⟩)); replace HO_8 := zaa.mk (Kd.zeg (ok' := fun k_ => some k_ ≠ (u7 : Value).ownBlock ∧ k_ ≠ gb245) (Kd.Q_keptB ((Kd.Q_apart' HO_8.out (Kd.zdk HO_13.out) (by decide))) hkp (fun k_ hk_ hs_ => (hk_.2) hs_)) (fun k_ hk_ => ⟨hk_.1.1.1, hk_.1.1.2⟩)); replace BK234 := zaa.mk (zfe (Yg BK234) hkp (fun hs_ => (fun e_ => (Kd.R_ne HO_13.out BK234.out (by decide)) e_) hs_)); replace BK245 := zaa.mk (zfe (Yg BK245) hkp (fun hs_ => (fun e_ => (Kd.R_ne HO_13.out BK245.out (by decide)) e_) hs_)); have HO275 := zaa.mk (Kd.za7 (ok' := fun k_ => some k_ ≠ (.slice Ao74 y270.length co74 : Value).ownBlock) ho0 (fun k_ hk_ => Or.elim hk_ (fun hs_ => fun e_ => (((HO272.out).1 k_ e_.symm).2) hs_) (fun hn_ => (Kd.fresh' (Kd.R_lt (Yr HO272)) k_ hn_)))); replace HO272 := zaa.mk (Kd.za7 (ok' := fun k_ => some k_ ≠ (v274 : Value).ownBlock) (Kd.zen (HO272.out) hkp (fun k_ hk_ hs_ => (hk_.2) hs_)) (fun k_ hk_ => fun e_ => Or.elim (ho0.1 k_ e_.symm) (fun hs_ => hk_.2.1 hs_) (fun hn_ => Nat.not_le.2 hk_.2.2 hn_))); replace HB := zaa.mk (hb); clear HO_13; (try clear hb); (try clear hkp); (try clear ho0)))
                  go_meet
                  case rel => exact ⟨_, (t273), H', ⟨by have := HK1.out; have := HJ15.out; have := HJ32.out; have := HJ49.out; first | omega | exact Nat.le_refl _⟩, ⟨by (with_reducible repeat (first | apply Kd.R_alloc | apply Kd.zby | apply Kd.zbm)); exact Kd.za7 HO_5.out (fun _ hk => hk.2)⟩, ⟨Yr HO_6⟩, ⟨Yr HO_7⟩, ⟨by (with_reducible repeat (first | apply Kd.Q_alloc | apply Kd.Q_drewN | apply Kd.zcb)); exact HO_8.out⟩, ⟨by (with_reducible repeat (first | apply Kd.R_alloc | apply Kd.zby | apply Kd.zbm)); exact Kd.za7 HO275.out (fun _ hk => trivial)⟩, ⟨Yg BK234⟩, ⟨Yg BK245⟩, ⟨Yb_PItemAllx9_1⟩⟩
                 ·replace c67 := Bool.eq_false_iff.mpr c67
                  subst c67
                  have H1 : (zab.j5 kj49 t235 t238 x7_15 y246 t253 x13_49 l0_0 l0_1 l0_2) = some r := by rw [if_neg (show ¬ (false = true) by decide)] at H; exact H
                  clear H;have H := H1;clear H1
                  have H' := zaa.mk H
                  clear H;go_wp2
                  go_meet
                  case rel => exact ⟨_, (x13_49), H', ⟨by have := HK1.out; have := HJ15.out; have := HJ32.out; have := HJ49.out; first | omega | exact Nat.le_refl _⟩, ⟨Yr HO_5⟩, ⟨Yr HO_6⟩, ⟨Yr HO_7⟩, ⟨by (with_reducible repeat (first | apply Kd.Q_alloc | apply Kd.Q_drewN | apply Kd.zcb)); exact HO_8.out⟩, ⟨Yr HO_13⟩, ⟨Yg BK234⟩, ⟨Yg BK245⟩, ⟨Yb_PItemAllx9_1⟩⟩
                case rest =>
                 clear HC66
                 obtain ⟨kq, x13_65, HA, HJ65, HO_5, HO_6, HO_7, HO_8, HO_13, BK234, BK245, HB⟩ := hcut
                 cases kq with
                 | zero => exact absurd HA.out (by simp [zab.j5])
                 | succ kj65 =>
                  have H := HA.out;clear HA
                  simp only [zab.j5] at H
                  replace H := Option.bind_eq_some_iff.mp H
                  obtain ⟨t276, A760, H⟩ := H
                  replace H : (zab.l2 kj65 t235 t238 x7_15 y246 x13_65 t276 0 l0_0 l0_1 l0_2) = some r := H
                  have A76 := zaa.mk A760;clear A760
                  have H' := zaa.mk H
                  clear H
                  have hnb77 := NB234_245.out
                  have hnc77 := NB245_234.out
                  obtain ⟨hcz78_0, hfz78_0, hcz78_1, hfz78_1, hcz78_2, hfz78_2⟩ := Yc3 BK234.out
                  go_wp2_with (first | ((with_reducible refine zbd (f := 12) rfl ?_); refine Ygl (some 107) Tryz.func12 #[.agg #[.slice A0_0 l0_0.length c0_0, .slice A0_1 l0_1.length c0_1, .slice A0_2 l0_2.length c0_2], .int .i64 t253] ?_; (with_reducible refine (zbu.calls kj65 _ _ l0_0 _ _ l0_1 _ _ l0_2 t253 t276 _ (Kd.zak HR0_0.out Ybe) HC0_0.out (Kd.zak HR0_1.out Ybe) HC0_1.out (Kd.zak HR0_2.out Ybe) HC0_2.out A76.out).mono ?_); rintro e w79 ⟨v277, rfl, ho0, hb⟩; refine ⟨_, rfl, ?_⟩; replace HO_5 := zaa.mk (Kd.R_elder' (Yr HO_5) (Kd.zdz ho0) hb); replace HO_6 := zaa.mk (Kd.zbg (Yr HO_6) hb); replace HO_7 := zaa.mk (Kd.zbg (Yr HO_7) hb); replace HO_8 := zaa.mk (Kd.zfc (by (with_reducible repeat (first | apply Kd.Q_alloc | apply Kd.Q_drewN | apply Kd.zcb)); exact HO_8.out) hb); have HO278 := zaa.mk (Kd.zb7 (Kd.R_new' ho0 (Kd.R_lt (Yr HO_13))) (za0 Yb_PItemAllx9_1)); replace HO_13 := zaa.mk (Kd.R_elder' (Yr HO_13) (Kd.zdz ho0) hb); replace BK234 := Ykb BK234 hb; replace BK245 := Ykb BK245 hb; replace HB := zaa.mk (zay Yb_PItemAllx9_1 hb); (try clear hb); (try clear hb2); (try clear hk); (try clear hi); (try clear ho0)))
                  go_loopg [8, 18] kj65 (fun kq v8 v18 w' => ∃ (x8_6 : List (S50)) (x18_6 : Int), v18 = .int .i64 x18_6 ∧ zaa (zab.l2 kq t235 t238 x7_15 x8_6 x13_65 t276 x18_6 l0_0 l0_1 l0_2 = some r) ∧ zaa (kq ≤ kj65) ∧ zaa (Kd.R (Kd.slice 3 (Kd.int .i64)) 35 w' w.heap.size (fun k_ => some k_ ≠ (u13 : Value).ownBlock ∧ some k_ ≠ (v277 : Value).ownBlock) v236 t235) ∧ zaa (Kd.R Kd.bool 4 w' w.heap.size (fun _ => True) v239 t238) ∧ zaa (Kd.R k50 50 w' w.heap.size (fun k_ => some k_ ≠ (v8 : Value).ownBlock ∧ k_ ≠ gb245) u7 x7_15) ∧ zaa (Kd.Q k50 50 w' w.heap.size (fun k_ => some k_ ≠ (u7 : Value).ownBlock ∧ k_ ≠ gb245) v8 x8_6) ∧ zaa (Kd.R (Kd.int .i64) 3 w' w.heap.size (fun k_ => some k_ ≠ (v277 : Value).ownBlock) u13 x13_65) ∧ zaa (Kd.R (Kd.int .i64) 3 w' w.heap.size (fun k_ => some k_ ≠ (u13 : Value).ownBlock) v277 t276) ∧ zaa (w'.heap[gb234]? = some (.cells #[(.slice A0_0 l0_0.length c0_0), (.slice A0_1 l0_1.length c0_1), (.slice A0_2 l0_2.length c0_2)] 25 (0, 0))) ∧ zaa (w'.heap[gb245]? = some (.cells #[.int .i64 ((zae x8_1 0).f0), .int .i64 ((zae x8_1 0).f1), .int .i64 ((zae x8_1 0).f2)] 50 (0, 0))) ∧ zaa (Below w.heap.size w w'))
                  case atStart => exact ⟨(y246), (0), Yfs, H', ⟨Nat.le_refl _⟩, ⟨Yr HO_5⟩, ⟨Yr HO_6⟩, ⟨Yr HO_7⟩, ⟨by (with_reducible repeat (first | apply Kd.Q_alloc | apply Kd.Q_drewN | apply Kd.zcb)); exact HO_8.out⟩, ⟨by (with_reducible repeat (first | apply Kd.R_alloc | apply Kd.zby | apply Kd.zbm)); exact Kd.za7 HO_13.out (fun _ hk => hk.2)⟩, ⟨by (with_reducible repeat (first | apply Kd.R_alloc | apply Kd.zby | apply Kd.zbm)); exact Kd.za7 HO278.out (fun _ hk => hk.2)⟩, ⟨Yg BK234⟩, ⟨Yg BK245⟩, ⟨Yb_PItemAllx9_1⟩⟩
                  case round =>
                   clear H'
                   obtain ⟨x8_6, x18_6, rfl, HA, HK6, HO_5, HO_6, HO_7, HO_8, HO_13, HO_17, BK234, BK245, HB⟩ := hrel
                   cases gk with
                   | zero => exact absurd HA.out (by simp [zab.l2])
                   | succ k6 =>
                    have H := HA.out;clear HA
                    simp only [zab.l2] at H
                    by_cases c80 : x18_6 < (t276.length : Int)
                    ·rw [if_pos c80] at H
                     have c80b0 := decide_eq_true c80
                     clear c80
                     have H' := zaa.mk H
                     clear H
                     obtain ⟨Ao81, co81, eo81⟩ := Kd.zbn HO_17.out
                     subst eo81;go_wp2
                     go_loopg [8, 19] k6 (fun kq v8 v19 w' => ∃ (x8_7 : List (S50)) (x19_7 : Int), v19 = .int .i64 x19_7 ∧ zaa (zab.l3 kq t235 t238 x7_15 x8_7 x13_65 t276 x18_6 x19_7 l0_0 l0_1 l0_2 = some r) ∧ zaa (kq ≤ k6) ∧ zaa (Kd.R (Kd.slice 3 (Kd.int .i64)) 35 w' w.heap.size (fun k_ => some k_ ≠ (u13 : Value).ownBlock ∧ some k_ ≠ ((.slice Ao81 t276.length co81) : Value).ownBlock) v236 t235) ∧ zaa (Kd.R Kd.bool 4 w' w.heap.size (fun _ => True) v239 t238) ∧ zaa (Kd.R k50 50 w' w.heap.size (fun k_ => some k_ ≠ (v8 : Value).ownBlock ∧ k_ ≠ gb245) u7 x7_15) ∧ zaa (Kd.Q k50 50 w' w.heap.size (fun k_ => some k_ ≠ (u7 : Value).ownBlock ∧ k_ ≠ gb245) v8 x8_7) ∧ zaa (Kd.R (Kd.int .i64) 3 w' w.heap.size (fun k_ => some k_ ≠ ((.slice Ao81 t276.length co81) : Value).ownBlock) u13 x13_65) ∧ zaa (Kd.R (Kd.int .i64) 3 w' w.heap.size (fun k_ => some k_ ≠ (u13 : Value).ownBlock) (.slice Ao81 t276.length co81) t276) ∧ zaa (w'.heap[gb234]? = some (.cells #[(.slice A0_0 l0_0.length c0_0), (.slice A0_1 l0_1.length c0_1), (.slice A0_2 l0_2.length c0_2)] 25 (0, 0))) ∧ zaa (w'.heap[gb245]? = some (.cells #[.int .i64 ((zae x8_1 0).f0), .int .i64 ((zae x8_1 0).f1), .int .i64 ((zae x8_1 0).f2)] 50 (0, 0))) ∧ zaa (Below w.heap.size w w'))
                     case atStart => exact ⟨(x8_6), (0), Yfs, H', ⟨Nat.le_refl _⟩, ⟨Yr HO_5⟩, ⟨Yr HO_6⟩, ⟨Yr HO_7⟩, ⟨by (with_reducible repeat (first | apply Kd.Q_alloc | apply Kd.Q_drewN | apply Kd.zcb)); exact HO_8.out⟩, ⟨Yr HO_13⟩, ⟨Yr HO_17⟩, ⟨Yg BK234⟩, ⟨Yg BK245⟩, ⟨Yb_PItemAllx9_1⟩⟩
                     case round =>
                      clear H'
                      obtain ⟨x8_7, x19_7, rfl, HA, HK7, HO_5, HO_6, HO_7, HO_8, HO_13, HO_17, BK234, BK245, HB⟩ := hrel
                      cases gk with
                      | zero => exact absurd HA.out (by simp [zab.l3])
                      | succ k7 =>
                       have H := HA.out;clear HA
                       simp only [zab.l3] at H
                       by_cases c82 : x19_7 < (x13_65.length : Int)
                       ·rw [if_pos c82] at H
                        have c82b0 := decide_eq_true c82
                        clear c82
                        by_cases c83 : 0 ≤ x18_6
                        ·rw [if_pos c83] at H
                         have c83b0 := decide_eq_true c83
                         clear c83
                         by_cases c84 : x18_6 < (t276.length : Int)
                         ·rw [if_pos c84] at H
                          have c84b0 := decide_eq_true c84
                          clear c84
                          by_cases c85 : 0 ≤ x19_7
                          ·rw [if_pos c85] at H
                           have c85b0 := decide_eq_true c85
                           clear c85
                           by_cases c86 : x8_7.length < 5864062014805
                           ·rw [if_pos c86] at H
                            have LMc86 := zaa.mk c86;clear c86
                            obtain ⟨y281, hy281⟩ : ∃ y_ : List (S50), y_ = (x8_7 ++ [(⟨rd t276 x18_6, 0, rd x13_65 x19_7⟩ : S50)]) := ⟨_, rfl⟩
                            replace H : (zab.l3 k7 t235 t238 x7_15 y281 x13_65 t276 x18_6 (wrap64 (x19_7 + 1)) l0_0 l0_1 l0_2) = some r := by first | (rw [hy281]; with_reducible exact H) | (have H2_ := (Option.bind_some _ _).symm.trans H; rw [hy281]; with_reducible exact H2_) | (have H2_ := (Option.bind_some _ _).symm.trans H; with_reducible exact H2_) | with_reducible exact H | (rw [hy281]; exact H) | exact H
                            have Ny281 := zaa.mk hy281;clear hy281
                            have H' := zaa.mk H
                            clear H
                            obtain ⟨Ao87, co87, eo87⟩ := Kd.zbn HO_13.out
                            subst eo87
                            try go_wp2
                            replace HO_5 := zaa.mk (Kd.zbm HO_5.out)
                            replace HO_6 := zaa.mk (Kd.zbm HO_6.out)
                            replace HO_7 := zaa.mk (Kd.zbm HO_7.out)
                            replace HO_8 := zaa.mk (Kd.zcb HO_8.out)
                            replace HO_13 := zaa.mk (Kd.zbm HO_13.out)
                            replace HO_17 := zaa.mk (Kd.zbm HO_17.out)
                            replace BK234 := zaa.mk (zah BK234.out)
                            replace BK245 := zaa.mk (zah BK245.out)
                            replace HB := zaa.mk (zar HB.out)
                            have p279 : 0 ≤ (x18_6 : Int) := Yod
                            have q279 : x18_6 < (t276.length : Int) := Yod
                            obtain ⟨ad279, e279, hx279_0⟩ := Kd.zeu (Kd.R_reads' HO_17.out).2.2 x18_6 p279 q279
                            cases e279
                            replace p279 := eq_true p279
                            replace q279 := eq_true q279
                            have p280 : 0 ≤ (x19_7 : Int) := Yod
                            have q280 : x19_7 < (x13_65.length : Int) := Yod
                            obtain ⟨ad280, e280, hx280_0⟩ := Kd.zeu (Kd.R_reads' HO_13.out).2.2 x19_7 p280 q280
                            cases e280
                            replace p280 := eq_true p280
                            replace q280 := eq_true q280
                            refine zbp (n := 13) (S := fun w' => w'.cell? (ad279.add (x18_6).toNat) = some (.int .i64 (rd t276 x18_6)) ∧ w'.cell? (ad280.add (x19_7).toNat) = some (.int .i64 (rd x13_65 x19_7))) (ds := [10, 11]) (Ymk 13 0) (by kernel_rfl) rfl rfl ⟨hx279_0, hx280_0⟩ (fun hHeld => ?_); refine zbw zab.tab31 zab.bits31 (fun HT_ HW_ => ?_)
                            generalize wr.drew = w88 at HO_5 HO_6 HO_7 HO_8 HO_13 HO_17 BK234 BK245 HB hx279_0 hx280_0 hHeld ⊢
                            refine Ypt 0 120 13 1 HT_ ?_
                            refine Ypt 1 121 13 3 HT_ ?_
                            refine Ypt 2 122 13 7 HT_ ?_
                            refine Ypt 3 123 13 15 HT_ ?_
                            refine Ypt 5 125 13 47 HT_ ?_
                            refine Ypt 6 126 13 111 HT_ ?_
                            refine Ypt 7 127 13 239 HT_ ?_
                            refine Ytt 4 124 13 255 HT_ HW_ hHeld ?_
                            refine Ytt 8 128 13 511 HT_ HW_ hHeld ?_
                            refine Ypt 9 129 13 1023 HT_ ?_
                            refine Ylt 10 130 13 2047 HT_ (fun K hK => ?_)
                            refine zcp (w1 := ?_) (v := ?_) (by rfl) rfl ?_ ?_
                            rotate_left 2
                            ·go_simp
                             constructor
                             ·rfl
                             ·rfl
                            refine hK.out _ _ ?_
                            clear hK K
                            refine Ynw 130 ?_
                            refine Ylt 11 131 13 4095 HT_ (fun K hK => ?_)
                            refine Kd.zki k50 (w0 := w) w.heap.size (by rfl) (.tmp 120) (.tmp 130) 45 50 (.agg #[(.int .i64 0), (.int .i64 0), (.int .i64 0)]) 24 rfl Tryz.underlying45 zd1 rfl (by decide) (by omega) u8 x8_7 (⟨rd t276 x18_6, 0, rd x13_65 x19_7⟩ : S50) [.int .i64 (rd t276 x18_6), .int .i64 0, .int .i64 (rd x13_65 x19_7)] (fun k_ => some k_ ≠ (u7 : Value).ownBlock ∧ k_ ≠ gb245) (fun _ => False) rfl rfl ?aP (fun _ hk => hk.elim) ?aF ?aO ?aB ?aS ?aL ?_
                            (case aP => exact zhc _ _ _ (⟨rd t276 x18_6, 0, rd x13_65 x19_7⟩ : S50))
                            (case aB => exact Yb_PItemAllx9_1)
                            (case aF => exact (fun k_ hk => ⟨Kd.fresh' (Kd.R_lt (Yr HO_7)) k_ hk, Kd.zb4 (g := gb245) (o := .cells #[.int .i64 ((zae x8_1 0).f0), .int .i64 ((zae x8_1 0).f1), .int .i64 ((zae x8_1 0).f2)] 50 (0, 0)) (Yg BK245) k_ hk⟩))
                            (case aO => exact (by (with_reducible repeat (first | apply Kd.Q_alloc | apply Kd.Q_drewN | apply Kd.zcb)); exact HO_8.out))
                            (case aS => exact (za0 Yb_PItemAllx9_1))
                            (case aL => have := LMc86.out; omega)
                            intro v282 w89 ho hb hg hat
                            rw [← Ny281.out] at ho
                            replace HO_5 := zaa.mk (Kd.R_over' (Yr HO_5) (Kd.zii (by (with_reducible repeat (first | apply Kd.Q_alloc | apply Kd.Q_drewN | apply Kd.zcb)); exact HO_8.out)) (by decide) hg)
                            replace HO_6 := zaa.mk (Kd.R_over' (Yr HO_6) (Kd.zii (by (with_reducible repeat (first | apply Kd.Q_alloc | apply Kd.Q_drewN | apply Kd.zcb)); exact HO_8.out)) (by decide) hg)
                            replace HO_7 := zaa.mk (Kd.zb0 (ok := (fun k_ => k_ ≠ gb245)) (by (with_reducible repeat (first | apply Kd.R_alloc | apply Kd.zby | apply Kd.zbm)); exact Kd.za7 HO_7.out (fun _ hk => ⟨hk.2, hk.1⟩)) hg hat)
                            replace HO_13 := zaa.mk (Kd.R_over' (Yr HO_13) (Kd.zii (by (with_reducible repeat (first | apply Kd.Q_alloc | apply Kd.Q_drewN | apply Kd.zcb)); exact HO_8.out)) (by decide) hg)
                            replace HO_17 := zaa.mk (Kd.R_over' (Yr HO_17) (Kd.zii (by (with_reducible repeat (first | apply Kd.Q_alloc | apply Kd.Q_drewN | apply Kd.zcb)); exact HO_8.out)) (by decide) hg)
                            replace BK234 := zaa.mk (zb9 (g := gb234) (o := .cells #[.slice A0_0 l0_0.length c0_0, .slice A0_1 l0_1.length c0_1, .slice A0_2 l0_2.length c0_2] 25 (0, 0)) (Yg BK234) hg (Kd.Q_ne HO_8.out BK234.out (by decide)))
                            replace BK245 := zaa.mk (zb9 (g := gb245) (o := .cells #[.int .i64 ((zae x8_1 0).f0), .int .i64 ((zae x8_1 0).f1), .int .i64 ((zae x8_1 0).f2)] 50 (0, 0)) (Yg BK245) hg (Kd.Q_away HO_8.out (fun _ hk => hk.2)))
                            replace HB := zaa.mk (hb)
                            have HO283 := zaa.mk (ho)
                            clear HO_8;clear ho hb hg hat
                            refine hK.out _ _ ?_
                            clear hK K
                            refine Ynw 131 ?_
                            refine Ypt 12 8 13 8191 HT_ ?_
                            refine zbs (zcc HT_.out (by kernel_rfl)) ?_
                            try go_wp2
                            go_roundg k7
                            case measure => have := HK1.out; have := HJ15.out; have := HJ32.out; have := HJ49.out; have := HJ65.out; have := HK6.out; have := HK7.out; omega
                            case rel => exact ⟨(y281), (wrap64 (x19_7 + 1)), Yfs, H', ⟨by have := HK1.out; have := HJ15.out; have := HJ32.out; have := HJ49.out; have := HJ65.out; have := HK6.out; have := HK7.out; omega⟩, ⟨Yr HO_5⟩, ⟨Yr HO_6⟩, ⟨by (with_reducible repeat (first | apply Kd.R_alloc | apply Kd.zby | apply Kd.zbm)); exact Kd.za7 HO_7.out (fun _ hk => ⟨hk.2, hk.1⟩)⟩, ⟨by (with_reducible repeat (first | apply Kd.Q_alloc | apply Kd.Q_drewN | apply Kd.zcb)); exact HO283.out⟩, ⟨Yr HO_13⟩, ⟨Yr HO_17⟩, ⟨Yg BK234⟩, ⟨Yg BK245⟩, ⟨Yb_PItemAllx9_1⟩⟩
                           ·rw [if_neg c86] at H
                            exact absurd H (by simp)
                          ·rw [if_neg c85] at H
                           exact absurd H (by simp)
                         ·rw [if_neg c84] at H
                          exact absurd H (by simp)
                        ·rw [if_neg c83] at H
                         exact absurd H (by simp)
                       ·rw [if_neg c82] at H
                        have c82b0 := decide_eq_false c82
                        clear c82
                        have H' := zaa.mk H
                        clear H
                        obtain ⟨Ao90, co90, eo90⟩ := Kd.zbn HO_13.out
                        subst eo90;go_wp2
                        go_roundg k7
                        case measure => have := HK1.out; have := HJ15.out; have := HJ32.out; have := HJ49.out; have := HJ65.out; have := HK6.out; have := HK7.out; omega
                        case rel => exact ⟨(x8_7), (wrap64 (x18_6 + 1)), Yfs, H', ⟨by have := HK1.out; have := HJ15.out; have := HJ32.out; have := HJ49.out; have := HJ65.out; have := HK6.out; have := HK7.out; omega⟩, ⟨Yr HO_5⟩, ⟨Yr HO_6⟩, ⟨Yr HO_7⟩, ⟨by (with_reducible repeat (first | apply Kd.Q_alloc | apply Kd.Q_drewN | apply Kd.zcb)); exact HO_8.out⟩, ⟨Yr HO_13⟩, ⟨Yr HO_17⟩, ⟨Yg BK234⟩, ⟨Yg BK245⟩, ⟨Yb_PItemAllx9_1⟩⟩
                    ·rw [if_neg c80] at H
                     have c80b0 := decide_eq_false c80
                     clear c80
                     have H' := zaa.mk H
                     clear H
                     obtain ⟨Ao91, co91, eo91⟩ := Kd.zbn HO_17.out
                     subst eo91;go_wp2
                     go_roundg k6
                     case measure => have := HK1.out; have := HJ15.out; have := HJ32.out; have := HJ49.out; have := HJ65.out; have := HK6.out; omega
                     case rel => exact ⟨(x7_15), (x8_6), H', ⟨by have := HK1.out; have := HJ15.out; have := HJ32.out; have := HJ49.out; have := HJ65.out; have := HK6.out; omega⟩, ⟨by (with_reducible repeat (first | apply Kd.R_alloc | apply Kd.zby | apply Kd.zbm)); exact Kd.za7 HO_5.out (fun _ hk => trivial)⟩, ⟨Yr HO_6⟩, ⟨by (with_reducible repeat (first | apply Kd.R_alloc | apply Kd.zby | apply Kd.zbm)); exact Kd.za7 HO_7.out (fun _ hk => hk.1)⟩, ⟨by (with_reducible repeat (first | apply Kd.Q_alloc | apply Kd.Q_drewN | apply Kd.zcb)); exact Kd.zeg HO_8.out (fun _ hk => hk.1)⟩, ⟨Yg BK234⟩, ⟨Yb_PItemAllx9_1⟩⟩
             ·rw [if_neg c49] at H
              exact absurd H (by simp)
            ·rw [if_neg c48] at H
             exact absurd H (by simp)
      ·rw [if_neg c14] at H
       exact absurd H (by simp)
     ·rw [if_neg c13] at H
      exact absurd H (by simp)
    ·rw [if_neg c12] at H
     have c12b0 := decide_eq_false c12
     have c12b1 : decide (0 < x8_1.length) = false := decide_eq_false (by omega)
     clear c12;obtain rfl := Option.some.inj H
     obtain ⟨Ao92, co92, eo92, _⟩ := Kd.Q_slice HO_8.out
     subst eo92;go_wp2;go_ret
     exact ⟨_, by first | rfl | (simp [errW_none, errW_some] <;> rfl) | (simp [*, errW_none, errW_some] <;> rfl), by (with_reducible repeat (first | apply Kd.R_alloc | apply Kd.zby | apply Kd.zbm)); exact Kd.za7 HO_7.out (fun _ hk => trivial), Yb_PItemAllx9_0⟩
 ·rw [if_neg c5] at H
  exact absurd H (by simp)
section
end
theorem Yb_PItemAllx10_0 {n : Nat} {w w' : World} (h : Below n w w' := by repeat (first | (with_reducible first | exact HB.out | apply za5 | apply zau | apply zar | refine za9 ?_ GE284.out) | exact HB.out)) : Below n w w' := h
theorem Yb_PItemAllx10_1 {n : Nat} {w w' : World} (h : Below n w w' := by repeat (first | (with_reducible first | exact HB.out | apply za5 | apply zau | apply zar | refine za9 ?_ GE297.out) | exact HB.out)) : Below n w w' := h
def zao.l0 : Nat → List (S50) → Int → List (S50) → Int → List ByteArray → List ByteArray → List (S42) → Option ((List (S50)))
 | 0, _, _, _, _, _, _, _ => none
 | k + 1, x1, x2, x7, x8, x285000, x285001, x285002 => if x8 < (x1.length : Int) then (if 0 ≤ x8 then ((zb1.f x285000 x285001 x285002 ((zae x1 x8).f0) ((zae x1 x8).f1) ((zae x1 x8).f2)).bind fun bt286 => (if bt286.2 = true then (if bt286.1 = x2 then (if x7.length < 5864062014805 then (zao.l0 k x1 x2 (x7 ++ [(⟨(zae x1 x8).f0, wrap64 (((zae x1 x8).f1) + 1), (zae x1 x8).f2⟩ : S50)]) (wrap64 (x8 + 1)) x285000 x285001 x285002) else (none)) else (zao.l0 k x1 x2 x7 (wrap64 (x8 + 1)) x285000 x285001 x285002)) else (zao.l0 k x1 x2 x7 (wrap64 (x8 + 1)) x285000 x285001 x285002))) else (none)) else ((zab.f k x285000 x285001 x285002 x7).bind fun t294 => (some t294))
def zao.f (k : Nat) (l0_0 : List ByteArray) (l0_1 : List ByteArray) (l0_2 : List (S42)) (l1 : List (S50)) (a2 : Int) : Option ((List (S50))) := zao.l0 k l1 a2 ([] : List (S50)) 0 l0_0 l0_1 l0_2
def zao.T5 : Bool × List (List Nat × List Nat) := (true, [([], []), ([], []), ([], []), ([1, 2], [1, 2]), ([3], [3]), ([0, 4], [0, 4]), ([5], [5]), ([6], [6]), ([6], [6]), ([7, 5, 0, 1, 2, 3, 4, 5, 6, 7], [7]), ([8, 9, 0, 1, 2, 3, 4, 5, 6, 7, 8, 9], [8])])
def zao.B5 : List Nat := [0, 0, 0, 6, 14, 31, 63, 127, 127, 255, 1023]
theorem zao.tab5 : rtab .any (opsOf Tryz.f22 5) = zao.T5 := by kernel_rfl
theorem zao.bits5 : zdh zao.T5.2 zao.B5 = true := by kernel_rfl
def zao.T7 : Bool × List (List Nat × List Nat) := (true, [([], []), ([], []), ([], []), ([1, 2], [1, 2]), ([3], [3]), ([4], [4]), ([], []), ([], []), ([6, 7], [6, 7]), ([8], [8]), ([9], [9]), ([10], [10]), ([], []), ([], []), ([12, 13], [12, 13]), ([14], [14]), ([15], [15]), ([5, 11, 16], [5, 11, 16]), ([17], [17]), ([0, 18], [0, 18]), ([19, 19, 0, 1, 2, 3, 4, 5, 6, 7, 8, 9, 10, 11, 12, 13, 14, 15, 16, 17, 18, 19], [0, 19])])
def zao.B7 : List Nat := [0, 0, 0, 6, 14, 30, 0, 0, 192, 448, 960, 1984, 0, 0, 12288, 28672, 61440, 131070, 262142, 524287, 1048575]
theorem zao.tab7 : rtab .any (opsOf Tryz.f22 7) = zao.T7 := by kernel_rfl
theorem zao.bits7 : zdh zao.T7.2 zao.B7 = true := by kernel_rfl
theorem zao.calls (k : Nat) (A0_0 : Option Addr) (c0_0 : Nat) (l0_0 : List ByteArray) (A0_1 : Option Addr) (c0_1 : Nat) (l0_1 : List ByteArray) (A0_2 : Option Addr) (c0_2 : Nat) (l0_2 : List (S42)) (A1 : Option Addr) (c1 : Nat) (l1 : List (S50)) (a2 : Int) (r : List (S50)) (w : World) (hr0_0 : Kd.C Kd.string w A0_0 l0_0.length l0_0) (hc0_0 : l0_0.length ≤ c0_0) (hr0_1 : Kd.C Kd.string w A0_1 l0_1.length l0_1) (hc0_1 : l0_1.length ≤ c0_1) (hr0_2 : Kd.C k42 w A0_2 l0_2.length l0_2) (hc0_2 : l0_2.length ≤ c0_2) (hr1 : Kd.C k50 w A1 l1.length l1) (hc1 : l1.length ≤ c1) (h : zao.f k l0_0 l0_1 l0_2 l1 a2 = some r) :
  Calls Tryz.prog 22 #[.agg #[.slice A0_0 l0_0.length c0_0, .slice A0_1 l0_1.length c0_1, .slice A0_2 l0_2.length c0_2], .slice A1 l1.length c1, .int .i64 a2] w fun e w' => ∃ v0_ : Value, e = .returned (v0_) ∧ Kd.R k50 50 w' w.heap.size (fun _ => True) v0_ r ∧ Below w.heap.size w w' := by
 have hu25 := Tryz.underlying25
 have hu50 := Tryz.underlying50
 have HR0_0 := zaa.mk hr0_0;have HC0_0 := zaa.mk hc0_0;clear hr0_0 hc0_0;have HR0_1 := zaa.mk hr0_1;have HC0_1 := zaa.mk hc0_1;clear hr0_1 hc0_1;have HR0_2 := zaa.mk hr0_2;have HC0_2 := zaa.mk hc0_2;clear hr0_2 hc0_2;have HR1 := zaa.mk hr1;have HC1 := zaa.mk hc1;clear hr1 hc1
 have HB := zaa.mk (Below.refl w.heap.size w)
 have H : (zao.l0 k l1 a2 ([] : List (S50)) 0 l0_0 l0_1 l0_2) = some r := h
 clear h
 have H' := zaa.mk H
 clear H
 go_enter Tryz.func22, Tryz.ntmps22
 go_wp2_with (first | ((with_reducible refine zat (N := 3) rfl ?_); refine Ybx 3 #[.slice A0_0 l0_0.length c0_0, .slice A0_1 l0_1.length c0_1, .slice A0_2 l0_2.length c0_2] 25 ?_; intro gb284 hg w4 hbox hb; obtain ⟨BK284, GW284, GE284, HB⟩ := Yb4 hbox hg hb Ybe; clear hb hbox hg))
 go_loopg [7, 8] k (fun kq v7 v8 w' => ∃ (x7_1 : List (S50)) (x8_1 : Int), v8 = .int .i64 x8_1 ∧ zaa (zao.l0 kq l1 a2 x7_1 x8_1 l0_0 l0_1 l0_2 = some r) ∧ zaa (kq ≤ k) ∧ zaa (Kd.R k50 50 w' w.heap.size (fun _ => True) v7 x7_1) ∧ zaa (w'.heap[gb284]? = some (.cells #[(.slice A0_0 l0_0.length c0_0), (.slice A0_1 l0_1.length c0_1), (.slice A0_2 l0_2.length c0_2)] 25 (0, 0))) ∧ zaa (Below w.heap.size w w'))
 case atStart => exact ⟨(([] : List (S50))), (0), Yfs, H', ⟨Nat.le_refl _⟩, ⟨by first | exact Kd.zdi _ _ _ _ _ | exact Kd.N_nil _ _ _ _ _ | exact Kd.V_nil _ _ _ _ _ | exact Kd.Q_nil _ _ _ _ _ | exact Kd.S_nil _ _ _ _ _⟩, ⟨Yg BK284⟩, ⟨Yb_PItemAllx10_0⟩⟩
 case round =>
  clear H'
  obtain ⟨x7_1, x8_1, rfl, HA, HK1, HO_7, BK284, HB⟩ := hrel
  cases gk with
  | zero => exact absurd HA.out (by simp [zao.l0])
  | succ k1 =>
   have H := HA.out;clear HA
   simp only [zao.l0] at H
   by_cases c5 : x8_1 < (l1.length : Int)
   ·rw [if_pos c5] at H
    have c5b0 := decide_eq_true c5
    clear c5
    by_cases c6 : 0 ≤ x8_1
    ·rw [if_pos c6] at H
     have c6b0 := decide_eq_true c6
     clear c6;replace H := Option.bind_eq_some_iff.mp H
     obtain ⟨⟨t286, t287⟩, A70, H⟩ := H
     replace H : (if t287 = true then (if t286 = a2 then (if x7_1.length < 5864062014805 then (zao.l0 k1 l1 a2 (x7_1 ++ [(⟨(zae l1 x8_1).f0, wrap64 (((zae l1 x8_1).f1) + 1), (zae l1 x8_1).f2⟩ : S50)]) (wrap64 (x8_1 + 1)) l0_0 l0_1 l0_2) else (none)) else (zao.l0 k1 l1 a2 x7_1 (wrap64 (x8_1 + 1)) l0_0 l0_1 l0_2)) else (zao.l0 k1 l1 a2 x7_1 (wrap64 (x8_1 + 1)) l0_0 l0_1 l0_2)) = some r := H
     have A7 := zaa.mk A70;clear A70
     by_cases c8 : t287 = true
     ·subst c8
      have H1 : (if t286 = a2 then (if x7_1.length < 5864062014805 then (zao.l0 k1 l1 a2 (x7_1 ++ [(⟨(zae l1 x8_1).f0, wrap64 (((zae l1 x8_1).f1) + 1), (zae l1 x8_1).f2⟩ : S50)]) (wrap64 (x8_1 + 1)) l0_0 l0_1 l0_2) else (none)) else (zao.l0 k1 l1 a2 x7_1 (wrap64 (x8_1 + 1)) l0_0 l0_1 l0_2)) = some r := by rw [if_pos rfl] at H; exact H
      clear H;have H := H1;clear H1
      by_cases c9 : t286 = a2
      ·rw [if_pos c9] at H
       have c9b0 : (t286 == a2) = true := beq_iff_eq.mpr c9
       have c9b1 : (t286 != a2) = false := bne_eq_false_iff_eq.mpr c9
       clear c9
       by_cases c10 : x7_1.length < 5864062014805
       ·rw [if_pos c10] at H
        have LMc10 := zaa.mk c10;clear c10
        obtain ⟨y291, hy291⟩ : ∃ y_ : List (S50), y_ = (x7_1 ++ [(⟨(zae l1 x8_1).f0, wrap64 (((zae l1 x8_1).f1) + 1), (zae l1 x8_1).f2⟩ : S50)]) := ⟨_, rfl⟩
        replace H : (zao.l0 k1 l1 a2 y291 (wrap64 (x8_1 + 1)) l0_0 l0_1 l0_2) = some r := by first | (rw [hy291]; with_reducible exact H) | (have H2_ := (Option.bind_some _ _).symm.trans H; rw [hy291]; with_reducible exact H2_) | (have H2_ := (Option.bind_some _ _).symm.trans H; with_reducible exact H2_) | with_reducible exact H | (rw [hy291]; exact H) | exact H
        have Ny291 := zaa.mk hy291;clear hy291
        have H' := zaa.mk H
        clear H
        try go_wp2
        replace HO_7 := zaa.mk (Kd.zbm HO_7.out)
        replace BK284 := zaa.mk (zah BK284.out)
        replace HB := zaa.mk (zar HB.out)
        have p285 : 0 ≤ (x8_1 : Int) := Yod
        have q285 : x8_1 < (l1.length : Int) := Yod
        obtain ⟨ad285, e285, hx285_0, hx285_1, hx285_2⟩ := zc3 HR1.out x8_1 p285 q285
        have hw285_2 := hx285_2;have hw285_1 := hx285_1;have hw285_0 := hx285_0
        cases e285
        replace hx285_0 := zad HB.out hx285_0
        replace hx285_1 := zad HB.out hx285_1
        replace hx285_2 := zad HB.out hx285_2
        replace p285 := eq_true p285
        replace q285 := eq_true q285
        refine zbp (n := 11) (S := fun w' => w'.cell? ⟨gb284, 0, none⟩ = some (.slice A0_0 l0_0.length c0_0) ∧ w'.cell? ⟨gb284, 1, none⟩ = some (.slice A0_1 l0_1.length c0_1) ∧ w'.cell? ⟨gb284, 2, none⟩ = some (.slice A0_2 l0_2.length c0_2) ∧ w'.cell? (ad285.add ((x8_1).toNat * 3)) = some (.int .i64 ((zae l1 x8_1).f0)) ∧ w'.cell? ⟨(ad285.add ((x8_1).toNat * 3)).block, (ad285.add ((x8_1).toNat * 3)).off + 1, none⟩ = some (.int .i64 ((zae l1 x8_1).f1)) ∧ w'.cell? ⟨(ad285.add ((x8_1).toNat * 3)).block, (ad285.add ((x8_1).toNat * 3)).off + 2, none⟩ = some (.int .i64 ((zae l1 x8_1).f2))) (ds := []) (Ymk 11 0) (by kernel_rfl) rfl rfl ⟨(zac BK284.out 0).trans rfl, (zac BK284.out 1).trans rfl, (zac BK284.out 2).trans rfl, ((HB.out.cell (World.block_lt_of_cell? w _ hw285_0)).trans hw285_0), ((HB.out.cell (World.block_lt_of_cell? w _ hw285_1)).trans hw285_1), ((HB.out.cell (World.block_lt_of_cell? w _ hw285_2)).trans hw285_2)⟩ (fun hHeld => ?_); refine zbw zao.tab5 zao.bits5 (fun HT_ HW_ => ?_)
        generalize wr.drew = w11 at HO_7 BK284 HB hx285_0 hx285_1 hx285_2 hHeld ⊢
        refine Ypt 1 19 11 2 HT_ ?_
        refine Ypt 2 20 11 6 HT_ ?_
        refine Ypt 3 21 11 14 HT_ ?_
        refine Ytt 0 18 11 15 HT_ HW_ hHeld ?_
        refine Ytt 4 22 11 31 HT_ HW_ hHeld ?_
        refine Yot 5 23 11 63 HT_ (fun K hK => ?_)
        refine Ygs Tryz.func16 #[.agg #[.slice A0_0 l0_0.length c0_0, .slice A0_1 l0_1.length c0_1, .slice A0_2 l0_2.length c0_2], .agg #[.int .i64 ((zae l1 x8_1).f0), .int .i64 ((zae l1 x8_1).f1), .int .i64 ((zae l1 x8_1).f2)]] ?_
        with_reducible refine (zb1.calls _ _ l0_0 _ _ l0_1 _ _ l0_2 ((zae l1 x8_1).f0) ((zae l1 x8_1).f1) ((zae l1 x8_1).f2) t286 true _ (Kd.zak HR0_0.out Ybe) HC0_0.out (Kd.zak HR0_1.out Ybe) HC0_1.out (Kd.zak HR0_2.out Ybe) HC0_2.out A7.out).mono ?_
        rintro e w12 ⟨rfl, hb⟩
        refine ⟨_, rfl, ?_⟩
        replace HO_7 := zaa.mk (Kd.zbg (Yr HO_7) hb)
        replace BK284 := Ykb BK284 hb
        replace HB := zaa.mk (zay Yb_PItemAllx10_0 hb)
        (try clear hb)
        (try clear hb2)
        (try clear hk)
        (try clear hi)
        refine hK.out _ _ ⟨(zac BK284.out 0).trans rfl, (zac BK284.out 1).trans rfl, (zac BK284.out 2).trans rfl, ((HB.out.cell (World.block_lt_of_cell? w _ hw285_0)).trans hw285_0), ((HB.out.cell (World.block_lt_of_cell? w _ hw285_1)).trans hw285_1), ((HB.out.cell (World.block_lt_of_cell? w _ hw285_2)).trans hw285_2)⟩ (fun hHeld => ?_)
        clear hK K
        refine Ynw 23 ?_
        refine Ypt 6 17 11 127 HT_ ?_
        refine Ypt 7 24 11 255 HT_ ?_
        refine Ypt 8 25 11 511 HT_ ?_
        refine Ypt 9 9 11 1023 HT_ ?_
        refine Ypt 10 10 11 2047 HT_ ?_
        refine zbs (zcc HT_.out (by kernel_rfl)) ?_
        try go_wp2
        replace HO_7 := zaa.mk (Kd.zbm HO_7.out)
        replace BK284 := zaa.mk (zah BK284.out)
        replace HB := zaa.mk (zar HB.out)
        have p288 : 0 ≤ (x8_1 : Int) := Yod
        have q288 : x8_1 < (l1.length : Int) := Yod
        obtain ⟨ad288, e288, hx288_0, hx288_1, hx288_2⟩ := zc3 HR1.out x8_1 p288 q288
        have hw288_2 := hx288_2;have hw288_1 := hx288_1;have hw288_0 := hx288_0
        obtain rfl : ad285 = ad288 := (by injection e288)
        replace hx288_0 := zad HB.out hx288_0
        replace hx288_1 := zad HB.out hx288_1
        replace hx288_2 := zad HB.out hx288_2
        replace p288 := eq_true p288
        replace q288 := eq_true q288
        have p289 : 0 ≤ (x8_1 : Int) := Yod
        have q289 : x8_1 < (l1.length : Int) := Yod
        obtain ⟨ad289, e289, hx289_0, hx289_1, hx289_2⟩ := zc3 HR1.out x8_1 p289 q289
        have hw289_2 := hx289_2;have hw289_1 := hx289_1;have hw289_0 := hx289_0
        obtain rfl : ad285 = ad289 := (by injection e289)
        replace hx289_0 := zad HB.out hx289_0
        replace hx289_1 := zad HB.out hx289_1
        replace hx289_2 := zad HB.out hx289_2
        replace p289 := eq_true p289
        replace q289 := eq_true q289
        have p290 : 0 ≤ (x8_1 : Int) := Yod
        have q290 : x8_1 < (l1.length : Int) := Yod
        obtain ⟨ad290, e290, hx290_0, hx290_1, hx290_2⟩ := zc3 HR1.out x8_1 p290 q290
        have hw290_2 := hx290_2;have hw290_1 := hx290_1;have hw290_0 := hx290_0
        obtain rfl : ad285 = ad290 := (by injection e290)
        replace hx290_0 := zad HB.out hx290_0
        replace hx290_1 := zad HB.out hx290_1
        replace hx290_2 := zad HB.out hx290_2
        replace p290 := eq_true p290
        replace q290 := eq_true q290
        refine zbp (n := 21) (S := fun w' => w'.cell? (ad285.add ((x8_1).toNat * 3)) = some (.int .i64 ((zae l1 x8_1).f0)) ∧ w'.cell? ⟨(ad285.add ((x8_1).toNat * 3)).block, (ad285.add ((x8_1).toNat * 3)).off + 1, none⟩ = some (.int .i64 ((zae l1 x8_1).f1)) ∧ w'.cell? ⟨(ad285.add ((x8_1).toNat * 3)).block, (ad285.add ((x8_1).toNat * 3)).off + 2, none⟩ = some (.int .i64 ((zae l1 x8_1).f2)) ∧ w'.cell? (ad285.add ((x8_1).toNat * 3)) = some (.int .i64 ((zae l1 x8_1).f0)) ∧ w'.cell? ⟨(ad285.add ((x8_1).toNat * 3)).block, (ad285.add ((x8_1).toNat * 3)).off + 1, none⟩ = some (.int .i64 ((zae l1 x8_1).f1)) ∧ w'.cell? ⟨(ad285.add ((x8_1).toNat * 3)).block, (ad285.add ((x8_1).toNat * 3)).off + 2, none⟩ = some (.int .i64 ((zae l1 x8_1).f2)) ∧ w'.cell? (ad285.add ((x8_1).toNat * 3)) = some (.int .i64 ((zae l1 x8_1).f0)) ∧ w'.cell? ⟨(ad285.add ((x8_1).toNat * 3)).block, (ad285.add ((x8_1).toNat * 3)).off + 1, none⟩ = some (.int .i64 ((zae l1 x8_1).f1)) ∧ w'.cell? ⟨(ad285.add ((x8_1).toNat * 3)).block, (ad285.add ((x8_1).toNat * 3)).off + 2, none⟩ = some (.int .i64 ((zae l1 x8_1).f2))) (ds := []) (Ymk 21 0) (by kernel_rfl) rfl rfl ⟨((HB.out.cell (World.block_lt_of_cell? w _ hw288_0)).trans hw288_0), ((HB.out.cell (World.block_lt_of_cell? w _ hw288_1)).trans hw288_1), ((HB.out.cell (World.block_lt_of_cell? w _ hw288_2)).trans hw288_2), ((HB.out.cell (World.block_lt_of_cell? w _ hw289_0)).trans hw289_0), ((HB.out.cell (World.block_lt_of_cell? w _ hw289_1)).trans hw289_1), ((HB.out.cell (World.block_lt_of_cell? w _ hw289_2)).trans hw289_2), ((HB.out.cell (World.block_lt_of_cell? w _ hw290_0)).trans hw290_0), ((HB.out.cell (World.block_lt_of_cell? w _ hw290_1)).trans hw290_1), ((HB.out.cell (World.block_lt_of_cell? w _ hw290_2)).trans hw290_2)⟩ (fun hHeld => ?_); refine zbw zao.tab7 zao.bits7 (fun HT_ HW_ => ?_)
        generalize w12.drew = w13 at HO_7 BK284 HB hx288_0 hx288_1 hx288_2 hx289_0 hx289_1 hx289_2 hx290_0 hx290_1 hx290_2 hHeld ⊢
        refine Ypt 0 32 21 1 HT_ ?_
        refine Ypt 1 33 21 3 HT_ ?_
        refine Ypt 2 34 21 7 HT_ ?_
        refine Ypt 3 35 21 15 HT_ ?_
        refine Ypt 4 36 21 31 HT_ ?_
        refine Ypt 6 38 21 95 HT_ ?_
        refine Ypt 7 39 21 223 HT_ ?_
        refine Ypt 8 40 21 479 HT_ ?_
        refine Ypt 9 41 21 991 HT_ ?_
        refine Ypt 12 44 21 5087 HT_ ?_
        refine Ypt 13 45 21 13279 HT_ ?_
        refine Ypt 14 46 21 29663 HT_ ?_
        refine Ypt 15 47 21 62431 HT_ ?_
        refine Ytt 5 37 21 62463 HT_ HW_ hHeld ?_
        refine Ytt 10 42 21 63487 HT_ HW_ hHeld ?_
        refine Ypt 11 43 21 65535 HT_ ?_
        refine Ytt 16 48 21 131071 HT_ HW_ hHeld ?_
        refine Ypt 17 49 21 262143 HT_ ?_
        refine Yot 18 50 21 524287 HT_ (fun K hK => ?_)
        refine zcp (w1 := ?_) (v := ?_) (by rfl) rfl ?_ ?_
        rotate_left 2
        ·go_simp
         constructor
         ·rfl
         ·rfl
        refine hK.out _ _ ⟨(World.cell?_alloc_lt _ _ _ (World.block_lt_of_cell? _ _ (((HB.out.cell (World.block_lt_of_cell? w _ hw288_0)).trans hw288_0)))).trans (((HB.out.cell (World.block_lt_of_cell? w _ hw288_0)).trans hw288_0)), (World.cell?_alloc_lt _ _ _ (World.block_lt_of_cell? _ _ (((HB.out.cell (World.block_lt_of_cell? w _ hw288_1)).trans hw288_1)))).trans (((HB.out.cell (World.block_lt_of_cell? w _ hw288_1)).trans hw288_1)), (World.cell?_alloc_lt _ _ _ (World.block_lt_of_cell? _ _ (((HB.out.cell (World.block_lt_of_cell? w _ hw288_2)).trans hw288_2)))).trans (((HB.out.cell (World.block_lt_of_cell? w _ hw288_2)).trans hw288_2)), (World.cell?_alloc_lt _ _ _ (World.block_lt_of_cell? _ _ (((HB.out.cell (World.block_lt_of_cell? w _ hw289_0)).trans hw289_0)))).trans (((HB.out.cell (World.block_lt_of_cell? w _ hw289_0)).trans hw289_0)), (World.cell?_alloc_lt _ _ _ (World.block_lt_of_cell? _ _ (((HB.out.cell (World.block_lt_of_cell? w _ hw289_1)).trans hw289_1)))).trans (((HB.out.cell (World.block_lt_of_cell? w _ hw289_1)).trans hw289_1)), (World.cell?_alloc_lt _ _ _ (World.block_lt_of_cell? _ _ (((HB.out.cell (World.block_lt_of_cell? w _ hw289_2)).trans hw289_2)))).trans (((HB.out.cell (World.block_lt_of_cell? w _ hw289_2)).trans hw289_2)), (World.cell?_alloc_lt _ _ _ (World.block_lt_of_cell? _ _ (((HB.out.cell (World.block_lt_of_cell? w _ hw290_0)).trans hw290_0)))).trans (((HB.out.cell (World.block_lt_of_cell? w _ hw290_0)).trans hw290_0)), (World.cell?_alloc_lt _ _ _ (World.block_lt_of_cell? _ _ (((HB.out.cell (World.block_lt_of_cell? w _ hw290_1)).trans hw290_1)))).trans (((HB.out.cell (World.block_lt_of_cell? w _ hw290_1)).trans hw290_1)), (World.cell?_alloc_lt _ _ _ (World.block_lt_of_cell? _ _ (((HB.out.cell (World.block_lt_of_cell? w _ hw290_2)).trans hw290_2)))).trans (((HB.out.cell (World.block_lt_of_cell? w _ hw290_2)).trans hw290_2))⟩ (fun hHeld => ?_)
        clear hK K
        refine Ynw 50 ?_
        refine Yot 19 51 21 1048575 HT_ (fun K hK => ?_)
        refine Kd.zkj k50 (w0 := w) w.heap.size (by rfl) (.tmp 32) (.tmp 50) 45 50 (.agg #[(.int .i64 0), (.int .i64 0), (.int .i64 0)]) 24 rfl Tryz.underlying45 zd1 rfl (by decide) (by omega) u7 x7_1 (⟨(zae l1 x8_1).f0, wrap64 (((zae l1 x8_1).f1) + 1), (zae l1 x8_1).f2⟩ : S50) [.int .i64 ((zae l1 x8_1).f0), .int .i64 (wrap64 (((zae l1 x8_1).f1) + 1)), .int .i64 ((zae l1 x8_1).f2)] (fun _ => True) (fun _ => False) rfl rfl ?aP (fun _ hk => hk.elim) ?aF ?aO ?aB ?aS ?aL ?_
        (case aP => exact zhc _ _ _ (⟨(zae l1 x8_1).f0, wrap64 (((zae l1 x8_1).f1) + 1), (zae l1 x8_1).f2⟩ : S50))
        (case aB => exact Yb_PItemAllx10_0)
        (case aF => exact (fun _ _ => trivial))
        (case aO => exact (Yr HO_7))
        (case aS => exact (za0 Yb_PItemAllx10_0))
        (case aL => have := LMc10.out; omega)
        intro v292 w14 ho hb hg hat
        rw [← Ny291.out] at ho
        replace BK284 := zaa.mk (zb9 (g := gb284) (o := .cells #[.slice A0_0 l0_0.length c0_0, .slice A0_1 l0_1.length c0_1, .slice A0_2 l0_2.length c0_2] 25 (0, 0)) (Yg BK284) hg (Kd.R_ne HO_7.out BK284.out (by decide)))
        replace HB := zaa.mk (hb)
        have HO293 := zaa.mk (ho)
        clear HO_7;clear ho hb hg hat
        refine hK.out _ _ ⟨((HB.out.cell (World.block_lt_of_cell? w _ hw288_0)).trans hw288_0), ((HB.out.cell (World.block_lt_of_cell? w _ hw288_1)).trans hw288_1), ((HB.out.cell (World.block_lt_of_cell? w _ hw288_2)).trans hw288_2), ((HB.out.cell (World.block_lt_of_cell? w _ hw289_0)).trans hw289_0), ((HB.out.cell (World.block_lt_of_cell? w _ hw289_1)).trans hw289_1), ((HB.out.cell (World.block_lt_of_cell? w _ hw289_2)).trans hw289_2), ((HB.out.cell (World.block_lt_of_cell? w _ hw290_0)).trans hw290_0), ((HB.out.cell (World.block_lt_of_cell? w _ hw290_1)).trans hw290_1), ((HB.out.cell (World.block_lt_of_cell? w _ hw290_2)).trans hw290_2)⟩ (fun hHeld => ?_)
        clear hK K
        refine Ynw 51 ?_
        refine Ypt 20 7 21 2097151 HT_ ?_
        refine zbs (zcc HT_.out (by kernel_rfl)) ?_
        try go_wp2
        go_roundg k1
        case measure => have := HK1.out; omega
        case rel => exact ⟨(y291), (wrap64 (x8_1 + 1)), Yfs, H', ⟨by have := HK1.out; omega⟩, ⟨Yr HO293⟩, ⟨Yg BK284⟩, ⟨Yb_PItemAllx10_0⟩⟩
       ·rw [if_neg c10] at H
        exact absurd H (by simp)
      ·rw [if_neg c9] at H
       have c9b0 : (t286 == a2) = false := beq_eq_false_iff_ne.mpr c9
       have c9b1 : (t286 != a2) = true := bne_iff_ne.mpr c9
       have H' := zaa.mk H
       clear H
       try go_wp2
       replace HO_7 := zaa.mk (Kd.zbm HO_7.out)
       replace BK284 := zaa.mk (zah BK284.out)
       replace HB := zaa.mk (zar HB.out)
       have p285 : 0 ≤ (x8_1 : Int) := Yod
       have q285 : x8_1 < (l1.length : Int) := Yod
       obtain ⟨ad285, e285, hx285_0, hx285_1, hx285_2⟩ := zc3 HR1.out x8_1 p285 q285
       have hw285_2 := hx285_2;have hw285_1 := hx285_1;have hw285_0 := hx285_0
       cases e285
       replace hx285_0 := zad HB.out hx285_0
       replace hx285_1 := zad HB.out hx285_1
       replace hx285_2 := zad HB.out hx285_2
       replace p285 := eq_true p285
       replace q285 := eq_true q285
       refine zbp (n := 11) (S := fun w' => w'.cell? ⟨gb284, 0, none⟩ = some (.slice A0_0 l0_0.length c0_0) ∧ w'.cell? ⟨gb284, 1, none⟩ = some (.slice A0_1 l0_1.length c0_1) ∧ w'.cell? ⟨gb284, 2, none⟩ = some (.slice A0_2 l0_2.length c0_2) ∧ w'.cell? (ad285.add ((x8_1).toNat * 3)) = some (.int .i64 ((zae l1 x8_1).f0)) ∧ w'.cell? ⟨(ad285.add ((x8_1).toNat * 3)).block, (ad285.add ((x8_1).toNat * 3)).off + 1, none⟩ = some (.int .i64 ((zae l1 x8_1).f1)) ∧ w'.cell? ⟨(ad285.add ((x8_1).toNat * 3)).block, (ad285.add ((x8_1).toNat * 3)).off + 2, none⟩ = some (.int .i64 ((zae l1 x8_1).f2))) (ds := []) (Ymk 11 0) (by kernel_rfl) rfl rfl ⟨(zac BK284.out 0).trans rfl, (zac BK284.out 1).trans rfl, (zac BK284.out 2).trans rfl, ((HB.out.cell (World.block_lt_of_cell? w _ hw285_0)).trans hw285_0), ((HB.out.cell (World.block_lt_of_cell? w _ hw285_1)).trans hw285_1), ((HB.out.cell (World.block_lt_of_cell? w _ hw285_2)).trans hw285_2)⟩ (fun hHeld => ?_); refine zbw zao.tab5 zao.bits5 (fun HT_ HW_ => ?_)
       generalize wr.drew = w15 at HO_7 BK284 HB hx285_0 hx285_1 hx285_2 hHeld ⊢
       refine Ypt 1 19 11 2 HT_ ?_
       refine Ypt 2 20 11 6 HT_ ?_
       refine Ypt 3 21 11 14 HT_ ?_
       refine Ytt 0 18 11 15 HT_ HW_ hHeld ?_
       refine Ytt 4 22 11 31 HT_ HW_ hHeld ?_
       refine Yot 5 23 11 63 HT_ (fun K hK => ?_)
       refine Ygs Tryz.func16 #[.agg #[.slice A0_0 l0_0.length c0_0, .slice A0_1 l0_1.length c0_1, .slice A0_2 l0_2.length c0_2], .agg #[.int .i64 ((zae l1 x8_1).f0), .int .i64 ((zae l1 x8_1).f1), .int .i64 ((zae l1 x8_1).f2)]] ?_
       with_reducible refine (zb1.calls _ _ l0_0 _ _ l0_1 _ _ l0_2 ((zae l1 x8_1).f0) ((zae l1 x8_1).f1) ((zae l1 x8_1).f2) t286 true _ (Kd.zak HR0_0.out Ybe) HC0_0.out (Kd.zak HR0_1.out Ybe) HC0_1.out (Kd.zak HR0_2.out Ybe) HC0_2.out A7.out).mono ?_
       rintro e w16 ⟨rfl, hb⟩
       refine ⟨_, rfl, ?_⟩
       replace HO_7 := zaa.mk (Kd.zbg (Yr HO_7) hb)
       replace BK284 := Ykb BK284 hb
       replace HB := zaa.mk (zay Yb_PItemAllx10_0 hb)
       (try clear hb)
       (try clear hb2)
       (try clear hk)
       (try clear hi)
       refine hK.out _ _ ⟨(zac BK284.out 0).trans rfl, (zac BK284.out 1).trans rfl, (zac BK284.out 2).trans rfl, ((HB.out.cell (World.block_lt_of_cell? w _ hw285_0)).trans hw285_0), ((HB.out.cell (World.block_lt_of_cell? w _ hw285_1)).trans hw285_1), ((HB.out.cell (World.block_lt_of_cell? w _ hw285_2)).trans hw285_2)⟩ (fun hHeld => ?_)
       clear hK K
       refine Ynw 23 ?_
       refine Ypt 6 17 11 127 HT_ ?_
       refine Ypt 7 24 11 255 HT_ ?_
       refine Ypt 8 25 11 511 HT_ ?_
       refine Ypt 9 9 11 1023 HT_ ?_
       refine Ypt 10 10 11 2047 HT_ ?_
       refine zbs (zcc HT_.out (by kernel_rfl)) ?_
       try go_wp2
       go_roundg k1
       case measure => have := HK1.out; omega
       case rel => exact ⟨(x7_1), (wrap64 (x8_1 + 1)), Yfs, H', ⟨by have := HK1.out; omega⟩, ⟨Yr HO_7⟩, ⟨Yg BK284⟩, ⟨Yb_PItemAllx10_0⟩⟩
     ·replace c8 := Bool.eq_false_iff.mpr c8
      subst c8
      have H1 : (zao.l0 k1 l1 a2 x7_1 (wrap64 (x8_1 + 1)) l0_0 l0_1 l0_2) = some r := by rw [if_neg (show ¬ (false = true) by decide)] at H; exact H
      clear H;have H := H1;clear H1
      have H' := zaa.mk H
      clear H
      try go_wp2
      replace HO_7 := zaa.mk (Kd.zbm HO_7.out)
      replace BK284 := zaa.mk (zah BK284.out)
      replace HB := zaa.mk (zar HB.out)
      have p285 : 0 ≤ (x8_1 : Int) := Yod
      have q285 : x8_1 < (l1.length : Int) := Yod
      obtain ⟨ad285, e285, hx285_0, hx285_1, hx285_2⟩ := zc3 HR1.out x8_1 p285 q285
      have hw285_2 := hx285_2;have hw285_1 := hx285_1;have hw285_0 := hx285_0
      cases e285
      replace hx285_0 := zad HB.out hx285_0
      replace hx285_1 := zad HB.out hx285_1
      replace hx285_2 := zad HB.out hx285_2
      replace p285 := eq_true p285
      replace q285 := eq_true q285
      refine zbp (n := 11) (S := fun w' => w'.cell? ⟨gb284, 0, none⟩ = some (.slice A0_0 l0_0.length c0_0) ∧ w'.cell? ⟨gb284, 1, none⟩ = some (.slice A0_1 l0_1.length c0_1) ∧ w'.cell? ⟨gb284, 2, none⟩ = some (.slice A0_2 l0_2.length c0_2) ∧ w'.cell? (ad285.add ((x8_1).toNat * 3)) = some (.int .i64 ((zae l1 x8_1).f0)) ∧ w'.cell? ⟨(ad285.add ((x8_1).toNat * 3)).block, (ad285.add ((x8_1).toNat * 3)).off + 1, none⟩ = some (.int .i64 ((zae l1 x8_1).f1)) ∧ w'.cell? ⟨(ad285.add ((x8_1).toNat * 3)).block, (ad285.add ((x8_1).toNat * 3)).off + 2, none⟩ = some (.int .i64 ((zae l1 x8_1).f2))) (ds := []) (Ymk 11 0) (by kernel_rfl) rfl rfl ⟨(zac BK284.out 0).trans rfl, (zac BK284.out 1).trans rfl, (zac BK284.out 2).trans rfl, ((HB.out.cell (World.block_lt_of_cell? w _ hw285_0)).trans hw285_0), ((HB.out.cell (World.block_lt_of_cell? w _ hw285_1)).trans hw285_1), ((HB.out.cell (World.block_lt_of_cell? w _ hw285_2)).trans hw285_2)⟩ (fun hHeld => ?_); refine zbw zao.tab5 zao.bits5 (fun HT_ HW_ => ?_)
      generalize wr.drew = w17 at HO_7 BK284 HB hx285_0 hx285_1 hx285_2 hHeld ⊢
      refine Ypt 1 19 11 2 HT_ ?_
      refine Ypt 2 20 11 6 HT_ ?_
      refine Ypt 3 21 11 14 HT_ ?_
      refine Ytt 0 18 11 15 HT_ HW_ hHeld ?_
      refine Ytt 4 22 11 31 HT_ HW_ hHeld ?_
      refine Yot 5 23 11 63 HT_ (fun K hK => ?_)
      refine Ygs Tryz.func16 #[.agg #[.slice A0_0 l0_0.length c0_0, .slice A0_1 l0_1.length c0_1, .slice A0_2 l0_2.length c0_2], .agg #[.int .i64 ((zae l1 x8_1).f0), .int .i64 ((zae l1 x8_1).f1), .int .i64 ((zae l1 x8_1).f2)]] ?_
      with_reducible refine (zb1.calls _ _ l0_0 _ _ l0_1 _ _ l0_2 ((zae l1 x8_1).f0) ((zae l1 x8_1).f1) ((zae l1 x8_1).f2) t286 false _ (Kd.zak HR0_0.out Ybe) HC0_0.out (Kd.zak HR0_1.out Ybe) HC0_1.out (Kd.zak HR0_2.out Ybe) HC0_2.out A7.out).mono ?_
      rintro e w18 ⟨rfl, hb⟩
      refine ⟨_, rfl, ?_⟩
      replace HO_7 := zaa.mk (Kd.zbg (Yr HO_7) hb)
      replace BK284 := Ykb BK284 hb
      replace HB := zaa.mk (zay Yb_PItemAllx10_0 hb)
      (try clear hb)
      (try clear hb2)
      (try clear hk)
      (try clear hi)
      refine hK.out _ _ ⟨(zac BK284.out 0).trans rfl, (zac BK284.out 1).trans rfl, (zac BK284.out 2).trans rfl, ((HB.out.cell (World.block_lt_of_cell? w _ hw285_0)).trans hw285_0), ((HB.out.cell (World.block_lt_of_cell? w _ hw285_1)).trans hw285_1), ((HB.out.cell (World.block_lt_of_cell? w _ hw285_2)).trans hw285_2)⟩ (fun hHeld => ?_)
      clear hK K
      refine Ynw 23 ?_
      refine Ypt 6 17 11 127 HT_ ?_
      refine Ypt 7 24 11 255 HT_ ?_
      refine Ypt 8 25 11 511 HT_ ?_
      refine Ypt 9 9 11 1023 HT_ ?_
      refine Ypt 10 10 11 2047 HT_ ?_
      refine zbs (zcc HT_.out (by kernel_rfl)) ?_
      try go_wp2
      go_roundg k1
      case measure => have := HK1.out; omega
      case rel => exact ⟨(x7_1), (wrap64 (x8_1 + 1)), Yfs, H', ⟨by have := HK1.out; omega⟩, ⟨Yr HO_7⟩, ⟨Yg BK284⟩, ⟨Yb_PItemAllx10_0⟩⟩
    ·rw [if_neg c6] at H
     exact absurd H (by simp)
   ·rw [if_neg c5] at H
    have c5b0 := decide_eq_false c5
    clear c5;replace H := Option.bind_eq_some_iff.mp H
    obtain ⟨t294, A190, H⟩ := H
    replace H : (some t294) = some r := H
    have A19 := zaa.mk A190;clear A190;obtain rfl := Option.some.inj H
    obtain ⟨hcz20_0, hfz20_0, hcz20_1, hfz20_1, hcz20_2, hfz20_2⟩ := Yc3 BK284.out
    obtain ⟨Ao21, co21, eo21⟩ := Kd.zbn HO_7.out
    subst eo21
    go_wp2_with (first | ((with_reducible refine zbd (f := 21) rfl ?_); refine Ygl (some 54) Tryz.func21 #[.agg #[.slice A0_0 l0_0.length c0_0, .slice A0_1 l0_1.length c0_1, .slice A0_2 l0_2.length c0_2], .slice Ao21 x7_1.length co21] ?_; (with_reducible refine (zab.calls k1 _ _ l0_0 _ _ l0_1 _ _ l0_2 _ _ x7_1 t294 _ (Kd.zak HR0_0.out Ybe) HC0_0.out (Kd.zak HR0_1.out Ybe) HC0_1.out (Kd.zak HR0_2.out Ybe) HC0_2.out ?side7 ?side8 A19.out).mono ?_); (case side7 => repeat (first | exact (Kd.R_reads' HO_7.out).2.2 | (with_reducible refine Kd.C_alloc ?_ _) | (with_reducible refine Kd.zbj ?_ _) | (with_reducible refine Kd.C_drew ?_))); (case side8 => exact (Kd.R_reads' HO_7.out).2.1); rintro e w22 ⟨v295, rfl, ho0, hb⟩; refine ⟨_, rfl, ?_⟩; have HO296 := zaa.mk (Kd.zb7 (Kd.R_new' ho0 (Kd.R_lt (Yr HO_7))) (za0 Yb_PItemAllx10_0)); replace HO_7 := zaa.mk (Kd.R_elder' (Yr HO_7) (Kd.zdz ho0) hb); replace BK284 := Ykb BK284 hb; replace HB := zaa.mk (zay Yb_PItemAllx10_0 hb); (try clear hb); (try clear hb2); (try clear hk); (try clear hi); (try clear ho0)))
    go_ret
    exact ⟨_, by first | rfl | (simp [errW_none, errW_some] <;> rfl) | (simp [*, errW_none, errW_some] <;> rfl), by (with_reducible repeat (first | apply Kd.R_alloc | apply Kd.zby | apply Kd.zbm)); exact Kd.za7 HO296.out (fun _ hk => trivial), Yb_PItemAllx10_0⟩
def zcx.f (k : Nat) (l0_0 : List ByteArray) (l0_1 : List ByteArray) (l0_2 : List (S42)) : Option ((List (S50))) := (zab.f k l0_0 l0_1 l0_2 (([(⟨(-1), 0, (l0_0.length : Int)⟩ : S50)] : List (S50)))).bind fun t301 => (some t301)
theorem zcx.calls (k : Nat) (A0_0 : Option Addr) (c0_0 : Nat) (l0_0 : List ByteArray) (A0_1 : Option Addr) (c0_1 : Nat) (l0_1 : List ByteArray) (A0_2 : Option Addr) (c0_2 : Nat) (l0_2 : List (S42)) (r : List (S50)) (w : World) (hr0_0 : Kd.C Kd.string w A0_0 l0_0.length l0_0) (hc0_0 : l0_0.length ≤ c0_0) (hr0_1 : Kd.C Kd.string w A0_1 l0_1.length l0_1) (hc0_1 : l0_1.length ≤ c0_1) (hr0_2 : Kd.C k42 w A0_2 l0_2.length l0_2) (hc0_2 : l0_2.length ≤ c0_2) (h : zcx.f k l0_0 l0_1 l0_2 = some r) :
  Calls Tryz.prog 23 #[.agg #[.slice A0_0 l0_0.length c0_0, .slice A0_1 l0_1.length c0_1, .slice A0_2 l0_2.length c0_2]] w fun e w' => ∃ v0_ : Value, e = .returned (v0_) ∧ Kd.R k50 50 w' w.heap.size (fun _ => True) v0_ r ∧ Below w.heap.size w w' := by
 have hu25 := Tryz.underlying25
 have hu50 := Tryz.underlying50
 have HR0_0 := zaa.mk hr0_0;have HC0_0 := zaa.mk hc0_0;clear hr0_0 hc0_0;have HR0_1 := zaa.mk hr0_1;have HC0_1 := zaa.mk hc0_1;clear hr0_1 hc0_1;have HR0_2 := zaa.mk hr0_2;have HC0_2 := zaa.mk hc0_2;clear hr0_2 hc0_2
 have HB := zaa.mk (Below.refl w.heap.size w)
 have H : ((zab.f k l0_0 l0_1 l0_2 (([(⟨(-1), 0, (l0_0.length : Int)⟩ : S50)] : List (S50)))).bind fun t301 => (some t301)) = some r := h
 clear h
 obtain ⟨y298, hy298⟩ : ∃ y_ : List (S50), y_ = (([(⟨(-1), 0, (l0_0.length : Int)⟩ : S50)] : List (S50))) := ⟨_, rfl⟩
 replace H : ((zab.f k l0_0 l0_1 l0_2 y298).bind fun t301 => (some t301)) = some r := by first | (rw [hy298]; with_reducible exact H) | (have H2_ := (Option.bind_some _ _).symm.trans H; rw [hy298]; with_reducible exact H2_) | (have H2_ := (Option.bind_some _ _).symm.trans H; with_reducible exact H2_) | with_reducible exact H | (rw [hy298]; exact H) | exact H
 have Ny298 := zaa.mk hy298;clear hy298;replace H := Option.bind_eq_some_iff.mp H
 obtain ⟨t301, A20, H⟩ := H
 replace H : (some t301) = some r := H
 have A2 := zaa.mk A20;clear A20;obtain rfl := Option.some.inj H
 go_enter Tryz.func23, Tryz.ntmps23
 go_wp2_with (first | ((with_reducible refine zat (N := 1) rfl ?_); refine Ybx 1 #[.slice A0_0 l0_0.length c0_0, .slice A0_1 l0_1.length c0_1, .slice A0_2 l0_2.length c0_2] 25 ?_; intro gb297 hg w3 hbox hb; obtain ⟨BK297, GW297, GE297, HB⟩ := Yb4 hbox hg hb Ybe; clear hb hbox hg; obtain ⟨hcz4_0, hfz4_0, hcz4_1, hfz4_1, hcz4_2, hfz4_2⟩ := Yc3 BK297.out) | ((with_reducible refine zat (N := 8) rfl ?_); refine Kd.R_lit k50 _ 50 ?hg (N := 8) ?hd (xs := ([(⟨(-1), 0, (l0_0.length : Int)⟩ : S50)] : List (S50))) (inner := [.int .i64 (-1), .int .i64 0, .int .i64 (l0_0.length : Int)]) (ok := fun _ => True) (okp := fun _ => True) ?hr ?hp (fun _ hk => hk) trivial (Below.refl _ _) (Nat.le_refl _) (by simp) ?_; (case hd => rfl); (case hg => rfl); (case hr => first | (go_simp; done) | (go_simp; rfl)); (case hp => exact (Reps.c3 (show Kd.M k50 _ _ _ (⟨(-1), 0, (l0_0.length : Int)⟩ : S50) [.int .i64 (-1), .int .i64 0, .int .i64 (l0_0.length : Int)] from (zhc _ _ _ (⟨(-1), 0, (l0_0.length : Int)⟩ : S50) )) (Reps.none _ _))); intro v299 w5 ho6 hb hg_ hnew_; clear hg_ hnew_; (first | rw [← Ny298.out] at ho6 | (simp only [Int.reduceToNat] at ho6; rw [← Ny298.out] at ho6)); have HO300 := zaa.mk (Kd.zb7 ho6 (za0 Yb_PItemAllx10_1)); replace BK297 := Ykb BK297 hb; replace HB := zaa.mk (zay Yb_PItemAllx10_1 hb); clear hb ho6; obtain ⟨Ao7, co7, eo7⟩ := Kd.zbn HO300.out; subst eo7) | ((with_reducible refine zbd (f := 21) rfl ?_); refine Ygl (some 9) Tryz.func21 #[.agg #[.slice A0_0 l0_0.length c0_0, .slice A0_1 l0_1.length c0_1, .slice A0_2 l0_2.length c0_2], .slice Ao7 y298.length co7] ?_; (with_reducible refine (zab.calls k _ _ l0_0 _ _ l0_1 _ _ l0_2 _ _ y298 t301 _ (Kd.zak HR0_0.out Ybe) HC0_0.out (Kd.zak HR0_1.out Ybe) HC0_1.out (Kd.zak HR0_2.out Ybe) HC0_2.out ?side7 ?side8 A2.out).mono ?_); (case side7 => repeat (first | exact (Kd.R_reads' HO300.out).2.2 | (with_reducible refine Kd.C_alloc ?_ _) | (with_reducible refine Kd.zbj ?_ _) | (with_reducible refine Kd.C_drew ?_))); (case side8 => exact (Kd.R_reads' HO300.out).2.1); rintro e w8 ⟨v302, rfl, ho0, hb⟩; refine ⟨_, rfl, ?_⟩; have HO303 := zaa.mk (Kd.zb7 (Kd.R_new' ho0 (Kd.R_lt (Yr HO300))) (za0 Yb_PItemAllx10_1)); replace HO300 := zaa.mk (Kd.R_elder' (Yr HO300) (Kd.zdz ho0) hb); replace BK297 := Ykb BK297 hb; replace HB := zaa.mk (zay Yb_PItemAllx10_1 hb); (try clear hb); (try clear hb2); (try clear hk); (try clear hi); (try clear ho0)))
 go_ret
 exact ⟨_, by first | rfl | (simp [errW_none, errW_some] <;> rfl) | (simp [*, errW_none, errW_some] <;> rfl), by (with_reducible repeat (first | apply Kd.R_alloc | apply Kd.zby | apply Kd.zbm)); exact Kd.za7 HO303.out (fun _ hk => trivial), Yb_PItemAllx10_1⟩
section
end
theorem Yb_PItemAllx11_0 {n : Nat} {w w' : World} (h : Below n w w' := by repeat (first | (with_reducible first | exact HB.out | apply za5 | apply zau | apply zar | refine za9 ?_ GE306.out) | exact HB.out)) : Below n w w' := h
def zbl.l0 : Nat → List (List (S50)) → List (S50) → Int → Option (Int)
 | 0, _, _, _ => none
 | k + 1, x0, x1, x5 => if x5 < (x0.length : Int) then (if 0 ≤ x5 then ((zav.f k (zcn x0 x5) x1).bind fun t305 => (if t305 = true then (some x5) else (zbl.l0 k x0 x1 (wrap64 (x5 + 1))))) else (none)) else (some x5)
def zbl.f (k : Nat) (l0 : List (List (S50))) (l1 : List (S50)) : Option (Int) := zbl.l0 k l0 l1 0
theorem zbl.calls (k : Nat) (A0 : Option Addr) (c0 : Nat) (l0 : List (List (S50))) (A1 : Option Addr) (c1 : Nat) (l1 : List (S50)) (r : Int) (w : World) (hr0 : Kd.C (Kd.slice 50 k50) w A0 l0.length l0) (hc0 : l0.length ≤ c0) (hr1 : Kd.C k50 w A1 l1.length l1) (hc1 : l1.length ≤ c1) (h : zbl.f k l0 l1 = some r) :
  Calls Tryz.prog 33 #[.slice A0 l0.length c0, .slice A1 l1.length c1] w fun e w' => e = .returned (.int .i64 r) ∧ zaw w w' := by
 have HR0 := zaa.mk hr0;have HC0 := zaa.mk hc0;clear hr0 hc0;have HR1 := zaa.mk hr1;have HC1 := zaa.mk hc1;clear hr1 hc1
 have H : (zbl.l0 k l0 l1 0) = some r := h
 clear h
 have H' := zaa.mk H
 clear H
 go_enter Tryz.func33, Tryz.ntmps33
 go_wp2
 go_loopg [5] k (fun kq v5 w' => ∃ (x5_1 : Int), v5 = .int .i64 x5_1 ∧ zaa (zbl.l0 kq l0 l1 x5_1 = some r) ∧ zaa (kq ≤ k) ∧ zaw w w')
 case atStart => exact ⟨(0), Yfs, H', ⟨Nat.le_refl _⟩, by repeat (first | exact zaw.refl _ | apply zaw.step)⟩
 case round =>
  clear H'
  obtain ⟨x5_1, rfl, HA, HK1, ⟨m1, rfl⟩⟩ := hrel
  cases gk with
  | zero => exact absurd HA.out (by simp [zbl.l0])
  | succ k1 =>
   have H := HA.out;clear HA
   simp only [zbl.l0] at H
   by_cases c3 : x5_1 < (l0.length : Int)
   ·rw [if_pos c3] at H
    have c3b0 := decide_eq_true c3
    clear c3
    by_cases c4 : 0 ≤ x5_1
    ·rw [if_pos c4] at H
     have c4b0 := decide_eq_true c4
     clear c4;replace H := Option.bind_eq_some_iff.mp H
     obtain ⟨t305, A50, H⟩ := H
     replace H : (if t305 = true then (some x5_1) else (zbl.l0 k1 l0 l1 (wrap64 (x5_1 + 1)))) = some r := H
     have A5 := zaa.mk A50;clear A50
     by_cases c6 : t305 = true
     ·subst c6
      have H1 : (some x5_1) = some r := by rw [if_pos rfl] at H; exact H
      clear H;have H := H1;clear H1;obtain rfl := Option.some.inj H
      have p304 : 0 ≤ (x5_1 : Int) := Yod
      have q304 : x5_1 < (l0.length : Int) := Yod
      obtain ⟨ad304, A304_0, c304_0, e304, hx304_0, hl304_0, hi304_0⟩ := at_L7 HR0.out x5_1 p304 q304
      cases e304
      have HR304_0 := zaa.mk hi304_0;have HC304_0 := zaa.mk hl304_0;clear hi304_0 hl304_0
      replace p304 := eq_true p304
      replace q304 := eq_true q304
      go_wp2_with (first | (go_at_call 19; (with_reducible refine (zav.calls k1 _ _ (zcn l0 x5_1) _ _ l1 true _ ?side1 HC304_0.out ?side3 HC1.out A5.out).mono ?_); (case side1 => repeat (first | exact HR304_0.out | (with_reducible refine Kd.C_alloc ?_ _) | (with_reducible refine Kd.zbj ?_ _) | (with_reducible refine Kd.C_drew ?_))); (case side3 => repeat (first | exact HR1.out | (with_reducible refine Kd.C_alloc ?_ _) | (with_reducible refine Kd.zbj ?_ _) | (with_reducible refine Kd.C_drew ?_))); rintro e w' ⟨rfl, ⟨nd, rfl⟩⟩))
      go_ret
      exact ⟨Yfs, by repeat (first | exact zaw.refl _ | apply zaw.step)⟩
     ·replace c6 := Bool.eq_false_iff.mpr c6
      subst c6
      have H1 : (zbl.l0 k1 l0 l1 (wrap64 (x5_1 + 1))) = some r := by rw [if_neg (show ¬ (false = true) by decide)] at H; exact H
      clear H;have H := H1;clear H1
      have H' := zaa.mk H
      clear H
      have p304 : 0 ≤ (x5_1 : Int) := Yod
      have q304 : x5_1 < (l0.length : Int) := Yod
      obtain ⟨ad304, A304_0, c304_0, e304, hx304_0, hl304_0, hi304_0⟩ := at_L7 HR0.out x5_1 p304 q304
      cases e304
      have HR304_0 := zaa.mk hi304_0;have HC304_0 := zaa.mk hl304_0;clear hi304_0 hl304_0
      replace p304 := eq_true p304
      replace q304 := eq_true q304
      go_wp2_with (first | (go_at_call 19; (with_reducible refine (zav.calls k1 _ _ (zcn l0 x5_1) _ _ l1 false _ ?side1 HC304_0.out ?side3 HC1.out A5.out).mono ?_); (case side1 => repeat (first | exact HR304_0.out | (with_reducible refine Kd.C_alloc ?_ _) | (with_reducible refine Kd.zbj ?_ _) | (with_reducible refine Kd.C_drew ?_))); (case side3 => repeat (first | exact HR1.out | (with_reducible refine Kd.C_alloc ?_ _) | (with_reducible refine Kd.zbj ?_ _) | (with_reducible refine Kd.C_drew ?_))); rintro e w' ⟨rfl, ⟨nd, rfl⟩⟩))
      go_roundg k1
      case measure => have := HK1.out; omega
      case rel => exact ⟨(wrap64 (x5_1 + 1)), Yfs, H', ⟨by have := HK1.out; omega⟩, by repeat (first | exact zaw.refl _ | apply zaw.step)⟩
    ·rw [if_neg c4] at H
     exact absurd H (by simp)
   ·rw [if_neg c3] at H
    have c3b0 := decide_eq_false c3
    clear c3;obtain rfl := Option.some.inj H;go_wp2;go_ret
    exact ⟨Yfs, by repeat (first | exact zaw.refl _ | apply zaw.step)⟩
mutual
def zan.l0 : Nat → List (List (S50)) → Int → List ByteArray → List ByteArray → List (S42) → Option ((List (List (S50))) × Int)
 | 0, _, _, _, _, _ => none
 | k + 1, x4, x5, x307000, x307001, x307002 => if x5 < (x4.length : Int) then (zan.l1 k x4 x5 0 x307000 x307001 x307002) else (some (x4, 0))
def zan.l1 : Nat → List (List (S50)) → Int → Int → List ByteArray → List ByteArray → List (S42) → Option ((List (List (S50))) × Int)
 | 0, _, _, _, _, _, _ => none
 | k + 1, x4, x5, x6, x307000, x307001, x307002 => if x6 < (wrap64 ((x307000.length : Int) + (x307001.length : Int))) then (if 0 ≤ x5 then (if x5 < (x4.length : Int) then ((zao.f k x307000 x307001 x307002 (zcn x4 x5) x6).bind fun t314 => (if (t314.length : Int) > 0 then ((zbl.f k x4 t314).bind fun t317 => (zan.j2 k x4 x5 x6 t314 (t317 == (x4.length : Int)) x307000 x307001 x307002)) else (zan.j2 k x4 x5 x6 t314 false x307000 x307001 x307002))) else (none)) else (none)) else (zan.l0 k x4 (wrap64 (x5 + 1)) x307000 x307001 x307002)
def zan.j2 : Nat → List (List (S50)) → Int → Int → List (S50) → Bool → List ByteArray → List ByteArray → List (S42) → Option ((List (List (S50))) × Int)
 | 0, _, _, _, _, _, _, _, _ => none
 | k + 1, x4, x5, x6, x7, x45, x307000, x307001, x307002 => if x45 = true then (if x4.length < 5864062014805 then ((some (x4 ++ [x7] : List (List (S50)))).bind fun y318 => (if (y318.length : Int) > 600 then (some (([] : List (List (S50))), 15)) else (zan.l1 k y318 x5 (wrap64 (x6 + 1)) x307000 x307001 x307002))) else (none)) else (if (x4.length : Int) > 600 then (some (([] : List (List (S50))), 15)) else (zan.l1 k x4 x5 (wrap64 (x6 + 1)) x307000 x307001 x307002))
end
def zan.f (k : Nat) (l0_0 : List ByteArray) (l0_1 : List ByteArray) (l0_2 : List (S42)) : Option ((List (List (S50))) × Int) := (zcx.f k l0_0 l0_1 l0_2).bind fun t307 => (zan.l0 k (([t307] : List (List (S50)))) 0 l0_0 l0_1 l0_2)
def zan.T8 : Bool × List (List Nat × List Nat) := (true, [([], []), ([], []), ([], []), ([1, 2], [1, 2]), ([3], [3]), ([], []), ([0, 4, 5], [0, 4, 5]), ([6, 6, 0, 1, 2, 3, 4, 5, 6], [6])])
def zan.B8 : List Nat := [0, 0, 0, 6, 14, 0, 63, 127]
theorem zan.tab8 : rtab .any (opsOf Tryz.f9 8) = zan.T8 := by kernel_rfl
theorem zan.bits8 : zdh zan.T8.2 zan.B8 = true := by kernel_rfl
theorem zan.calls (k : Nat) (A0_0 : Option Addr) (c0_0 : Nat) (l0_0 : List ByteArray) (A0_1 : Option Addr) (c0_1 : Nat) (l0_1 : List ByteArray) (A0_2 : Option Addr) (c0_2 : Nat) (l0_2 : List (S42)) (r1 : List (List (S50))) (r2 : Int) (w : World) (hr0_0 : Kd.C Kd.string w A0_0 l0_0.length l0_0) (hc0_0 : l0_0.length ≤ c0_0) (hr0_1 : Kd.C Kd.string w A0_1 l0_1.length l0_1) (hc0_1 : l0_1.length ≤ c0_1) (hr0_2 : Kd.C k42 w A0_2 l0_2.length l0_2) (hc0_2 : l0_2.length ≤ c0_2) (h : zan.f k l0_0 l0_1 l0_2 = some (r1, r2)) :
  Calls Tryz.prog 9 #[.agg #[.slice A0_0 l0_0.length c0_0, .slice A0_1 l0_1.length c0_1, .slice A0_2 l0_2.length c0_2]] w fun e w' => ∃ v0_ : Value, e = .returned (.tuple #[v0_, .int .i64 r2]) ∧ Kd.N (Kd.slice 50 k50) 45 w' w.heap.size (fun k_ => (w.heap.size ≤ k_)) v0_ r1 ∧ Below w.heap.size w w' := by
 have hu25 := Tryz.underlying25
 have HR0_0 := zaa.mk hr0_0;have HC0_0 := zaa.mk hc0_0;clear hr0_0 hc0_0;have HR0_1 := zaa.mk hr0_1;have HC0_1 := zaa.mk hc0_1;clear hr0_1 hc0_1;have HR0_2 := zaa.mk hr0_2;have HC0_2 := zaa.mk hc0_2;clear hr0_2 hc0_2
 have HB := zaa.mk (Below.refl w.heap.size w)
 have H : ((zcx.f k l0_0 l0_1 l0_2).bind fun t307 => (zan.l0 k (([t307] : List (List (S50)))) 0 l0_0 l0_1 l0_2)) = some (r1, r2) := h
 clear h;replace H := Option.bind_eq_some_iff.mp H
 obtain ⟨t307, A20, H⟩ := H
 replace H : (zan.l0 k (([t307] : List (List (S50)))) 0 l0_0 l0_1 l0_2) = some (r1, r2) := H
 have A2 := zaa.mk A20;clear A20
 obtain ⟨y310, hy310⟩ : ∃ y_ : List (List (S50)), y_ = (([t307] : List (List (S50)))) := ⟨_, rfl⟩
 replace H : (zan.l0 k y310 0 l0_0 l0_1 l0_2) = some (r1, r2) := by first | (rw [hy310]; with_reducible exact H) | (have H2_ := (Option.bind_some _ _).symm.trans H; rw [hy310]; with_reducible exact H2_) | (have H2_ := (Option.bind_some _ _).symm.trans H; with_reducible exact H2_) | with_reducible exact H | (rw [hy310]; exact H) | exact H
 have Ny310 := zaa.mk hy310;clear hy310
 have H' := zaa.mk H
 clear H
 go_enter Tryz.func9, Tryz.ntmps9
 go_wp2_with (first | ((with_reducible refine zat (N := 1) rfl ?_); (try (refine zaz (by rfl) ?_; dsimp only)); refine Ybx 1 #[.slice A0_0 l0_0.length c0_0, .slice A0_1 l0_1.length c0_1, .slice A0_2 l0_2.length c0_2] 25 ?_; intro gb306 hg w3 hbox hb; obtain ⟨BK306, GW306, GE306, HB⟩ := Yb4 hbox hg hb Ybe; clear hb hbox hg; obtain ⟨hcz4_0, hfz4_0, hcz4_1, hfz4_1, hcz4_2, hfz4_2⟩ := Yc3 BK306.out) | ((with_reducible refine zbd (f := 23) rfl ?_); refine Ygl (some 9) Tryz.func23 #[.agg #[.slice A0_0 l0_0.length c0_0, .slice A0_1 l0_1.length c0_1, .slice A0_2 l0_2.length c0_2]] ?_; (with_reducible refine (zcx.calls k _ _ l0_0 _ _ l0_1 _ _ l0_2 t307 _ (Kd.zak HR0_0.out Ybe) HC0_0.out (Kd.zak HR0_1.out Ybe) HC0_1.out (Kd.zak HR0_2.out Ybe) HC0_2.out A2.out).mono ?_); rintro e w5 ⟨v308, rfl, ho0, hb⟩; refine ⟨_, rfl, ?_⟩; have HO309 := zaa.mk (Kd.zb7 (Kd.R_newM (M := fun k_ => (w.heap.size ≤ k_)) ho0 (za0 Yb_PItemAllx11_0) (fun k_ h_ => h_)) (za0 Yb_PItemAllx11_0)); replace BK306 := Ykb BK306 hb; replace HB := zaa.mk (zay Yb_PItemAllx11_0 hb); (try clear hb); (try clear hb2); (try clear hk); (try clear hi); (try clear ho0); obtain ⟨Ao6, co6, eo6⟩ := Kd.zbn HO309.out; subst eo6) | ((with_reducible refine zat (N := 10) rfl ?_); (try (refine zaz (by rfl) ?_; dsimp only)); refine Kd.N_lit (Kd.slice 50 k50) _ 45 ?hg (N' := 10) ?hd (xs := ([t307] : List (List (S50)))) (inner := [.slice Ao6 t307.length co6]) (ok := (fun k_ => (w.heap.size ≤ k_) ∧ k_ ≠ gb306)) (okp := (fun k_ => (w.heap.size ≤ k_) ∧ k_ ≠ gb306)) ?hr ?hp (fun _ hk => hk) ((show ∀ k_, w5.heap.size ≤ k_ → (fun k_ => (w.heap.size ≤ k_) ∧ k_ ≠ gb306) k_ from fun k_ hk => ⟨(Nat.le_trans (za0 Yb_PItemAllx11_0) hk), Kd.zb4 (g := gb306) (o := .cells #[.slice A0_0 l0_0.length c0_0, .slice A0_1 l0_1.length c0_1, .slice A0_2 l0_2.length c0_2] 25 (0, 0)) (Yg BK306) k_ hk⟩) _ (Nat.le_refl _)) (Below.refl _ _) (Nat.le_refl _) (by simp) ?_; (case hd => rfl); (case hg => rfl); (case hr => first | (go_simp; done) | (go_simp; rfl)); (case hp => exact (Reps.one (show Kd.FK (Kd.slice 50 k50) _ _ t307 [.slice Ao6 t307.length co6] from (Kd.zg2 (Kd.R_reads' (Kd.za7 (ok' := (fun k_ => (w.heap.size ≤ k_) ∧ k_ ≠ gb306)) (Kd.zeb (HO309.out) BK306.out (by decide)) (fun k_ hk => ⟨hk.1.1, hk.2⟩))).2.1 (Kd.R_F (Kd.za7 (ok' := (fun k_ => (w.heap.size ≤ k_) ∧ k_ ≠ gb306)) (Kd.zeb (HO309.out) BK306.out (by decide)) (fun k_ hk => ⟨hk.1.1, hk.2⟩))))) (Reps.none _ _))); intro v311 w7 ho8 hb hg_ hnew_; clear hg_ hnew_; (first | rw [← Ny310.out] at ho8 | (simp only [Int.reduceToNat] at ho8; rw [← Ny310.out] at ho8)); have HO312 := zaa.mk (Kd.zfb ho8 (za0 Yb_PItemAllx11_0)); replace BK306 := Ykb BK306 hb; replace HB := zaa.mk (zay Yb_PItemAllx11_0 hb); clear HO309; clear hb ho8))
 go_loopg [4, 5] k (fun kq v4 v5 w' => ∃ (x4_1 : List (List (S50))) (x5_1 : Int), v5 = .int .i64 x5_1 ∧ zaa (zan.l0 kq x4_1 x5_1 l0_0 l0_1 l0_2 = some (r1, r2)) ∧ zaa (kq ≤ k) ∧ zaa (Kd.N (Kd.slice 50 k50) 45 w' w.heap.size (fun k_ => (w.heap.size ≤ k_) ∧ k_ ≠ gb306) v4 x4_1) ∧ zaa (w'.heap[gb306]? = some (.cells #[(.slice A0_0 l0_0.length c0_0), (.slice A0_1 l0_1.length c0_1), (.slice A0_2 l0_2.length c0_2)] 25 (0, 0))) ∧ zaa (Below w.heap.size w w'))
 case atStart => exact ⟨(y310), (0), Yfs, H', ⟨Nat.le_refl _⟩, ⟨by (with_reducible repeat (first | apply Kd.N_alloc | apply Kd.zcz | apply Kd.zc4)); exact HO312.out⟩, ⟨Yg BK306⟩, ⟨Yb_PItemAllx11_0⟩⟩
 case round =>
  clear H'
  obtain ⟨x4_1, x5_1, rfl, HA, HK1, HO_4, BK306, HB⟩ := hrel
  cases gk with
  | zero => exact absurd HA.out (by simp [zan.l0])
  | succ k1 =>
   have H := HA.out;clear HA
   simp only [zan.l0] at H
   by_cases c9 : x5_1 < (x4_1.length : Int)
   ·rw [if_pos c9] at H
    have c9b0 := decide_eq_true c9
    clear c9
    have H' := zaa.mk H
    clear H
    obtain ⟨Ao10, co10, eo10⟩ := Kd.zd9 HO_4.out
    subst eo10;go_wp2
    go_loopg [4, 6] k1 (fun kq v4 v6 w' => ∃ (x4_2 : List (List (S50))) (x6_2 : Int), v6 = .int .i64 x6_2 ∧ zaa (zan.l1 kq x4_2 x5_1 x6_2 l0_0 l0_1 l0_2 = some (r1, r2)) ∧ zaa (kq ≤ k1) ∧ zaa (Kd.N (Kd.slice 50 k50) 45 w' w.heap.size (fun k_ => (w.heap.size ≤ k_) ∧ k_ ≠ gb306) v4 x4_2) ∧ zaa (w'.heap[gb306]? = some (.cells #[(.slice A0_0 l0_0.length c0_0), (.slice A0_1 l0_1.length c0_1), (.slice A0_2 l0_2.length c0_2)] 25 (0, 0))) ∧ zaa (Below w.heap.size w w'))
    case atStart => exact ⟨(x4_1), (0), Yfs, H', ⟨Nat.le_refl _⟩, ⟨by (with_reducible repeat (first | apply Kd.N_alloc | apply Kd.zcz | apply Kd.zc4)); exact HO_4.out⟩, ⟨Yg BK306⟩, ⟨Yb_PItemAllx11_0⟩⟩
    case round =>
     clear H'
     obtain ⟨x4_2, x6_2, rfl, HA, HK2, HO_4, BK306, HB⟩ := hrel
     cases gk with
     | zero => exact absurd HA.out (by simp [zan.l1])
     | succ k2 =>
      have H := HA.out;clear HA
      simp only [zan.l1] at H
      by_cases c11 : x6_2 < (wrap64 ((l0_0.length : Int) + (l0_1.length : Int)))
      ·rw [if_pos c11] at H
       have c11b0 := decide_eq_true c11
       clear c11
       by_cases c12 : 0 ≤ x5_1
       ·rw [if_pos c12] at H
        have c12b0 := decide_eq_true c12
        clear c12
        by_cases c13 : x5_1 < (x4_2.length : Int)
        ·rw [if_pos c13] at H
         have c13b0 := decide_eq_true c13
         clear c13;replace H := Option.bind_eq_some_iff.mp H
         obtain ⟨t314, A140, H⟩ := H
         replace H : (if (t314.length : Int) > 0 then ((zbl.f k2 x4_2 t314).bind fun t317 => (zan.j2 k2 x4_2 x5_1 x6_2 t314 (t317 == (x4_2.length : Int)) l0_0 l0_1 l0_2)) else (zan.j2 k2 x4_2 x5_1 x6_2 t314 false l0_0 l0_1 l0_2)) = some (r1, r2) := H
         have A14 := zaa.mk A140;clear A140;have HC15 := zaa.mk H;clear H
         obtain ⟨hcz16_0, hfz16_0, hcz16_1, hfz16_1, hcz16_2, hfz16_2⟩ := Yc3 BK306.out
         try go_wp2
         replace HO_4 := zaa.mk (Kd.zc4 HO_4.out)
         replace BK306 := zaa.mk (zah BK306.out)
         replace HB := zaa.mk (zar HB.out)
         obtain ⟨Ao18, co18, eo18⟩ := Kd.zd9 HO_4.out
         (first | subst eo18 | (injection eo18 with f1_ f2_ f3_; have f4_ := f1_.symm; have f5_ := f3_.symm; clear f1_ f2_ f3_; subst f4_; subst f5_))
         have p313 : 0 ≤ (x5_1 : Int) := Yod
         have q313 : x5_1 < (x4_2.length : Int) := Yod
         obtain ⟨ad313, A313_0, c313_0, e313, hx313_0, hl313_0, hi313_0⟩ := at_L7 (Kd.N_reads' HO_4.out).2.2 x5_1 p313 q313
         cases e313
         obtain ⟨ce313, hce313, hMe313, hcc313⟩ := Kd.N_get HO_4.out [] x5_1 p313 (by first | exact q313 | exact of_decide_eq_true (by first | (with_reducible assumption) | assumption) | (have e_ := (Kd.N_reads' HO_4.out).1; omega))
         obtain ⟨ua313_0, uc313_0, rfl, ul313_0, ge313_0⟩ := Kd.zkh hMe313
         have hv313_0 := hcc313 0 _ rfl
         rw [Nat.add_zero, show ((Kd.slice 50 k50)).sz = 1 from rfl, Nat.mul_one] at hv313_0
         replace hv313_0 := Option.some.inj (hv313_0.symm.trans hx313_0)
         injection hv313_0 with hva_ hvn_ hvc_
         rw [hva_] at ge313_0
         rw [hvc_] at ul313_0
         have HL313_0 := zaa.mk (show Kd.V k50 50 _ w.heap.size _ _ (zcn x4_2 x5_1) from Kd.V_mk ul313_0 ge313_0)
         clear hva_ hvn_ hvc_ ge313_0 ul313_0;clear hcc313 hce313;have HR313_0 := zaa.mk hi313_0;have HC313_0 := zaa.mk hl313_0;clear hi313_0 hl313_0
         replace p313 := eq_true p313
         replace q313 := eq_true q313
         refine zbp (n := 8) (S := fun w' => w'.cell? ⟨gb306, 0, none⟩ = some (.slice A0_0 l0_0.length c0_0) ∧ w'.cell? ⟨gb306, 1, none⟩ = some (.slice A0_1 l0_1.length c0_1) ∧ w'.cell? ⟨gb306, 2, none⟩ = some (.slice A0_2 l0_2.length c0_2) ∧ w'.cell? (ad313.add (x5_1).toNat) = some (.slice A313_0 (zcn x4_2 x5_1).length c313_0)) (ds := []) (Ymk 8 0) (by kernel_rfl) rfl rfl ⟨(zac BK306.out 0).trans rfl, (zac BK306.out 1).trans rfl, (zac BK306.out 2).trans rfl, hx313_0⟩ (fun hHeld => ?_); refine zbw zan.tab8 zan.bits8 (fun HT_ HW_ => ?_)
         generalize wr.drew = w17 at HO_4 BK306 HB HL313_0 HR313_0 hx313_0 hHeld ⊢
         refine Ypt 1 29 8 2 HT_ ?_
         refine Ypt 2 30 8 6 HT_ ?_
         refine Ypt 3 31 8 14 HT_ ?_
         refine Ypt 5 33 8 46 HT_ ?_
         refine Ytt 0 28 8 47 HT_ HW_ hHeld ?_
         refine Ytt 4 32 8 63 HT_ HW_ hHeld ?_
         refine Yot 6 34 8 127 HT_ (fun K hK => ?_)
         refine Ygs Tryz.func22 #[.agg #[.slice A0_0 l0_0.length c0_0, .slice A0_1 l0_1.length c0_1, .slice A0_2 l0_2.length c0_2], .slice A313_0 (zcn x4_2 x5_1).length c313_0, .int .i64 x6_2] ?_
         with_reducible refine (zao.calls k2 _ _ l0_0 _ _ l0_1 _ _ l0_2 _ _ (zcn x4_2 x5_1) x6_2 t314 _ (Kd.zak HR0_0.out Ybe) HC0_0.out (Kd.zak HR0_1.out Ybe) HC0_1.out (Kd.zak HR0_2.out Ybe) HC0_2.out ?side7 HC313_0.out A14.out).mono ?_
         (case side7 => repeat (first | exact (by repeat (first | (with_reducible exact HR313_0.out) | (with_reducible refine Kd.C_alloc ?_ _) | (with_reducible refine Kd.zbj ?_ _) | (with_reducible refine Kd.C_drew ?_) | exact HR313_0.out)) | (with_reducible refine Kd.C_alloc ?_ _) | (with_reducible refine Kd.zbj ?_ _) | (with_reducible refine Kd.C_drew ?_)))
         rintro e w19 ⟨v315, rfl, ho0, hb⟩
         have HS3_ := (hb.cell (World.block_lt_of_cell? _ _ (hHeld.2.2.2))).trans (hHeld.2.2.2)
         refine ⟨_, rfl, ?_⟩
         replace HO_4 := zaa.mk (Kd.N_elder' (by (with_reducible repeat (first | apply Kd.N_alloc | apply Kd.zcz | apply Kd.zc4)); exact HO_4.out) (Kd.zdz ho0) hb)
         replace HL313_0 := zaa.mk (Kd.V_elder' (by (with_reducible repeat (first | apply Kd.V_alloc | apply Kd.V_drewN | apply Kd.V_drew)); exact HL313_0.out) (Kd.zdz ho0) hb)
         have HO316 := zaa.mk (Kd.zb7 (Kd.R_newM (M := fun k_ => (w.heap.size ≤ k_)) ho0 (za0 Yb_PItemAllx11_0) (fun k_ h_ => h_)) (za0 Yb_PItemAllx11_0))
         replace BK306 := Ykb BK306 hb
         replace HR313_0 := zaa.mk (Kd.zak (by repeat (first | (with_reducible exact HR313_0.out) | (with_reducible refine Kd.C_alloc ?_ _) | (with_reducible refine Kd.zbj ?_ _) | (with_reducible refine Kd.C_drew ?_) | exact HR313_0.out)) hb)
         replace HB := zaa.mk (zay Yb_PItemAllx11_0 hb)
         (try clear hb)
         (try clear hb2)
         (try clear hk)
         (try clear hi)
         (try clear ho0)
         refine hK.out _ _ ⟨(zac BK306.out 0).trans rfl, (zac BK306.out 1).trans rfl, (zac BK306.out 2).trans rfl, HS3_⟩ (fun hHeld => ?_)
         clear hK K
         refine Ynw 34 ?_
         refine Ypt 7 7 8 255 HT_ ?_
         refine zbs (zcc HT_.out (by kernel_rfl)) ?_
         go_upto_region 9 with (fail)
         go_cut [45] (fun v45 wc => ∃ (kq : Nat) (x45_14 : Bool), v45 = .bool x45_14 ∧ zaa (zan.j2 kq x4_2 x5_1 x6_2 t314 x45_14 l0_0 l0_1 l0_2 = some (r1, r2)) ∧ zaa (kq ≤ k2) ∧ zaa (Kd.N (Kd.slice 50 k50) 45 wc w.heap.size (fun k_ => (w.heap.size ≤ k_) ∧ some k_ ≠ (v315 : Value).ownBlock ∧ k_ ≠ gb306) (.slice (some ad313) x4_2.length co18) x4_2) ∧ zaa (Kd.R k50 50 wc w.heap.size (fun k_ => (w.heap.size ≤ k_)) v315 t314) ∧ zaa (wc.heap[gb306]? = some (.cells #[(.slice A0_0 l0_0.length c0_0), (.slice A0_1 l0_1.length c0_1), (.slice A0_2 l0_2.length c0_2)] 25 (0, 0))) ∧ zaa (Kd.C k50 wc A313_0 (zcn x4_2 x5_1).length (zcn x4_2 x5_1)) ∧ zaa (Below w.heap.size w wc))
         case first =>
          have H := HC15.out;clear HC15
          by_cases c20 : (t314.length : Int) > 0
          ·rw [if_pos c20] at H
           have c20b0 := decide_eq_true c20
           have c20b1 : decide (0 < t314.length) = true := decide_eq_true (by omega)
           clear c20
           (first | rw [c20b0] | (simp only [zd6, zej]; rw [c20b0]) | skip)
           replace H := Option.bind_eq_some_iff.mp H
           obtain ⟨t317, A210, H⟩ := H
           replace H : (zan.j2 k2 x4_2 x5_1 x6_2 t314 (t317 == (x4_2.length : Int)) l0_0 l0_1 l0_2) = some (r1, r2) := H
           have A21 := zaa.mk A210;clear A210
           have H' := zaa.mk H
           clear H
           obtain ⟨Ao22, co22, eo22⟩ := Kd.zbn HO316.out
           subst eo22
           go_wp2_with (first | (go_at_call 33; (with_reducible refine (zbl.calls k2 _ _ x4_2 _ _ t314 t317 _ ?side1 ?side2 ?side3 ?side4 A21.out).mono ?_); (case side1 => repeat (first | exact (Kd.N_reads' HO_4.out).2.2 | (with_reducible refine Kd.C_alloc ?_ _) | (with_reducible refine Kd.zbj ?_ _) | (with_reducible refine Kd.C_drew ?_))); (case side2 => exact (Kd.N_reads' HO_4.out).2.1); (case side3 => repeat (first | exact (Kd.R_reads' HO316.out).2.2 | (with_reducible refine Kd.C_alloc ?_ _) | (with_reducible refine Kd.zbj ?_ _) | (with_reducible refine Kd.C_drew ?_))); (case side4 => exact (Kd.R_reads' HO316.out).2.1); rintro e w' ⟨rfl, ⟨nd, rfl⟩⟩))
           go_meet
           case rel => exact ⟨_, ((t317 == (x4_2.length : Int))), Yfs, H', ⟨by have := HK1.out; have := HK2.out; first | omega | exact Nat.le_refl _⟩, ⟨by (with_reducible repeat (first | apply Kd.N_alloc | apply Kd.zcz | apply Kd.zc4)); exact Kd.zd8 HO_4.out (fun _ hk => ⟨hk.1.1, ⟨hk.2, hk.1.2⟩⟩)⟩, ⟨by (with_reducible repeat (first | apply Kd.R_alloc | apply Kd.zby | apply Kd.zbm)); exact Kd.za7 HO316.out (fun _ hk => hk.1)⟩, ⟨Yg BK306⟩, ⟨by repeat (first | (with_reducible exact HR313_0.out) | (with_reducible refine Kd.C_alloc ?_ _) | (with_reducible refine Kd.zbj ?_ _) | (with_reducible refine Kd.C_drew ?_) | exact HR313_0.out)⟩, ⟨Yb_PItemAllx11_0⟩⟩
          ·rw [if_neg c20] at H
           have c20b0 := decide_eq_false c20
           have c20b1 : decide (0 < t314.length) = false := decide_eq_false (by omega)
           clear c20
           (first | rw [c20b0] | (simp only [zd6, zej]; rw [c20b0]) | skip)
           have H' := zaa.mk H
           clear H
           obtain ⟨Ao23, co23, eo23⟩ := Kd.zbn HO316.out
           subst eo23;go_wp2
           go_meet
           case rel => exact ⟨_, (false), Yfs, H', ⟨by have := HK1.out; have := HK2.out; first | omega | exact Nat.le_refl _⟩, ⟨by (with_reducible repeat (first | apply Kd.N_alloc | apply Kd.zcz | apply Kd.zc4)); exact Kd.zd8 HO_4.out (fun _ hk => ⟨hk.1.1, ⟨hk.2, hk.1.2⟩⟩)⟩, ⟨by (with_reducible repeat (first | apply Kd.R_alloc | apply Kd.zby | apply Kd.zbm)); exact Kd.za7 HO316.out (fun _ hk => hk.1)⟩, ⟨Yg BK306⟩, ⟨by repeat (first | (with_reducible exact HR313_0.out) | (with_reducible refine Kd.C_alloc ?_ _) | (with_reducible refine Kd.zbj ?_ _) | (with_reducible refine Kd.C_drew ?_) | exact HR313_0.out)⟩, ⟨Yb_PItemAllx11_0⟩⟩
         case rest =>
          clear HC15
          obtain ⟨kq, x45_14, rfl, HA, HJ14, HO_4, HO_7, BK306, HR313_0, HB⟩ := hcut
          cases kq with
          | zero => exact absurd HA.out (by simp [zan.j2])
          | succ kj14 =>
           have H := HA.out;clear HA
           simp only [zan.j2] at H
           by_cases c24 : x45_14 = true
           ·subst c24
            have H1 : (if x4_2.length < 5864062014805 then ((some (x4_2 ++ [t314] : List (List (S50)))).bind fun y318 => (if (y318.length : Int) > 600 then (some (([] : List (List (S50))), 15)) else (zan.l1 kj14 y318 x5_1 (wrap64 (x6_2 + 1)) l0_0 l0_1 l0_2))) else (none)) = some (r1, r2) := by rw [if_pos rfl] at H; exact H
            clear H;have H := H1;clear H1
            by_cases c25 : x4_2.length < 5864062014805
            ·rw [if_pos c25] at H
             have LMc25 := zaa.mk c25;clear c25
             obtain ⟨y318, hy318⟩ : ∃ y_ : List (List (S50)), y_ = (x4_2 ++ [t314]) := ⟨_, rfl⟩
             replace H : (if (y318.length : Int) > 600 then (some (([] : List (List (S50))), 15)) else (zan.l1 kj14 y318 x5_1 (wrap64 (x6_2 + 1)) l0_0 l0_1 l0_2)) = some (r1, r2) := by first | (rw [hy318]; with_reducible exact H) | (have H2_ := (Option.bind_some _ _).symm.trans H; rw [hy318]; with_reducible exact H2_) | (have H2_ := (Option.bind_some _ _).symm.trans H; with_reducible exact H2_) | with_reducible exact H | (rw [hy318]; exact H) | exact H
             have Ny318 := zaa.mk hy318;clear hy318
             by_cases c26 : (y318.length : Int) > 600
             ·rw [if_pos c26] at H
              have c26b0 := decide_eq_true c26
              have c26b1 : decide (600 < y318.length) = true := decide_eq_true (by omega)
              clear c26
              simp only [Option.some.injEq, Prod.mk.injEq] at H
              obtain ⟨rfl, rfl⟩ := H
              obtain ⟨Ao28, co28, eo28⟩ := Kd.zbn HO_7.out
              subst eo28
              go_wp2_with (first | ((with_reducible refine zb5 (b := .append) (xs := #[.tmp 46, .tmp 48]) rfl ?_); (try (refine zaz (by rfl) ?_; dsimp only)); at_builtin; refine Kd.N_append (Kd.slice 50 k50) (w0 := w) w.heap.size rfl (.tmp 46) (.tmp 48) 28 45 (.slice none 0 0) 24 rfl Tryz.underlying28 info45 rfl (by decide) (by omega) (.slice (some ad313) x4_2.length co18) x4_2 t314 [.slice Ao28 t314.length co28] (fun k_ => (w.heap.size ≤ k_) ∧ k_ ≠ gb306) (fun k_ => ((fun k_ => (w.heap.size ≤ k_) ∧ k_ ≠ gb306)) k_ ∧ some k_ ≠ (.slice (some ad313) x4_2.length co18 : Value).ownBlock) rfl rfl ?aP (fun _ hk => hk) ?aF ?aO ?aB ?aS ?aL ?_; (case aP => exact (Kd.zg2 (Kd.R_reads' (Kd.za7 (ok' := (fun k_ => ((fun k_ => (w.heap.size ≤ k_) ∧ k_ ≠ gb306)) k_ ∧ some k_ ≠ (.slice (some ad313) x4_2.length co18 : Value).ownBlock)) (Kd.zeb (Kd.R_apart' (HO_7.out) (Kd.zif HO_4.out) (by decide)) BK306.out (by decide)) (fun k_ hk => ⟨⟨hk.1.1, hk.2⟩, hk.1.2⟩))).2.1 (Kd.R_F (Kd.za7 (ok' := (fun k_ => ((fun k_ => (w.heap.size ≤ k_) ∧ k_ ≠ gb306)) k_ ∧ some k_ ≠ (.slice (some ad313) x4_2.length co18 : Value).ownBlock)) (Kd.zeb (Kd.R_apart' (HO_7.out) (Kd.zif HO_4.out) (by decide)) BK306.out (by decide)) (fun k_ hk => ⟨⟨hk.1.1, hk.2⟩, hk.1.2⟩))))); (case aB => exact Yb_PItemAllx11_0); (case aF => exact (fun k_ hk => ⟨(Nat.le_trans (za0 Yb_PItemAllx11_0) hk), Kd.zb4 (g := gb306) (o := .cells #[.slice A0_0 l0_0.length c0_0, .slice A0_1 l0_1.length c0_1, .slice A0_2 l0_2.length c0_2] 25 (0, 0)) (Yg BK306) k_ hk⟩)); (case aO => exact (by (with_reducible repeat (first | apply Kd.N_alloc | apply Kd.zcz | apply Kd.zc4)); exact Kd.zd8 HO_4.out (fun _ hk => ⟨hk.1, hk.2.2⟩))); (case aS => exact (za0 Yb_PItemAllx11_0)); (case aL => have := LMc25.out; omega); intro v319 w27 ho hb hg hat; rw [← Ny318.out] at ho; replace BK306 := zaa.mk (zb9 (g := gb306) (o := .cells #[.slice A0_0 l0_0.length c0_0, .slice A0_1 l0_1.length c0_1, .slice A0_2 l0_2.length c0_2] 25 (0, 0)) (Yg BK306) hg (Kd.N_ne HO_4.out BK306.out (by decide))); replace HB := zaa.mk (hb); have HO320 := zaa.mk (ho); clear HO_4 HO_7; clear ho hb hg hat; obtain ⟨Ao29, co29, eo29⟩ := Kd.zd9 HO320.out; subst eo29))
              go_ret2
              exact ⟨_, by first | rfl | (simp [errW_none, errW_some] <;> rfl) | (simp [*, errW_none, errW_some] <;> rfl), by first | exact Kd.zdi _ _ _ _ _ | exact Kd.N_nil _ _ _ _ _ | exact Kd.V_nil _ _ _ _ _ | exact Kd.Q_nil _ _ _ _ _ | exact Kd.S_nil _ _ _ _ _, Yb_PItemAllx11_0⟩
             ·rw [if_neg c26] at H
              have c26b0 := decide_eq_false c26
              have c26b1 : decide (600 < y318.length) = false := decide_eq_false (by omega)
              clear c26
              have H' := zaa.mk H
              clear H
              obtain ⟨Ao31, co31, eo31⟩ := Kd.zbn HO_7.out
              subst eo31
              go_wp2_with (first | ((with_reducible refine zb5 (b := .append) (xs := #[.tmp 46, .tmp 48]) rfl ?_); (try (refine zaz (by rfl) ?_; dsimp only)); at_builtin; refine Kd.N_append (Kd.slice 50 k50) (w0 := w) w.heap.size rfl (.tmp 46) (.tmp 48) 28 45 (.slice none 0 0) 24 rfl Tryz.underlying28 info45 rfl (by decide) (by omega) (.slice (some ad313) x4_2.length co18) x4_2 t314 [.slice Ao31 t314.length co31] (fun k_ => (w.heap.size ≤ k_) ∧ k_ ≠ gb306) (fun k_ => ((fun k_ => (w.heap.size ≤ k_) ∧ k_ ≠ gb306)) k_ ∧ some k_ ≠ (.slice (some ad313) x4_2.length co18 : Value).ownBlock) rfl rfl ?aP (fun _ hk => hk) ?aF ?aO ?aB ?aS ?aL ?_; (case aP => exact (Kd.zg2 (Kd.R_reads' (Kd.za7 (ok' := (fun k_ => ((fun k_ => (w.heap.size ≤ k_) ∧ k_ ≠ gb306)) k_ ∧ some k_ ≠ (.slice (some ad313) x4_2.length co18 : Value).ownBlock)) (Kd.zeb (Kd.R_apart' (HO_7.out) (Kd.zif HO_4.out) (by decide)) BK306.out (by decide)) (fun k_ hk => ⟨⟨hk.1.1, hk.2⟩, hk.1.2⟩))).2.1 (Kd.R_F (Kd.za7 (ok' := (fun k_ => ((fun k_ => (w.heap.size ≤ k_) ∧ k_ ≠ gb306)) k_ ∧ some k_ ≠ (.slice (some ad313) x4_2.length co18 : Value).ownBlock)) (Kd.zeb (Kd.R_apart' (HO_7.out) (Kd.zif HO_4.out) (by decide)) BK306.out (by decide)) (fun k_ hk => ⟨⟨hk.1.1, hk.2⟩, hk.1.2⟩))))); (case aB => exact Yb_PItemAllx11_0); (case aF => exact (fun k_ hk => ⟨(Nat.le_trans (za0 Yb_PItemAllx11_0) hk), Kd.zb4 (g := gb306) (o := .cells #[.slice A0_0 l0_0.length c0_0, .slice A0_1 l0_1.length c0_1, .slice A0_2 l0_2.length c0_2] 25 (0, 0)) (Yg BK306) k_ hk⟩)); (case aO => exact (by (with_reducible repeat (first | apply Kd.N_alloc | apply Kd.zcz | apply Kd.zc4)); exact Kd.zd8 HO_4.out (fun _ hk => ⟨hk.1, hk.2.2⟩))); (case aS => exact (za0 Yb_PItemAllx11_0)); (case aL => have := LMc25.out; omega); intro v319 w30 ho hb hg hat; rw [← Ny318.out] at ho; replace BK306 := zaa.mk (zb9 (g := gb306) (o := .cells #[.slice A0_0 l0_0.length c0_0, .slice A0_1 l0_1.length c0_1, .slice A0_2 l0_2.length c0_2] 25 (0, 0)) (Yg BK306) hg (Kd.N_ne HO_4.out BK306.out (by decide))); replace HB := zaa.mk (hb); have HO320 := zaa.mk (ho); clear HO_4 HO_7; clear ho hb hg hat; obtain ⟨Ao32, co32, eo32⟩ := Kd.zd9 HO320.out; subst eo32))
              go_roundg kj14
              case measure => have := HK1.out; have := HK2.out; have := HJ14.out; omega
              case rel => exact ⟨(y318), (wrap64 (x6_2 + 1)), Yfs, H', ⟨by have := HK1.out; have := HK2.out; have := HJ14.out; omega⟩, ⟨by (with_reducible repeat (first | apply Kd.N_alloc | apply Kd.zcz | apply Kd.zc4)); exact HO320.out⟩, ⟨Yg BK306⟩, ⟨Yb_PItemAllx11_0⟩⟩
            ·rw [if_neg c25] at H
             exact absurd H (by simp)
           ·replace c24 := Bool.eq_false_iff.mpr c24
            subst c24
            have H1 : (if (x4_2.length : Int) > 600 then (some (([] : List (List (S50))), 15)) else (zan.l1 kj14 x4_2 x5_1 (wrap64 (x6_2 + 1)) l0_0 l0_1 l0_2)) = some (r1, r2) := by rw [if_neg (show ¬ (false = true) by decide)] at H; exact H
            clear H;have H := H1;clear H1
            by_cases c33 : (x4_2.length : Int) > 600
            ·rw [if_pos c33] at H
             have c33b0 := decide_eq_true c33
             have c33b1 : decide (600 < x4_2.length) = true := decide_eq_true (by omega)
             clear c33
             simp only [Option.some.injEq, Prod.mk.injEq] at H
             obtain ⟨rfl, rfl⟩ := H
             go_wp2
             go_ret2
             exact ⟨_, by first | rfl | (simp [errW_none, errW_some] <;> rfl) | (simp [*, errW_none, errW_some] <;> rfl), by first | exact Kd.zdi _ _ _ _ _ | exact Kd.N_nil _ _ _ _ _ | exact Kd.V_nil _ _ _ _ _ | exact Kd.Q_nil _ _ _ _ _ | exact Kd.S_nil _ _ _ _ _, Yb_PItemAllx11_0⟩
            ·rw [if_neg c33] at H
             have c33b0 := decide_eq_false c33
             have c33b1 : decide (600 < x4_2.length) = false := decide_eq_false (by omega)
             clear c33
             have H' := zaa.mk H
             clear H;go_wp2
             go_roundg kj14
             case measure => have := HK1.out; have := HK2.out; have := HJ14.out; omega
             case rel => exact ⟨(x4_2), (wrap64 (x6_2 + 1)), Yfs, H', ⟨by have := HK1.out; have := HK2.out; have := HJ14.out; omega⟩, ⟨by (with_reducible repeat (first | apply Kd.N_alloc | apply Kd.zcz | apply Kd.zc4)); exact Kd.zd8 HO_4.out (fun _ hk => ⟨hk.1, hk.2.2⟩)⟩, ⟨Yg BK306⟩, ⟨Yb_PItemAllx11_0⟩⟩
        ·rw [if_neg c13] at H
         exact absurd H (by simp)
       ·rw [if_neg c12] at H
        exact absurd H (by simp)
      ·rw [if_neg c11] at H
       have c11b0 := decide_eq_false c11
       clear c11
       have H' := zaa.mk H
       clear H
       obtain ⟨hcz34_0, hfz34_0, hcz34_1, hfz34_1, hcz34_2, hfz34_2⟩ := Yc3 BK306.out
       go_wp2
       go_roundg k2
       case measure => have := HK1.out; have := HK2.out; omega
       case rel => exact ⟨(x4_2), (wrap64 (x5_1 + 1)), Yfs, H', ⟨by have := HK1.out; have := HK2.out; omega⟩, ⟨by (with_reducible repeat (first | apply Kd.N_alloc | apply Kd.zcz | apply Kd.zc4)); exact HO_4.out⟩, ⟨Yg BK306⟩, ⟨Yb_PItemAllx11_0⟩⟩
   ·rw [if_neg c9] at H
    have c9b0 := decide_eq_false c9
    clear c9
    simp only [Option.some.injEq, Prod.mk.injEq] at H
    obtain ⟨rfl, rfl⟩ := H
    obtain ⟨Ao35, co35, eo35⟩ := Kd.zd9 HO_4.out
    subst eo35;go_wp2
    go_ret2
    exact ⟨_, by first | rfl | (simp [errW_none, errW_some] <;> rfl) | (simp [*, errW_none, errW_some] <;> rfl), by (with_reducible repeat (first | apply Kd.N_alloc | apply Kd.zcz | apply Kd.zc4)); exact Kd.zd8 HO_4.out (fun _ hk => hk.1), Yb_PItemAllx11_0⟩
def zbc.l0 : Nat → List (List (S50)) → List (List (S50)) → Int → Option (Bool)
 | 0, _, _, _ => none
 | k + 1, x0, x1, x5 => if x5 < (x0.length : Int) then (if 0 ≤ x5 then (if x5 < (x1.length : Int) then ((zav.f k (zcn x0 x5) (zcn x1 x5)).bind fun t323 => (if t323 = true then (zbc.l0 k x0 x1 (wrap64 (x5 + 1))) else (some false))) else (none)) else (none)) else (some true)
def zbc.f (k : Nat) (l0 : List (List (S50))) (l1 : List (List (S50))) : Option (Bool) := if (l0.length : Int) = (l1.length : Int) then (zbc.l0 k l0 l1 0) else (some false)
theorem zbc.calls (k : Nat) (A0 : Option Addr) (c0 : Nat) (l0 : List (List (S50))) (A1 : Option Addr) (c1 : Nat) (l1 : List (List (S50))) (r : Bool) (w : World) (hr0 : Kd.C (Kd.slice 50 k50) w A0 l0.length l0) (hc0 : l0.length ≤ c0) (hr1 : Kd.C (Kd.slice 50 k50) w A1 l1.length l1) (hc1 : l1.length ≤ c1) (h : zbc.f k l0 l1 = some r) :
  Calls Tryz.prog 10 #[.slice A0 l0.length c0, .slice A1 l1.length c1] w fun e w' => e = .returned (.bool r) ∧ zaw w w' := by
 have HR0 := zaa.mk hr0;have HC0 := zaa.mk hc0;clear hr0 hc0;have HR1 := zaa.mk hr1;have HC1 := zaa.mk hc1;clear hr1 hc1
 have H : (if (l0.length : Int) = (l1.length : Int) then (zbc.l0 k l0 l1 0) else (some false)) = some r := h
 clear h
 by_cases c3 : (l0.length : Int) = (l1.length : Int)
 ·rw [if_pos c3] at H
  have c3b0 : ((l0.length : Int) == (l1.length : Int)) = true := beq_iff_eq.mpr c3
  have c3b1 : ((l0.length : Int) != (l1.length : Int)) = false := bne_eq_false_iff_eq.mpr c3
  have c3b2 : (l0.length == l1.length) = true := by first | simpa using c3 | (simp at c3 ⊢; omega)
  clear c3
  have H' := zaa.mk H
  clear H
  go_enter Tryz.func10, Tryz.ntmps10
  go_wp2
  repeat (go_quiet (fail); try go_wp2)
  go_loopg [5] k (fun kq v5 w' => ∃ (x5_1 : Int), v5 = .int .i64 x5_1 ∧ zaa (zbc.l0 kq l0 l1 x5_1 = some r) ∧ zaa (kq ≤ k) ∧ zaw w w')
  case atStart => exact ⟨(0), Yfs, H', ⟨Nat.le_refl _⟩, by repeat (first | exact zaw.refl _ | apply zaw.step)⟩
  case round =>
   clear H'
   obtain ⟨x5_1, rfl, HA, HK1, ⟨m1, rfl⟩⟩ := hrel
   cases gk with
   | zero => exact absurd HA.out (by simp [zbc.l0])
   | succ k1 =>
    have H := HA.out;clear HA
    simp only [zbc.l0] at H
    by_cases c4 : x5_1 < (l0.length : Int)
    ·rw [if_pos c4] at H
     have c4b0 := decide_eq_true c4
     clear c4
     by_cases c5 : 0 ≤ x5_1
     ·rw [if_pos c5] at H
      have c5b0 := decide_eq_true c5
      clear c5
      by_cases c6 : x5_1 < (l1.length : Int)
      ·rw [if_pos c6] at H
       have c6b0 := decide_eq_true c6
       clear c6;replace H := Option.bind_eq_some_iff.mp H
       obtain ⟨t323, A70, H⟩ := H
       replace H : (if t323 = true then (zbc.l0 k1 l0 l1 (wrap64 (x5_1 + 1))) else (some false)) = some r := H
       have A7 := zaa.mk A70;clear A70
       by_cases c8 : t323 = true
       ·subst c8
        have H1 : (zbc.l0 k1 l0 l1 (wrap64 (x5_1 + 1))) = some r := by rw [if_pos rfl] at H; exact H
        clear H;have H := H1;clear H1
        have H' := zaa.mk H
        clear H
        have p321 : 0 ≤ (x5_1 : Int) := Yod
        have q321 : x5_1 < (l0.length : Int) := Yod
        obtain ⟨ad321, A321_0, c321_0, e321, hx321_0, hl321_0, hi321_0⟩ := at_L7 HR0.out x5_1 p321 q321
        cases e321
        have HR321_0 := zaa.mk hi321_0;have HC321_0 := zaa.mk hl321_0;clear hi321_0 hl321_0
        replace p321 := eq_true p321
        replace q321 := eq_true q321
        have p322 : 0 ≤ (x5_1 : Int) := Yod
        have q322 : x5_1 < (l1.length : Int) := Yod
        obtain ⟨ad322, A322_0, c322_0, e322, hx322_0, hl322_0, hi322_0⟩ := at_L7 HR1.out x5_1 p322 q322
        cases e322
        have HR322_0 := zaa.mk hi322_0;have HC322_0 := zaa.mk hl322_0;clear hi322_0 hl322_0
        replace p322 := eq_true p322
        replace q322 := eq_true q322
        go_wp2_with (first | (go_at_call 19; (with_reducible refine (zav.calls k1 _ _ (zcn l0 x5_1) _ _ (zcn l1 x5_1) true _ ?side1 HC321_0.out ?side3 HC322_0.out A7.out).mono ?_); (case side1 => repeat (first | exact HR321_0.out | (with_reducible refine Kd.C_alloc ?_ _) | (with_reducible refine Kd.zbj ?_ _) | (with_reducible refine Kd.C_drew ?_))); (case side3 => repeat (first | exact HR322_0.out | (with_reducible refine Kd.C_alloc ?_ _) | (with_reducible refine Kd.zbj ?_ _) | (with_reducible refine Kd.C_drew ?_))); rintro e w' ⟨rfl, ⟨nd, rfl⟩⟩; (try first | exact ⟨rfl, _, World.drewN_drewN _ _ _⟩ | exact ⟨rfl, _, Ydd⟩)))
        repeat (go_quiet (first | (go_at_call 19; (with_reducible refine (zav.calls k1 _ _ (zcn l0 x5_1) _ _ (zcn l1 x5_1) true _ ?side1 HC321_0.out ?side3 HC322_0.out A7.out).mono ?_); (case side1 => repeat (first | exact HR321_0.out | (with_reducible refine Kd.C_alloc ?_ _) | (with_reducible refine Kd.zbj ?_ _) | (with_reducible refine Kd.C_drew ?_))); (case side3 => repeat (first | exact HR322_0.out | (with_reducible refine Kd.C_alloc ?_ _) | (with_reducible refine Kd.zbj ?_ _) | (with_reducible refine Kd.C_drew ?_))); rintro e w' ⟨rfl, ⟨nd, rfl⟩⟩; (try first | exact ⟨rfl, _, World.drewN_drewN _ _ _⟩ | exact ⟨rfl, _, Ydd⟩))); try go_wp2_with (first | (go_at_call 19; (with_reducible refine (zav.calls k1 _ _ (zcn l0 x5_1) _ _ (zcn l1 x5_1) true _ ?side1 HC321_0.out ?side3 HC322_0.out A7.out).mono ?_); (case side1 => repeat (first | exact HR321_0.out | (with_reducible refine Kd.C_alloc ?_ _) | (with_reducible refine Kd.zbj ?_ _) | (with_reducible refine Kd.C_drew ?_))); (case side3 => repeat (first | exact HR322_0.out | (with_reducible refine Kd.C_alloc ?_ _) | (with_reducible refine Kd.zbj ?_ _) | (with_reducible refine Kd.C_drew ?_))); rintro e w' ⟨rfl, ⟨nd, rfl⟩⟩; (try first | exact ⟨rfl, _, World.drewN_drewN _ _ _⟩ | exact ⟨rfl, _, Ydd⟩))))
        go_roundg k1
        case measure => have := HK1.out; omega
        case rel => exact ⟨(wrap64 (x5_1 + 1)), Yfs, H', ⟨by have := HK1.out; omega⟩, by repeat (first | exact zaw.refl _ | apply zaw.step)⟩
       ·replace c8 := Bool.eq_false_iff.mpr c8
        subst c8
        have H1 : (some false) = some r := by rw [if_neg (show ¬ (false = true) by decide)] at H; exact H
        clear H;have H := H1;clear H1;obtain rfl := Option.some.inj H
        have p321 : 0 ≤ (x5_1 : Int) := Yod
        have q321 : x5_1 < (l0.length : Int) := Yod
        obtain ⟨ad321, A321_0, c321_0, e321, hx321_0, hl321_0, hi321_0⟩ := at_L7 HR0.out x5_1 p321 q321
        cases e321
        have HR321_0 := zaa.mk hi321_0;have HC321_0 := zaa.mk hl321_0;clear hi321_0 hl321_0
        replace p321 := eq_true p321
        replace q321 := eq_true q321
        have p322 : 0 ≤ (x5_1 : Int) := Yod
        have q322 : x5_1 < (l1.length : Int) := Yod
        obtain ⟨ad322, A322_0, c322_0, e322, hx322_0, hl322_0, hi322_0⟩ := at_L7 HR1.out x5_1 p322 q322
        cases e322
        have HR322_0 := zaa.mk hi322_0;have HC322_0 := zaa.mk hl322_0;clear hi322_0 hl322_0
        replace p322 := eq_true p322
        replace q322 := eq_true q322
        go_wp2_with (first | (go_at_call 19; (with_reducible refine (zav.calls k1 _ _ (zcn l0 x5_1) _ _ (zcn l1 x5_1) false _ ?side1 HC321_0.out ?side3 HC322_0.out A7.out).mono ?_); (case side1 => repeat (first | exact HR321_0.out | (with_reducible refine Kd.C_alloc ?_ _) | (with_reducible refine Kd.zbj ?_ _) | (with_reducible refine Kd.C_drew ?_))); (case side3 => repeat (first | exact HR322_0.out | (with_reducible refine Kd.C_alloc ?_ _) | (with_reducible refine Kd.zbj ?_ _) | (with_reducible refine Kd.C_drew ?_))); rintro e w' ⟨rfl, ⟨nd, rfl⟩⟩; (try first | exact ⟨rfl, _, World.drewN_drewN _ _ _⟩ | exact ⟨rfl, _, Ydd⟩)))
        repeat (go_quiet (first | (go_at_call 19; (with_reducible refine (zav.calls k1 _ _ (zcn l0 x5_1) _ _ (zcn l1 x5_1) false _ ?side1 HC321_0.out ?side3 HC322_0.out A7.out).mono ?_); (case side1 => repeat (first | exact HR321_0.out | (with_reducible refine Kd.C_alloc ?_ _) | (with_reducible refine Kd.zbj ?_ _) | (with_reducible refine Kd.C_drew ?_))); (case side3 => repeat (first | exact HR322_0.out | (with_reducible refine Kd.C_alloc ?_ _) | (with_reducible refine Kd.zbj ?_ _) | (with_reducible refine Kd.C_drew ?_))); rintro e w' ⟨rfl, ⟨nd, rfl⟩⟩; (try first | exact ⟨rfl, _, World.drewN_drewN _ _ _⟩ | exact ⟨rfl, _, Ydd⟩))); try go_wp2_with (first | (go_at_call 19; (with_reducible refine (zav.calls k1 _ _ (zcn l0 x5_1) _ _ (zcn l1 x5_1) false _ ?side1 HC321_0.out ?side3 HC322_0.out A7.out).mono ?_); (case side1 => repeat (first | exact HR321_0.out | (with_reducible refine Kd.C_alloc ?_ _) | (with_reducible refine Kd.zbj ?_ _) | (with_reducible refine Kd.C_drew ?_))); (case side3 => repeat (first | exact HR322_0.out | (with_reducible refine Kd.C_alloc ?_ _) | (with_reducible refine Kd.zbj ?_ _) | (with_reducible refine Kd.C_drew ?_))); rintro e w' ⟨rfl, ⟨nd, rfl⟩⟩; (try first | exact ⟨rfl, _, World.drewN_drewN _ _ _⟩ | exact ⟨rfl, _, Ydd⟩))))
        go_ret
        exact ⟨Yfs, by repeat (first | exact zaw.refl _ | apply zaw.step)⟩
      ·rw [if_neg c6] at H
       exact absurd H (by simp)
     ·rw [if_neg c5] at H
      exact absurd H (by simp)
    ·rw [if_neg c4] at H
     have c4b0 := decide_eq_false c4
     clear c4;obtain rfl := Option.some.inj H;go_wp2
     repeat (go_quiet (fail); try go_wp2)
     go_ret
     exact ⟨Yfs, by repeat (first | exact zaw.refl _ | apply zaw.step)⟩
 ·rw [if_neg c3] at H
  have c3b0 : ((l0.length : Int) == (l1.length : Int)) = false := beq_eq_false_iff_ne.mpr c3
  have c3b1 : ((l0.length : Int) != (l1.length : Int)) = true := bne_iff_ne.mpr c3
  have c3b2 : (l0.length == l1.length) = false := by first | simpa using c3 | (simp at c3 ⊢; omega)
  obtain rfl := Option.some.inj H
  go_enter Tryz.func10, Tryz.ntmps10
  go_wp2
  repeat (go_quiet (fail); try go_wp2)
  go_ret
  exact ⟨Yfs, by repeat (first | exact zaw.refl _ | apply zaw.step)⟩
end Go.Proofs.ZZ.PItemAll
end
section
namespace Go.Proofs.ZZ.PItemAll
open Go.RowKit Go.Proofs.ZW.PrintWords Go.Proofs.ZW.PrintLast Go.Proofs.ZW.PrintMore
section
end
theorem Yb_PItemAllx12_0 {n : Nat} {w w' : World} (h : Below n w w' := by repeat (first | (with_reducible first | exact HB.out | apply za5 | apply zau | apply zar | refine za9 ?_ GE324.out) | exact HB.out)) : Below n w w' := h
def zcf.f (k : Nat) (l0_0 : List ByteArray) (l0_1 : List ByteArray) (l0_2 : List (S42)) : Option (Bool) := (zci.f k l0_0 l0_1 l0_2).bind fun t325 => (if t325 = true then ((zdl.f k l0_0 l0_1 l0_2).bind fun bt327 => ((zan.f k l0_0 l0_1 l0_2).bind fun bt331 => ((zbc.f k bt327.1 bt331.1).bind fun t335 => (if t335 = true then (if bt327.2 = bt331.2 then ((zbq.f).bind fun t336 => (some t336)) else (some false)) else (some false))))) else ((zbq.f).bind fun t326 => (some t326)))
theorem zcf.calls (k : Nat) (A0_0 : Option Addr) (c0_0 : Nat) (l0_0 : List ByteArray) (A0_1 : Option Addr) (c0_1 : Nat) (l0_1 : List ByteArray) (A0_2 : Option Addr) (c0_2 : Nat) (l0_2 : List (S42)) (r : Bool) (w : World) (hr0_0 : Kd.C Kd.string w A0_0 l0_0.length l0_0) (hc0_0 : l0_0.length ≤ c0_0) (hr0_1 : Kd.C Kd.string w A0_1 l0_1.length l0_1) (hc0_1 : l0_1.length ≤ c0_1) (hr0_2 : Kd.C k42 w A0_2 l0_2.length l0_2) (hc0_2 : l0_2.length ≤ c0_2) (h : zcf.f k l0_0 l0_1 l0_2 = some r) :
  Calls Tryz.prog 3 #[.agg #[.slice A0_0 l0_0.length c0_0, .slice A0_1 l0_1.length c0_1, .slice A0_2 l0_2.length c0_2]] w fun e w' => e = .returned (.bool r) ∧ Below w.heap.size w w' := by
 have hu25 := Tryz.underlying25
 have HR0_0 := zaa.mk hr0_0;have HC0_0 := zaa.mk hc0_0;clear hr0_0 hc0_0;have HR0_1 := zaa.mk hr0_1;have HC0_1 := zaa.mk hc0_1;clear hr0_1 hc0_1;have HR0_2 := zaa.mk hr0_2;have HC0_2 := zaa.mk hc0_2;clear hr0_2 hc0_2
 have HB := zaa.mk (Below.refl w.heap.size w)
 have H : ((zci.f k l0_0 l0_1 l0_2).bind fun t325 => (if t325 = true then ((zdl.f k l0_0 l0_1 l0_2).bind fun bt327 => ((zan.f k l0_0 l0_1 l0_2).bind fun bt331 => ((zbc.f k bt327.1 bt331.1).bind fun t335 => (if t335 = true then (if bt327.2 = bt331.2 then ((zbq.f).bind fun t336 => (some t336)) else (some false)) else (some false))))) else ((zbq.f).bind fun t326 => (some t326)))) = some r := h
 clear h;replace H := Option.bind_eq_some_iff.mp H
 obtain ⟨t325, A20, H⟩ := H
 replace H : (if t325 = true then ((zdl.f k l0_0 l0_1 l0_2).bind fun bt327 => ((zan.f k l0_0 l0_1 l0_2).bind fun bt331 => ((zbc.f k bt327.1 bt331.1).bind fun t335 => (if t335 = true then (if bt327.2 = bt331.2 then ((zbq.f).bind fun t336 => (some t336)) else (some false)) else (some false))))) else ((zbq.f).bind fun t326 => (some t326))) = some r := H
 have A2 := zaa.mk A20;clear A20
 by_cases c3 : t325 = true
 ·subst c3
  have H1 : ((zdl.f k l0_0 l0_1 l0_2).bind fun bt327 => ((zan.f k l0_0 l0_1 l0_2).bind fun bt331 => ((zbc.f k bt327.1 bt331.1).bind fun t335 => (if t335 = true then (if bt327.2 = bt331.2 then ((zbq.f).bind fun t336 => (some t336)) else (some false)) else (some false))))) = some r := by rw [if_pos rfl] at H; exact H
  clear H;have H := H1;clear H1;replace H := Option.bind_eq_some_iff.mp H
  obtain ⟨⟨t327, t330⟩, A40, H⟩ := H
  replace H : ((zan.f k l0_0 l0_1 l0_2).bind fun bt331 => ((zbc.f k t327 bt331.1).bind fun t335 => (if t335 = true then (if t330 = bt331.2 then ((zbq.f).bind fun t336 => (some t336)) else (some false)) else (some false)))) = some r := H
  have A4 := zaa.mk A40;clear A40;replace H := Option.bind_eq_some_iff.mp H
  obtain ⟨⟨t331, t334⟩, A50, H⟩ := H
  replace H : ((zbc.f k t327 t331).bind fun t335 => (if t335 = true then (if t330 = t334 then ((zbq.f).bind fun t336 => (some t336)) else (some false)) else (some false))) = some r := H
  have A5 := zaa.mk A50;clear A50;replace H := Option.bind_eq_some_iff.mp H
  obtain ⟨t335, A60, H⟩ := H
  replace H : (if t335 = true then (if t330 = t334 then ((zbq.f).bind fun t336 => (some t336)) else (some false)) else (some false)) = some r := H
  have A6 := zaa.mk A60;clear A60
  by_cases c7 : t335 = true
  ·subst c7
   have H1 : (if t330 = t334 then ((zbq.f).bind fun t336 => (some t336)) else (some false)) = some r := by rw [if_pos rfl] at H; exact H
   clear H;have H := H1;clear H1
   by_cases c8 : t330 = t334
   ·rw [if_pos c8] at H
    have c8b0 : (t330 == t334) = true := beq_iff_eq.mpr c8
    have c8b1 : (t330 != t334) = false := bne_eq_false_iff_eq.mpr c8
    clear c8;replace H := Option.bind_eq_some_iff.mp H
    obtain ⟨t336, A90, H⟩ := H
    replace H : (some t336) = some r := H
    have A9 := zaa.mk A90;clear A90;obtain rfl := Option.some.inj H
    go_enter Tryz.func3, Tryz.ntmps3
    go_wp2_with (first | ((with_reducible refine zat (N := 1) rfl ?_); refine Ybx 1 #[.slice A0_0 l0_0.length c0_0, .slice A0_1 l0_1.length c0_1, .slice A0_2 l0_2.length c0_2] 25 ?_; intro gb324 hg w10 hbox hb; obtain ⟨BK324, GW324, GE324, HB⟩ := Yb4 hbox hg hb Ybe; clear hb hbox hg; obtain ⟨hcz11_0, hfz11_0, hcz11_1, hfz11_1, hcz11_2, hfz11_2⟩ := Yc3 BK324.out) | ((with_reducible refine zbd (f := 6) rfl ?_); refine Ygl (some 8) Tryz.func6 #[.agg #[.slice A0_0 l0_0.length c0_0, .slice A0_1 l0_1.length c0_1, .slice A0_2 l0_2.length c0_2]] ?_; (with_reducible refine (zci.calls k _ _ l0_0 _ _ l0_1 _ _ l0_2 true _ (Kd.zak HR0_0.out Ybe) HC0_0.out (Kd.zak HR0_1.out Ybe) HC0_1.out (Kd.zak HR0_2.out Ybe) HC0_2.out A2.out).mono ?_); rintro e w12 ⟨rfl, hb⟩; refine ⟨_, rfl, ?_⟩; replace BK324 := Ykb BK324 hb; replace HB := zaa.mk (zay Yb_PItemAllx12_0 hb); (try clear hb); (try clear hb2); (try clear hk); (try clear hi); obtain ⟨hcz13_0, hfz13_0, hcz13_1, hfz13_1, hcz13_2, hfz13_2⟩ := Yc3 BK324.out) | ((with_reducible refine zbd (f := 8) rfl ?_); refine Ygl (some 13) Tryz.func8 #[.agg #[.slice A0_0 l0_0.length c0_0, .slice A0_1 l0_1.length c0_1, .slice A0_2 l0_2.length c0_2]] ?_; (with_reducible refine (zdl.calls k _ _ l0_0 _ _ l0_1 _ _ l0_2 t327 t330 _ (Kd.zak HR0_0.out Ybe) HC0_0.out (Kd.zak HR0_1.out Ybe) HC0_1.out (Kd.zak HR0_2.out Ybe) HC0_2.out A4.out).mono ?_); rintro e w14 ⟨v328, rfl, ho0, hb⟩; refine ⟨_, rfl, ?_⟩; have HO329 := zaa.mk (Kd.zfb (Kd.zd8 (ok' := fun k_ => k_ ≠ gb324) (Kd.R_N (Kd.zcu ho0)) (fun k_ hk_ => (Kd.zb4 (g := gb324) (o := .cells #[.slice A0_0 l0_0.length c0_0, .slice A0_1 l0_1.length c0_1, .slice A0_2 l0_2.length c0_2] 25 (0, 0)) (Yg BK324) k_ hk_.2.1))) (za0 Yb_PItemAllx12_0)); replace BK324 := Ykb BK324 hb; replace HB := zaa.mk (zay Yb_PItemAllx12_0 hb); (try clear hb); (try clear hb2); (try clear hk); (try clear hi); (try clear ho0); obtain ⟨hcz15_0, hfz15_0, hcz15_1, hfz15_1, hcz15_2, hfz15_2⟩ := Yc3 BK324.out) | ((with_reducible refine zbd (f := 9) rfl ?_); refine Ygl (some 18) Tryz.func9 #[.agg #[.slice A0_0 l0_0.length c0_0, .slice A0_1 l0_1.length c0_1, .slice A0_2 l0_2.length c0_2]] ?_; (with_reducible refine (zan.calls k _ _ l0_0 _ _ l0_1 _ _ l0_2 t331 t334 _ (Kd.zak HR0_0.out Ybe) HC0_0.out (Kd.zak HR0_1.out Ybe) HC0_1.out (Kd.zak HR0_2.out Ybe) HC0_2.out A5.out).mono ?_); rintro e w16 ⟨v332, rfl, ho0, hb⟩; refine ⟨_, rfl, ?_⟩; have HO333 := zaa.mk (Kd.zfb (Kd.zd8 (ok' := fun k_ => some k_ ≠ (v328 : Value).ownBlock ∧ k_ ≠ gb324) ho0 (fun k_ hk_ => ⟨(Kd.fresh' (Kd.N_lt (by (with_reducible repeat (first | apply Kd.N_alloc | apply Kd.zcz | apply Kd.zc4)); exact HO329.out)) k_ hk_), (Kd.zb4 (g := gb324) (o := .cells #[.slice A0_0 l0_0.length c0_0, .slice A0_1 l0_1.length c0_1, .slice A0_2 l0_2.length c0_2] 25 (0, 0)) (Yg BK324) k_ hk_)⟩)) (za0 Yb_PItemAllx12_0)); replace HO329 := zaa.mk (Kd.N_elder' (by (with_reducible repeat (first | apply Kd.N_alloc | apply Kd.zcz | apply Kd.zc4)); exact HO329.out) (Kd.N_base ho0) hb); replace BK324 := Ykb BK324 hb; replace HB := zaa.mk (zay Yb_PItemAllx12_0 hb); (try clear hb); (try clear hb2); (try clear hk); (try clear hi); (try clear ho0); obtain ⟨Ao17, co17, eo17⟩ := Kd.zd9 HO329.out; subst eo17; obtain ⟨Ao18, co18, eo18⟩ := Kd.zd9 HO333.out; subst eo18) | ((with_reducible refine zbd (f := 10) rfl ?_); refine Ygl (some 23) Tryz.func10 #[.slice Ao17 t327.length co17, .slice Ao18 t331.length co18] ?_; (with_reducible refine (zbc.calls k _ _ t327 _ _ t331 true _ ?side1 ?side2 ?side3 ?side4 A6.out).mono ?_); (case side1 => repeat (first | exact (Kd.N_reads' HO329.out).2.2 | (with_reducible refine Kd.C_alloc ?_ _) | (with_reducible refine Kd.zbj ?_ _) | (with_reducible refine Kd.C_drew ?_))); (case side2 => exact (Kd.N_reads' HO329.out).2.1); (case side3 => repeat (first | exact (Kd.N_reads' HO333.out).2.2 | (with_reducible refine Kd.C_alloc ?_ _) | (with_reducible refine Kd.zbj ?_ _) | (with_reducible refine Kd.C_drew ?_))); (case side4 => exact (Kd.N_reads' HO333.out).2.1); rintro e w' ⟨rfl, ⟨nd, rfl⟩⟩; refine ⟨_, rfl, ?_⟩) | (go_at_call 7; (with_reducible refine (zbq.calls  t336 _ A9.out).mono ?_); rintro e w19 ⟨rfl, hb⟩; replace HO329 := zaa.mk (Kd.zg4 (by (with_reducible repeat (first | apply Kd.N_alloc | apply Kd.zcz | apply Kd.zc4)); exact HO329.out) hb); replace HO333 := zaa.mk (Kd.zg4 (by (with_reducible repeat (first | apply Kd.N_alloc | apply Kd.zcz | apply Kd.zc4)); exact HO333.out) hb); replace BK324 := Ykb BK324 hb; replace HB := zaa.mk (zay Yb_PItemAllx12_0 hb); (try clear hb); (try clear hb2); (try clear hk); (try clear hi)))
    go_ret
    exact ⟨Yfi, Yb_PItemAllx12_0⟩
   ·rw [if_neg c8] at H
    have c8b0 : (t330 == t334) = false := beq_eq_false_iff_ne.mpr c8
    have c8b1 : (t330 != t334) = true := bne_iff_ne.mpr c8
    obtain rfl := Option.some.inj H
    go_enter Tryz.func3, Tryz.ntmps3
    go_wp2_with (first | ((with_reducible refine zat (N := 1) rfl ?_); refine Ybx 1 #[.slice A0_0 l0_0.length c0_0, .slice A0_1 l0_1.length c0_1, .slice A0_2 l0_2.length c0_2] 25 ?_; intro gb324 hg w20 hbox hb; obtain ⟨BK324, GW324, GE324, HB⟩ := Yb4 hbox hg hb Ybe; clear hb hbox hg; obtain ⟨hcz21_0, hfz21_0, hcz21_1, hfz21_1, hcz21_2, hfz21_2⟩ := Yc3 BK324.out) | ((with_reducible refine zbd (f := 6) rfl ?_); refine Ygl (some 8) Tryz.func6 #[.agg #[.slice A0_0 l0_0.length c0_0, .slice A0_1 l0_1.length c0_1, .slice A0_2 l0_2.length c0_2]] ?_; (with_reducible refine (zci.calls k _ _ l0_0 _ _ l0_1 _ _ l0_2 true _ (Kd.zak HR0_0.out Ybe) HC0_0.out (Kd.zak HR0_1.out Ybe) HC0_1.out (Kd.zak HR0_2.out Ybe) HC0_2.out A2.out).mono ?_); rintro e w22 ⟨rfl, hb⟩; refine ⟨_, rfl, ?_⟩; replace BK324 := Ykb BK324 hb; replace HB := zaa.mk (zay Yb_PItemAllx12_0 hb); (try clear hb); (try clear hb2); (try clear hk); (try clear hi); obtain ⟨hcz23_0, hfz23_0, hcz23_1, hfz23_1, hcz23_2, hfz23_2⟩ := Yc3 BK324.out) | ((with_reducible refine zbd (f := 8) rfl ?_); refine Ygl (some 13) Tryz.func8 #[.agg #[.slice A0_0 l0_0.length c0_0, .slice A0_1 l0_1.length c0_1, .slice A0_2 l0_2.length c0_2]] ?_; (with_reducible refine (zdl.calls k _ _ l0_0 _ _ l0_1 _ _ l0_2 t327 t330 _ (Kd.zak HR0_0.out Ybe) HC0_0.out (Kd.zak HR0_1.out Ybe) HC0_1.out (Kd.zak HR0_2.out Ybe) HC0_2.out A4.out).mono ?_); rintro e w24 ⟨v328, rfl, ho0, hb⟩; refine ⟨_, rfl, ?_⟩; have HO329 := zaa.mk (Kd.zfb (Kd.zd8 (ok' := fun k_ => k_ ≠ gb324) (Kd.R_N (Kd.zcu ho0)) (fun k_ hk_ => (Kd.zb4 (g := gb324) (o := .cells #[.slice A0_0 l0_0.length c0_0, .slice A0_1 l0_1.length c0_1, .slice A0_2 l0_2.length c0_2] 25 (0, 0)) (Yg BK324) k_ hk_.2.1))) (za0 Yb_PItemAllx12_0)); replace BK324 := Ykb BK324 hb; replace HB := zaa.mk (zay Yb_PItemAllx12_0 hb); (try clear hb); (try clear hb2); (try clear hk); (try clear hi); (try clear ho0); obtain ⟨hcz25_0, hfz25_0, hcz25_1, hfz25_1, hcz25_2, hfz25_2⟩ := Yc3 BK324.out) | ((with_reducible refine zbd (f := 9) rfl ?_); refine Ygl (some 18) Tryz.func9 #[.agg #[.slice A0_0 l0_0.length c0_0, .slice A0_1 l0_1.length c0_1, .slice A0_2 l0_2.length c0_2]] ?_; (with_reducible refine (zan.calls k _ _ l0_0 _ _ l0_1 _ _ l0_2 t331 t334 _ (Kd.zak HR0_0.out Ybe) HC0_0.out (Kd.zak HR0_1.out Ybe) HC0_1.out (Kd.zak HR0_2.out Ybe) HC0_2.out A5.out).mono ?_); rintro e w26 ⟨v332, rfl, ho0, hb⟩; refine ⟨_, rfl, ?_⟩; have HO333 := zaa.mk (Kd.zfb (Kd.zd8 (ok' := fun k_ => some k_ ≠ (v328 : Value).ownBlock ∧ k_ ≠ gb324) ho0 (fun k_ hk_ => ⟨(Kd.fresh' (Kd.N_lt (by (with_reducible repeat (first | apply Kd.N_alloc | apply Kd.zcz | apply Kd.zc4)); exact HO329.out)) k_ hk_), (Kd.zb4 (g := gb324) (o := .cells #[.slice A0_0 l0_0.length c0_0, .slice A0_1 l0_1.length c0_1, .slice A0_2 l0_2.length c0_2] 25 (0, 0)) (Yg BK324) k_ hk_)⟩)) (za0 Yb_PItemAllx12_0)); replace HO329 := zaa.mk (Kd.N_elder' (by (with_reducible repeat (first | apply Kd.N_alloc | apply Kd.zcz | apply Kd.zc4)); exact HO329.out) (Kd.N_base ho0) hb); replace BK324 := Ykb BK324 hb; replace HB := zaa.mk (zay Yb_PItemAllx12_0 hb); (try clear hb); (try clear hb2); (try clear hk); (try clear hi); (try clear ho0); obtain ⟨Ao27, co27, eo27⟩ := Kd.zd9 HO329.out; subst eo27; obtain ⟨Ao28, co28, eo28⟩ := Kd.zd9 HO333.out; subst eo28) | ((with_reducible refine zbd (f := 10) rfl ?_); refine Ygl (some 23) Tryz.func10 #[.slice Ao27 t327.length co27, .slice Ao28 t331.length co28] ?_; (with_reducible refine (zbc.calls k _ _ t327 _ _ t331 true _ ?side1 ?side2 ?side3 ?side4 A6.out).mono ?_); (case side1 => repeat (first | exact (Kd.N_reads' HO329.out).2.2 | (with_reducible refine Kd.C_alloc ?_ _) | (with_reducible refine Kd.zbj ?_ _) | (with_reducible refine Kd.C_drew ?_))); (case side2 => exact (Kd.N_reads' HO329.out).2.1); (case side3 => repeat (first | exact (Kd.N_reads' HO333.out).2.2 | (with_reducible refine Kd.C_alloc ?_ _) | (with_reducible refine Kd.zbj ?_ _) | (with_reducible refine Kd.C_drew ?_))); (case side4 => exact (Kd.N_reads' HO333.out).2.1); rintro e w' ⟨rfl, ⟨nd, rfl⟩⟩; refine ⟨_, rfl, ?_⟩))
    go_ret
    exact ⟨Yfi, Yb_PItemAllx12_0⟩
  ·replace c7 := Bool.eq_false_iff.mpr c7
   subst c7
   have H1 : (some false) = some r := by rw [if_neg (show ¬ (false = true) by decide)] at H; exact H
   clear H;have H := H1;clear H1;obtain rfl := Option.some.inj H
   go_enter Tryz.func3, Tryz.ntmps3
   go_wp2_with (first | ((with_reducible refine zat (N := 1) rfl ?_); refine Ybx 1 #[.slice A0_0 l0_0.length c0_0, .slice A0_1 l0_1.length c0_1, .slice A0_2 l0_2.length c0_2] 25 ?_; intro gb324 hg w29 hbox hb; obtain ⟨BK324, GW324, GE324, HB⟩ := Yb4 hbox hg hb Ybe; clear hb hbox hg; obtain ⟨hcz30_0, hfz30_0, hcz30_1, hfz30_1, hcz30_2, hfz30_2⟩ := Yc3 BK324.out) | ((with_reducible refine zbd (f := 6) rfl ?_); refine Ygl (some 8) Tryz.func6 #[.agg #[.slice A0_0 l0_0.length c0_0, .slice A0_1 l0_1.length c0_1, .slice A0_2 l0_2.length c0_2]] ?_; (with_reducible refine (zci.calls k _ _ l0_0 _ _ l0_1 _ _ l0_2 true _ (Kd.zak HR0_0.out Ybe) HC0_0.out (Kd.zak HR0_1.out Ybe) HC0_1.out (Kd.zak HR0_2.out Ybe) HC0_2.out A2.out).mono ?_); rintro e w31 ⟨rfl, hb⟩; refine ⟨_, rfl, ?_⟩; replace BK324 := Ykb BK324 hb; replace HB := zaa.mk (zay Yb_PItemAllx12_0 hb); (try clear hb); (try clear hb2); (try clear hk); (try clear hi); obtain ⟨hcz32_0, hfz32_0, hcz32_1, hfz32_1, hcz32_2, hfz32_2⟩ := Yc3 BK324.out) | ((with_reducible refine zbd (f := 8) rfl ?_); refine Ygl (some 13) Tryz.func8 #[.agg #[.slice A0_0 l0_0.length c0_0, .slice A0_1 l0_1.length c0_1, .slice A0_2 l0_2.length c0_2]] ?_; (with_reducible refine (zdl.calls k _ _ l0_0 _ _ l0_1 _ _ l0_2 t327 t330 _ (Kd.zak HR0_0.out Ybe) HC0_0.out (Kd.zak HR0_1.out Ybe) HC0_1.out (Kd.zak HR0_2.out Ybe) HC0_2.out A4.out).mono ?_); rintro e w33 ⟨v328, rfl, ho0, hb⟩; refine ⟨_, rfl, ?_⟩; have HO329 := zaa.mk (Kd.zfb (Kd.zd8 (ok' := fun k_ => k_ ≠ gb324) (Kd.R_N (Kd.zcu ho0)) (fun k_ hk_ => (Kd.zb4 (g := gb324) (o := .cells #[.slice A0_0 l0_0.length c0_0, .slice A0_1 l0_1.length c0_1, .slice A0_2 l0_2.length c0_2] 25 (0, 0)) (Yg BK324) k_ hk_.2.1))) (za0 Yb_PItemAllx12_0)); replace BK324 := Ykb BK324 hb; replace HB := zaa.mk (zay Yb_PItemAllx12_0 hb); (try clear hb); (try clear hb2); (try clear hk); (try clear hi); (try clear ho0); obtain ⟨hcz34_0, hfz34_0, hcz34_1, hfz34_1, hcz34_2, hfz34_2⟩ := Yc3 BK324.out) | ((with_reducible refine zbd (f := 9) rfl ?_); refine Ygl (some 18) Tryz.func9 #[.agg #[.slice A0_0 l0_0.length c0_0, .slice A0_1 l0_1.length c0_1, .slice A0_2 l0_2.length c0_2]] ?_; (with_reducible refine (zan.calls k _ _ l0_0 _ _ l0_1 _ _ l0_2 t331 t334 _ (Kd.zak HR0_0.out Ybe) HC0_0.out (Kd.zak HR0_1.out Ybe) HC0_1.out (Kd.zak HR0_2.out Ybe) HC0_2.out A5.out).mono ?_); rintro e w35 ⟨v332, rfl, ho0, hb⟩; refine ⟨_, rfl, ?_⟩; have HO333 := zaa.mk (Kd.zfb (Kd.zd8 (ok' := fun k_ => some k_ ≠ (v328 : Value).ownBlock ∧ k_ ≠ gb324) ho0 (fun k_ hk_ => ⟨(Kd.fresh' (Kd.N_lt (by (with_reducible repeat (first | apply Kd.N_alloc | apply Kd.zcz | apply Kd.zc4)); exact HO329.out)) k_ hk_), (Kd.zb4 (g := gb324) (o := .cells #[.slice A0_0 l0_0.length c0_0, .slice A0_1 l0_1.length c0_1, .slice A0_2 l0_2.length c0_2] 25 (0, 0)) (Yg BK324) k_ hk_)⟩)) (za0 Yb_PItemAllx12_0)); replace HO329 := zaa.mk (Kd.N_elder' (by (with_reducible repeat (first | apply Kd.N_alloc | apply Kd.zcz | apply Kd.zc4)); exact HO329.out) (Kd.N_base ho0) hb); replace BK324 := Ykb BK324 hb; replace HB := zaa.mk (zay Yb_PItemAllx12_0 hb); (try clear hb); (try clear hb2); (try clear hk); (try clear hi); (try clear ho0); obtain ⟨Ao36, co36, eo36⟩ := Kd.zd9 HO329.out; subst eo36; obtain ⟨Ao37, co37, eo37⟩ := Kd.zd9 HO333.out; subst eo37) | ((with_reducible refine zbd (f := 10) rfl ?_); refine Ygl (some 23) Tryz.func10 #[.slice Ao36 t327.length co36, .slice Ao37 t331.length co37] ?_; (with_reducible refine (zbc.calls k _ _ t327 _ _ t331 false _ ?side1 ?side2 ?side3 ?side4 A6.out).mono ?_); (case side1 => repeat (first | exact (Kd.N_reads' HO329.out).2.2 | (with_reducible refine Kd.C_alloc ?_ _) | (with_reducible refine Kd.zbj ?_ _) | (with_reducible refine Kd.C_drew ?_))); (case side2 => exact (Kd.N_reads' HO329.out).2.1); (case side3 => repeat (first | exact (Kd.N_reads' HO333.out).2.2 | (with_reducible refine Kd.C_alloc ?_ _) | (with_reducible refine Kd.zbj ?_ _) | (with_reducible refine Kd.C_drew ?_))); (case side4 => exact (Kd.N_reads' HO333.out).2.1); rintro e w' ⟨rfl, ⟨nd, rfl⟩⟩; refine ⟨_, rfl, ?_⟩))
   go_ret
   exact ⟨Yfi, Yb_PItemAllx12_0⟩
 ·replace c3 := Bool.eq_false_iff.mpr c3
  subst c3
  have H1 : ((zbq.f).bind fun t326 => (some t326)) = some r := by rw [if_neg (show ¬ (false = true) by decide)] at H; exact H
  clear H;have H := H1;clear H1;replace H := Option.bind_eq_some_iff.mp H
  obtain ⟨t326, A380, H⟩ := H
  replace H : (some t326) = some r := H
  have A38 := zaa.mk A380;clear A380;obtain rfl := Option.some.inj H
  go_enter Tryz.func3, Tryz.ntmps3
  go_wp2_with (first | ((with_reducible refine zat (N := 1) rfl ?_); refine Ybx 1 #[.slice A0_0 l0_0.length c0_0, .slice A0_1 l0_1.length c0_1, .slice A0_2 l0_2.length c0_2] 25 ?_; intro gb324 hg w39 hbox hb; obtain ⟨BK324, GW324, GE324, HB⟩ := Yb4 hbox hg hb Ybe; clear hb hbox hg; obtain ⟨hcz40_0, hfz40_0, hcz40_1, hfz40_1, hcz40_2, hfz40_2⟩ := Yc3 BK324.out) | ((with_reducible refine zbd (f := 6) rfl ?_); refine Ygl (some 8) Tryz.func6 #[.agg #[.slice A0_0 l0_0.length c0_0, .slice A0_1 l0_1.length c0_1, .slice A0_2 l0_2.length c0_2]] ?_; (with_reducible refine (zci.calls k _ _ l0_0 _ _ l0_1 _ _ l0_2 false _ (Kd.zak HR0_0.out Ybe) HC0_0.out (Kd.zak HR0_1.out Ybe) HC0_1.out (Kd.zak HR0_2.out Ybe) HC0_2.out A2.out).mono ?_); rintro e w41 ⟨rfl, hb⟩; refine ⟨_, rfl, ?_⟩; replace BK324 := Ykb BK324 hb; replace HB := zaa.mk (zay Yb_PItemAllx12_0 hb); (try clear hb); (try clear hb2); (try clear hk); (try clear hi)) | ((with_reducible refine zbd (f := 7) rfl ?_); refine Ygl (some 10) Tryz.func7 #[] ?_; (with_reducible refine (zbq.calls  t326 _ A38.out).mono ?_); rintro e w42 ⟨rfl, hb⟩; refine ⟨_, rfl, ?_⟩; replace BK324 := Ykb BK324 hb; replace HB := zaa.mk (zay Yb_PItemAllx12_0 hb); (try clear hb); (try clear hb2); (try clear hk); (try clear hi)))
  go_ret
  exact ⟨Yfi, Yb_PItemAllx12_0⟩
end Go.Proofs.ZZ.PItemAll
end
section
namespace Go.Proofs.ZZ.PItemAll
open Go.RowKit Go.Proofs.ZW.PrintWords Go.Proofs.ZW.PrintLast
def ok44 (s : S44) : Prop := ((Lit.int .i64 s.f0).wf = true) ∧ (s.f1.size ≤ 140737488351232) ∧ (s.f2.size ≤ 140737488351232)
def ok42 (s : S42) : Prop := ((Lit.int .i64 s.f0).wf = true) ∧ (s.f1.length * 40 ≤ 140737488351232 ∧ ∀ y ∈ s.f1, ok44 y) ∧ ((Lit.int .i64 s.f2).wf = true)
def ok25 (s : S25) : Prop := (s.f0.length * 16 ≤ 140737488351232 ∧ ∀ y ∈ s.f0, (y.size ≤ 140737488351232)) ∧ (s.f1.length * 16 ≤ 140737488351232 ∧ ∀ y ∈ s.f1, (y.size ≤ 140737488351232)) ∧ (s.f2.length * 40 ≤ 140737488351232 ∧ ∀ y ∈ s.f2, ok42 y)
def zcf.Pure : Prop := ∀ (s0 : S25), ok25 s0 → ∃ k, zcf.f k s0.f0 s0.f1 s0.f2 = some true
end Go.Proofs.ZZ.PItemAll
end
