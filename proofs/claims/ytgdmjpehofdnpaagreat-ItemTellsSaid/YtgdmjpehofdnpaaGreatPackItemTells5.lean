import Derived.Test.YtgdmjpehofdnpaaGreatPackItemTells4
set_option linter.unusedVariables false
set_option linter.unusedSimpArgs false
set_option maxRecDepth 100000
set_option maxHeartbeats 8000000
section
namespace Go.Proofs.ZZ.PItemTells
open Go.RowKit Go.Proofs.ZW.PrintWords Go.Proofs.ZW.PrintLast Go.Proofs.ZW.PrintMore
section
end
attribute [local go_sem high] eqA50
theorem Yb_PItemTellsx7_0 {n : Nat} {w w' : World} (h : Below n w w' := by repeat (first | (with_reducible first | exact HB.out | apply za2 | apply zav | apply zas | refine za6 ?_ GE156.out) | exact HB.out)) : Below n w w' := h
def zar.l0 : Nat → List (S50) → Int → Int → Int → Int → Option ((List (S50)))
 | 0, _, _, _, _, _ => none
 | k + 1, x0, x5, x157000, x157001, x157002 => if x5 < (x0.length : Int) then (if 0 ≤ x5 then ((zcf.f ((zae x0 x5).f0) ((zae x0 x5).f1) ((zae x0 x5).f2) x157000 x157001 x157002).bind fun t158 => (if t158 = true then (zar.l0 k x0 (wrap64 (x5 + 1)) x157000 x157001 x157002) else (if (((zae x0 x5).f0) == x157000 && (((zae x0 x5).f1) == x157001 && (((zae x0 x5).f2) == x157002))) = true then (some x0) else (if x5 ≤ (x0.length : Int) then ((some (x0.take (x5 : Int).toNat : List (S50))).bind fun y160 => (if ([] : List (S50)).length + y160.length < 5864062014805 then ((some (([] : List (S50)) ++ y160 : List (S50))).bind fun y164 => (if y164.length < 5864062014805 then ((some (y164 ++ [(⟨x157000, x157001, x157002⟩ : S50)] : List (S50))).bind fun y167 => ((some (x0.drop (x5 : Int).toNat : List (S50))).bind fun y170 => (if y167.length + y170.length < 5864062014805 then (some (y167 ++ y170)) else (none)))) else (none))) else (none))) else (none))))) else (none)) else (if 0 ≤ x5 then (if x5 ≤ (x0.length : Int) then ((some (x0.take (x5 : Int).toNat : List (S50))).bind fun y177 => (if ([] : List (S50)).length + y177.length < 5864062014805 then ((some (([] : List (S50)) ++ y177 : List (S50))).bind fun y181 => (if y181.length < 5864062014805 then ((some (y181 ++ [(⟨x157000, x157001, x157002⟩ : S50)] : List (S50))).bind fun y184 => ((some (x0.drop (x5 : Int).toNat : List (S50))).bind fun y187 => (if y184.length + y187.length < 5864062014805 then (some (y184 ++ y187)) else (none)))) else (none))) else (none))) else (none)) else (none))
def zar.f (k : Nat) (l0 : List (S50)) (a1_0 : Int) (a1_1 : Int) (a1_2 : Int) : Option ((List (S50))) := zar.l0 k l0 0 a1_0 a1_1 a1_2
def zar.T2 : Bool × List (List Nat × List Nat) := (true, [([], []), ([], []), ([1], [1]), ([0, 2], [0, 2]), ([3], [3]), ([4], [4]), ([4], [4]), ([5, 6, 4], [4, 5, 6]), ([7, 4], [4, 7]), ([4], [4]), ([8, 9, 4, 4], [4, 8, 9]), ([4, 10], [4, 10])])
def zar.B2 : List Nat := [0, 0, 2, 7, 15, 31, 31, 127, 255, 31, 1023, 2047]
theorem zar.tab2 : rtab .any (opsOf Tryz.f40 2) = zar.T2 := by kernel_rfl
theorem zar.bits2 : zc6 zar.T2.2 zar.B2 = true := by kernel_rfl
def zar.T4 : Bool × List (List Nat × List Nat) := (true, [([], []), ([], []), ([1], [1]), ([0, 2], [0, 2]), ([3], [3]), ([4], [4]), ([4], [4]), ([5, 6, 4], [4, 5, 6]), ([7, 4], [4, 7]), ([4], [4]), ([8, 9, 4], [4, 8, 9]), ([4, 10], [4, 10])])
def zar.B4 : List Nat := [0, 0, 2, 7, 15, 31, 31, 127, 255, 31, 1023, 2047]
theorem zar.tab4 : rtab .any (opsOf Tryz.f40 4) = zar.T4 := by kernel_rfl
theorem zar.bits4 : zc6 zar.T4.2 zar.B4 = true := by kernel_rfl
theorem zar.calls (k : Nat) (P0_ : Nat → Prop) (u9000_ : Value) (l0 : List (S50)) (a1_0 : Int) (a1_1 : Int) (a1_2 : Int) (r : List (S50)) (w0 w : World) (hB : Below w0.heap.size w0 w) (ho0 : Kd.R k50 50 w w0.heap.size P0_ u9000_ l0) (h : zar.f k l0 a1_0 a1_1 a1_2 = some r) :
  Calls Tryz.prog 40 #[u9000_, .agg #[.int .i64 a1_0, .int .i64 a1_1, .int .i64 a1_2]] w fun e w' => ∃ v0_ : Value, e = .returned (v0_) ∧ Kd.R k50 50 w' w0.heap.size (fun k_ => (P0_ k_ ∨ w.heap.size ≤ k_)) v0_ r ∧ Below w0.heap.size w0 w' ∧ Kept w w' (fun k_ => P0_ k_) := by
 have hu50 := Tryz.underlying50
 have HO0 := zaa.mk (show Kd.R k50 50 w w0.heap.size (fun k_ => (P0_ k_ ∨ w.heap.size ≤ k_)) u9000_ l0 from Kd.zba ho0 (fun k_ hk => (.inl hk)))
 have HK := zaa.mk (Kept.refl w (fun k_ => P0_ k_))
 have HW0 := zaa.mk hB.size
 have HB := zaa.mk hB;clear hB
 have H : (zar.l0 k l0 0 a1_0 a1_1 a1_2) = some r := h
 clear h
 have H' := zaa.mk H
 clear H
 go_enter Tryz.func40, Tryz.ntmps40
 go_wp2_with (first | ((with_reducible refine zau (N := 3) rfl ?_); refine Ybx 3 #[.int .i64 a1_0, .int .i64 a1_1, .int .i64 a1_2] 50 ?_; intro gb156 hg w3 hbox hb; replace HO0 := zaa.mk (Kd.zbc (Kd.R_elderB (Yr HO0) gb156 (Nat.le_of_eq hg.symm)) hb); have BK156 := zaa.mk (hbox); have GW156 := zaa.mk ((by rw [hg]; exact (by first | exact HK.out.1 | exact (show Kept w _ (fun k_ => P0_ k_) from by repeat (first | (with_reducible first | exact HK.out | apply Kept.alloc | apply Kept.drewN | apply Kept.drew) | exact HK.out)).1) : w.heap.size ≤ gb156)); replace HK := zaa.mk (Kept.below (S := (fun k_ => P0_ k_)) (by repeat (first | (with_reducible first | exact HK.out | apply Kept.alloc | apply Kept.drewN | apply Kept.drew) | exact HK.out)) hb); have GE156 := zaa.mk ((by rw [hg]; exact (za8 Ybe) : w0.heap.size ≤ gb156)); replace HB := zaa.mk (zay Ybe hb); clear hb hbox hg))
 go_loopg [5] k (fun kq v5 w' => ∃ (x5_1 : Int), v5 = .int .i64 x5_1 ∧ zaa (zar.l0 kq l0 x5_1 a1_0 a1_1 a1_2 = some r) ∧ zaa (kq ≤ k) ∧ zaa (Kd.R k50 50 w' w0.heap.size (fun k_ => (P0_ k_ ∨ w.heap.size ≤ k_) ∧ k_ ≠ gb156) u9000_ l0) ∧ zaa (w'.heap[gb156]? = some (.cells #[.int .i64 a1_0, .int .i64 a1_1, .int .i64 a1_2] 50 (0, 0))) ∧ zaa (Kept w w' (fun k_ => P0_ k_)) ∧ zaa (Below w0.heap.size w0 w'))
 case atStart => exact ⟨(0), Yfs, H', ⟨Nat.le_refl _⟩, ⟨Yr HO0⟩, ⟨Yg BK156⟩, ⟨by repeat (first | (with_reducible first | exact HK.out | apply Kept.alloc | apply Kept.drewN | apply Kept.drew | refine Kept.setCell ?_ (.inr GW156.out) _) | exact HK.out)⟩, ⟨Yb_PItemTellsx7_0⟩⟩
 case round =>
  clear H'
  obtain ⟨x5_1, rfl, HA, HK1, HO_0, BK156, HK, HB⟩ := hrel
  cases gk with
  | zero => exact absurd HA.out (by simp [zar.l0])
  | succ k1 =>
   have H := HA.out;clear HA
   simp only [zar.l0] at H
   by_cases c4 : x5_1 < (l0.length : Int)
   ·rw [if_pos c4] at H
    have c4b0 := decide_eq_true c4
    clear c4
    by_cases c5 : 0 ≤ x5_1
    ·rw [if_pos c5] at H
     have c5b0 := decide_eq_true c5
     clear c5;replace H := Option.bind_eq_some_iff.mp H
     obtain ⟨t158, A60, H⟩ := H
     replace H : (if t158 = true then (zar.l0 k1 l0 (wrap64 (x5_1 + 1)) a1_0 a1_1 a1_2) else (if (((zae l0 x5_1).f0) == a1_0 && (((zae l0 x5_1).f1) == a1_1 && (((zae l0 x5_1).f2) == a1_2))) = true then (some l0) else (if x5_1 ≤ (l0.length : Int) then ((some (l0.take (x5_1 : Int).toNat : List (S50))).bind fun y160 => (if ([] : List (S50)).length + y160.length < 5864062014805 then ((some (([] : List (S50)) ++ y160 : List (S50))).bind fun y164 => (if y164.length < 5864062014805 then ((some (y164 ++ [(⟨a1_0, a1_1, a1_2⟩ : S50)] : List (S50))).bind fun y167 => ((some (l0.drop (x5_1 : Int).toNat : List (S50))).bind fun y170 => (if y167.length + y170.length < 5864062014805 then (some (y167 ++ y170)) else (none)))) else (none))) else (none))) else (none)))) = some r := H
     have A6 := zaa.mk A60;clear A60
     by_cases c7 : t158 = true
     ·subst c7
      have H1 : (zar.l0 k1 l0 (wrap64 (x5_1 + 1)) a1_0 a1_1 a1_2) = some r := by rw [if_pos rfl] at H; exact H
      clear H;have H := H1;clear H1
      have H' := zaa.mk H
      clear H
      try go_wp2
      replace HO_0 := zaa.mk (Kd.zbn HO_0.out)
      replace BK156 := zaa.mk (zah BK156.out)
      replace HK := zaa.mk (Kept.drew HK.out)
      replace HB := zaa.mk (zas HB.out)
      obtain ⟨Ao9, co9, eo9⟩ := Kd.zbj HO_0.out
      (first | subst eo9 | (injection eo9 with f1_ f2_ f3_; have f4_ := f1_.symm; have f5_ := f3_.symm; clear f1_ f2_ f3_; subst f4_; subst f5_))
      have p157 : 0 ≤ (x5_1 : Int) := Yod
      have q157 : x5_1 < (l0.length : Int) := Yod
      obtain ⟨ad157, e157, hx157_0, hx157_1, hx157_2⟩ := zcv (Kd.R_reads' HO_0.out).2.2 x5_1 p157 q157
      cases e157
      replace p157 := eq_true p157
      replace q157 := eq_true q157
      refine zbl (n := 12) (S := fun w' => w'.cell? ⟨gb156, 0, none⟩ = some (.int .i64 a1_0) ∧ w'.cell? ⟨gb156, 1, none⟩ = some (.int .i64 a1_1) ∧ w'.cell? ⟨gb156, 2, none⟩ = some (.int .i64 a1_2) ∧ w'.cell? (ad157.add ((x5_1).toNat * 3)) = some (.int .i64 ((zae l0 x5_1).f0)) ∧ w'.cell? ⟨(ad157.add ((x5_1).toNat * 3)).block, (ad157.add ((x5_1).toNat * 3)).off + 1, none⟩ = some (.int .i64 ((zae l0 x5_1).f1)) ∧ w'.cell? ⟨(ad157.add ((x5_1).toNat * 3)).block, (ad157.add ((x5_1).toNat * 3)).off + 2, none⟩ = some (.int .i64 ((zae l0 x5_1).f2))) (ds := []) (Ymk 12 0) (by kernel_rfl) rfl rfl ⟨(zab BK156.out 0).trans rfl, (zab BK156.out 1).trans rfl, (zab BK156.out 2).trans rfl, hx157_0, hx157_1, hx157_2⟩ (fun hHeld => ?_); refine zbw zar.tab2 zar.bits2 (fun HT_ HW_ => ?_)
      generalize wr.drew = w8 at HO_0 BK156 HK HB hx157_0 hx157_1 hx157_2 hHeld ⊢
      refine Ypt 0 7 12 1 HT_ ?_
      refine Ypt 1 8 12 3 HT_ ?_
      refine Ypt 2 9 12 7 HT_ ?_
      refine Ypt 3 10 12 15 HT_ ?_
      refine Ypt 4 11 12 31 HT_ ?_
      refine Ypt 5 12 12 63 HT_ ?_
      refine Ypt 6 13 12 127 HT_ ?_
      refine Ypt 7 14 12 255 HT_ ?_
      refine Ytt 8 15 12 511 HT_ HW_ hHeld ?_
      refine Ytt 9 16 12 1023 HT_ HW_ hHeld ?_
      refine Yot 10 17 12 2047 HT_ (fun K hK => ?_)
      refine Ygs Tryz.func53 #[.agg #[.int .i64 ((zae l0 x5_1).f0), .int .i64 ((zae l0 x5_1).f1), .int .i64 ((zae l0 x5_1).f2)], .agg #[.int .i64 a1_0, .int .i64 a1_1, .int .i64 a1_2]] ?_
      with_reducible refine (zcf.calls ((zae l0 x5_1).f0) ((zae l0 x5_1).f1) ((zae l0 x5_1).f2) a1_0 a1_1 a1_2 true _ A6.out).mono ?_
      rintro e w10 ⟨rfl, hb⟩
      have HS3_ := (hb.cell (World.block_lt_of_cell? _ _ (hHeld.2.2.2.1))).trans (hHeld.2.2.2.1)
      have HS4_ := (hb.cell (World.block_lt_of_cell? _ _ (hHeld.2.2.2.2.1))).trans (hHeld.2.2.2.2.1)
      have HS5_ := (hb.cell (World.block_lt_of_cell? _ _ (hHeld.2.2.2.2.2))).trans (hHeld.2.2.2.2.2)
      refine ⟨_, rfl, ?_⟩
      replace HO_0 := zaa.mk (Kd.zbc (Yr HO_0) hb)
      replace BK156 := Ykb BK156 hb
      replace HK := zaa.mk (Kept.below (S := (fun k_ => P0_ k_)) (by repeat (first | (with_reducible first | exact HK.out | apply Kept.alloc | apply Kept.drewN | apply Kept.drew | refine Kept.setCell ?_ (.inr GW156.out) _) | exact HK.out)) hb)
      replace HB := zaa.mk (zay Yb_PItemTellsx7_0 hb)
      (try clear hb)
      (try clear hb2)
      (try clear hk)
      (try clear hi)
      refine hK.out _ _ ⟨(zab BK156.out 0).trans rfl, (zab BK156.out 1).trans rfl, (zab BK156.out 2).trans rfl, HS3_, HS4_, HS5_⟩ (fun hHeld => ?_)
      clear hK K
      refine Ynw 17 ?_
      refine Ypt 11 18 12 4095 HT_ ?_
      refine zbq (zb4 HT_.out (by kernel_rfl)) ?_
      try go_wp2
      go_roundg k1
      case measure => have := HK1.out; omega
      case rel => exact ⟨(wrap64 (x5_1 + 1)), Yfs, H', ⟨by have := HK1.out; omega⟩, ⟨Yr HO_0⟩, ⟨Yg BK156⟩, ⟨by repeat (first | (with_reducible first | exact HK.out | apply Kept.alloc | apply Kept.drewN | apply Kept.drew | refine Kept.setCell ?_ (.inr GW156.out) _) | exact HK.out)⟩, ⟨Yb_PItemTellsx7_0⟩⟩
     ·replace c7 := Bool.eq_false_iff.mpr c7
      subst c7
      have H1 : (if (((zae l0 x5_1).f0) == a1_0 && (((zae l0 x5_1).f1) == a1_1 && (((zae l0 x5_1).f2) == a1_2))) = true then (some l0) else (if x5_1 ≤ (l0.length : Int) then ((some (l0.take (x5_1 : Int).toNat : List (S50))).bind fun y160 => (if ([] : List (S50)).length + y160.length < 5864062014805 then ((some (([] : List (S50)) ++ y160 : List (S50))).bind fun y164 => (if y164.length < 5864062014805 then ((some (y164 ++ [(⟨a1_0, a1_1, a1_2⟩ : S50)] : List (S50))).bind fun y167 => ((some (l0.drop (x5_1 : Int).toNat : List (S50))).bind fun y170 => (if y167.length + y170.length < 5864062014805 then (some (y167 ++ y170)) else (none)))) else (none))) else (none))) else (none))) = some r := by rw [if_neg (show ¬ (false = true) by decide)] at H; exact H
      clear H;have H := H1;clear H1
      by_cases c11 : (((zae l0 x5_1).f0) == a1_0 && (((zae l0 x5_1).f1) == a1_1 && (((zae l0 x5_1).f2) == a1_2))) = true
      ·rw [if_pos c11] at H
       have c11b0 : (((zae l0 x5_1).f0) == a1_0 && (((zae l0 x5_1).f1) == a1_1 && (((zae l0 x5_1).f2) == a1_2))) = true := c11
       (try (have c11b1 : decide (((zae l0 x5_1).f0) = a1_0 && (((zae l0 x5_1).f1) == a1_1 && (((zae l0 x5_1).f2) == a1_2))) = true := by simpa using c11))
       (try (have c11b2 : (((zae l0 x5_1).f0) == a1_0 && (((zae l0 x5_1).f1) == a1_1 && (((zae l0 x5_1).f2) == a1_2))) = true := by simpa using c11))
       clear c11;obtain rfl := Option.some.inj H
       try go_wp2
       replace HO_0 := zaa.mk (Kd.zbn HO_0.out)
       replace BK156 := zaa.mk (zah BK156.out)
       replace HK := zaa.mk (Kept.drew HK.out)
       replace HB := zaa.mk (zas HB.out)
       obtain ⟨Ao13, co13, eo13⟩ := Kd.zbj HO_0.out
       (first | subst eo13 | (injection eo13 with f1_ f2_ f3_; have f4_ := f1_.symm; have f5_ := f3_.symm; clear f1_ f2_ f3_; subst f4_; subst f5_))
       have p157 : 0 ≤ (x5_1 : Int) := Yod
       have q157 : x5_1 < (l0.length : Int) := Yod
       obtain ⟨ad157, e157, hx157_0, hx157_1, hx157_2⟩ := zcv (Kd.R_reads' HO_0.out).2.2 x5_1 p157 q157
       cases e157
       replace p157 := eq_true p157
       replace q157 := eq_true q157
       refine zbl (n := 12) (S := fun w' => w'.cell? ⟨gb156, 0, none⟩ = some (.int .i64 a1_0) ∧ w'.cell? ⟨gb156, 1, none⟩ = some (.int .i64 a1_1) ∧ w'.cell? ⟨gb156, 2, none⟩ = some (.int .i64 a1_2) ∧ w'.cell? (ad157.add ((x5_1).toNat * 3)) = some (.int .i64 ((zae l0 x5_1).f0)) ∧ w'.cell? ⟨(ad157.add ((x5_1).toNat * 3)).block, (ad157.add ((x5_1).toNat * 3)).off + 1, none⟩ = some (.int .i64 ((zae l0 x5_1).f1)) ∧ w'.cell? ⟨(ad157.add ((x5_1).toNat * 3)).block, (ad157.add ((x5_1).toNat * 3)).off + 2, none⟩ = some (.int .i64 ((zae l0 x5_1).f2))) (ds := []) (Ymk 12 0) (by kernel_rfl) rfl rfl ⟨(zab BK156.out 0).trans rfl, (zab BK156.out 1).trans rfl, (zab BK156.out 2).trans rfl, hx157_0, hx157_1, hx157_2⟩ (fun hHeld => ?_); refine zbw zar.tab2 zar.bits2 (fun HT_ HW_ => ?_)
       generalize wr.drew = w12 at HO_0 BK156 HK HB hx157_0 hx157_1 hx157_2 hHeld ⊢
       refine Ypt 0 7 12 1 HT_ ?_
       refine Ypt 1 8 12 3 HT_ ?_
       refine Ypt 2 9 12 7 HT_ ?_
       refine Ypt 3 10 12 15 HT_ ?_
       refine Ypt 4 11 12 31 HT_ ?_
       refine Ypt 5 12 12 63 HT_ ?_
       refine Ypt 6 13 12 127 HT_ ?_
       refine Ypt 7 14 12 255 HT_ ?_
       refine Ytt 8 15 12 511 HT_ HW_ hHeld ?_
       refine Ytt 9 16 12 1023 HT_ HW_ hHeld ?_
       refine Yot 10 17 12 2047 HT_ (fun K hK => ?_)
       refine Ygs Tryz.func53 #[.agg #[.int .i64 ((zae l0 x5_1).f0), .int .i64 ((zae l0 x5_1).f1), .int .i64 ((zae l0 x5_1).f2)], .agg #[.int .i64 a1_0, .int .i64 a1_1, .int .i64 a1_2]] ?_
       with_reducible refine (zcf.calls ((zae l0 x5_1).f0) ((zae l0 x5_1).f1) ((zae l0 x5_1).f2) a1_0 a1_1 a1_2 false _ A6.out).mono ?_
       rintro e w14 ⟨rfl, hb⟩
       have HS3_ := (hb.cell (World.block_lt_of_cell? _ _ (hHeld.2.2.2.1))).trans (hHeld.2.2.2.1)
       have HS4_ := (hb.cell (World.block_lt_of_cell? _ _ (hHeld.2.2.2.2.1))).trans (hHeld.2.2.2.2.1)
       have HS5_ := (hb.cell (World.block_lt_of_cell? _ _ (hHeld.2.2.2.2.2))).trans (hHeld.2.2.2.2.2)
       refine ⟨_, rfl, ?_⟩
       replace HO_0 := zaa.mk (Kd.zbc (Yr HO_0) hb)
       replace BK156 := Ykb BK156 hb
       replace HK := zaa.mk (Kept.below (S := (fun k_ => P0_ k_)) (by repeat (first | (with_reducible first | exact HK.out | apply Kept.alloc | apply Kept.drewN | apply Kept.drew | refine Kept.setCell ?_ (.inr GW156.out) _) | exact HK.out)) hb)
       replace HB := zaa.mk (zay Yb_PItemTellsx7_0 hb)
       (try clear hb)
       (try clear hb2)
       (try clear hk)
       (try clear hi)
       refine hK.out _ _ ⟨(zab BK156.out 0).trans rfl, (zab BK156.out 1).trans rfl, (zab BK156.out 2).trans rfl, HS3_, HS4_, HS5_⟩ (fun hHeld => ?_)
       clear hK K
       refine Ynw 17 ?_
       refine Ypt 11 18 12 4095 HT_ ?_
       refine zbq (zb4 HT_.out (by kernel_rfl)) ?_
       try go_wp2
       replace HO_0 := zaa.mk (Kd.zbn HO_0.out)
       replace BK156 := zaa.mk (zah BK156.out)
       replace HK := zaa.mk (Kept.drew HK.out)
       replace HB := zaa.mk (zas HB.out)
       have p159 : 0 ≤ (x5_1 : Int) := Yod
       have q159 : x5_1 < (l0.length : Int) := Yod
       obtain ⟨ad159, e159, hx159_0, hx159_1, hx159_2⟩ := zcv (Kd.R_reads' HO_0.out).2.2 x5_1 p159 q159
       obtain rfl : ad157 = ad159 := (by injection e159)
       replace p159 := eq_true p159
       replace q159 := eq_true q159
       refine zbl (n := 12) (S := fun w' => w'.cell? ⟨gb156, 0, none⟩ = some (.int .i64 a1_0) ∧ w'.cell? ⟨gb156, 1, none⟩ = some (.int .i64 a1_1) ∧ w'.cell? ⟨gb156, 2, none⟩ = some (.int .i64 a1_2) ∧ w'.cell? (ad157.add ((x5_1).toNat * 3)) = some (.int .i64 ((zae l0 x5_1).f0)) ∧ w'.cell? ⟨(ad157.add ((x5_1).toNat * 3)).block, (ad157.add ((x5_1).toNat * 3)).off + 1, none⟩ = some (.int .i64 ((zae l0 x5_1).f1)) ∧ w'.cell? ⟨(ad157.add ((x5_1).toNat * 3)).block, (ad157.add ((x5_1).toNat * 3)).off + 2, none⟩ = some (.int .i64 ((zae l0 x5_1).f2))) (ds := []) (Ymk 12 0) (by kernel_rfl) rfl rfl ⟨(zab BK156.out 0).trans rfl, (zab BK156.out 1).trans rfl, (zab BK156.out 2).trans rfl, hx159_0, hx159_1, hx159_2⟩ (fun hHeld => ?_); refine zbw zar.tab4 zar.bits4 (fun HT_ HW_ => ?_)
       generalize w14.drew = w15 at HO_0 BK156 HK HB hx159_0 hx159_1 hx159_2 hHeld ⊢
       refine Ypt 0 21 12 1 HT_ ?_
       refine Ypt 1 22 12 3 HT_ ?_
       refine Ypt 2 23 12 7 HT_ ?_
       refine Ypt 3 24 12 15 HT_ ?_
       refine Ypt 4 25 12 31 HT_ ?_
       refine Ypt 5 26 12 63 HT_ ?_
       refine Ypt 6 27 12 127 HT_ ?_
       refine Ypt 7 28 12 255 HT_ ?_
       refine Ytt 8 29 12 511 HT_ HW_ hHeld ?_
       refine Ytt 9 30 12 1023 HT_ HW_ hHeld ?_
       refine Ypt 10 31 12 2047 HT_ ?_
       refine Ypt 11 32 12 4095 HT_ ?_
       refine zbq (zb4 HT_.out (by kernel_rfl)) ?_
       try go_wp2
       go_ret
       exact ⟨_, by first | rfl | (simp [errW_none, errW_some] <;> rfl) | (simp [*, errW_none, errW_some] <;> rfl), by (with_reducible repeat (first | apply Kd.R_alloc | apply Kd.zb0 | apply Kd.zbn)); exact Kd.zba HO_0.out (fun _ hk => hk.1), by repeat (first | (with_reducible first | exact HB.out | apply za2 | apply zav | apply zas | refine za6 ?_ GE156.out) | exact HB.out), by repeat (first | (with_reducible first | exact HK.out | apply Kept.alloc | apply Kept.drewN | apply Kept.drew | refine Kept.setCell ?_ (.inr GW156.out) _) | exact HK.out)⟩
      ·rw [if_neg c11] at H
       have c11b0 : (((zae l0 x5_1).f0) == a1_0 && (((zae l0 x5_1).f1) == a1_1 && (((zae l0 x5_1).f2) == a1_2))) = false := by simpa using c11
       (try (have c11b1 : decide (((zae l0 x5_1).f0) = a1_0 && (((zae l0 x5_1).f1) == a1_1 && (((zae l0 x5_1).f2) == a1_2))) = false := by simpa using c11))
       (try (have c11b2 : (((zae l0 x5_1).f0) == a1_0 && (((zae l0 x5_1).f1) == a1_1 && (((zae l0 x5_1).f2) == a1_2))) = false := by simpa using c11))
       (try (have c11b3 : ¬ (((zae l0 x5_1).f0) = a1_0 && (((zae l0 x5_1).f1) == a1_1 && (((zae l0 x5_1).f2) == a1_2))) := by simpa using c11))
       clear c11
       have c16b0 := eq_true (of_decide_eq_true (by first | (with_reducible assumption) | assumption) : 0 ≤ x5_1)
       by_cases c17 : x5_1 ≤ (l0.length : Int)
       ·rw [if_pos c17] at H
        have c17b0 := eq_true c17
        have c17b1 := decide_eq_true c17
        clear c17
        obtain ⟨y160, hy160⟩ : ∃ y_ : List (S50), y_ = (l0.take (x5_1 : Int).toNat) := ⟨_, rfl⟩
        replace H : (if ([] : List (S50)).length + y160.length < 5864062014805 then ((some (([] : List (S50)) ++ y160 : List (S50))).bind fun y164 => (if y164.length < 5864062014805 then ((some (y164 ++ [(⟨a1_0, a1_1, a1_2⟩ : S50)] : List (S50))).bind fun y167 => ((some (l0.drop (x5_1 : Int).toNat : List (S50))).bind fun y170 => (if y167.length + y170.length < 5864062014805 then (some (y167 ++ y170)) else (none)))) else (none))) else (none)) = some r := by first | (rw [hy160]; with_reducible exact H) | (have H2_ := (Option.bind_some _ _).symm.trans H; rw [hy160]; with_reducible exact H2_) | (have H2_ := (Option.bind_some _ _).symm.trans H; with_reducible exact H2_) | with_reducible exact H | (rw [hy160]; exact H) | exact H
        have Ny160 := zaa.mk hy160;clear hy160
        by_cases c18 : ([] : List (S50)).length + y160.length < 5864062014805
        ·rw [if_pos c18] at H
         have LMc18 := zaa.mk c18;clear c18
         obtain ⟨y164, hy164⟩ : ∃ y_ : List (S50), y_ = (([] : List (S50)) ++ y160) := ⟨_, rfl⟩
         replace H : (if y164.length < 5864062014805 then ((some (y164 ++ [(⟨a1_0, a1_1, a1_2⟩ : S50)] : List (S50))).bind fun y167 => ((some (l0.drop (x5_1 : Int).toNat : List (S50))).bind fun y170 => (if y167.length + y170.length < 5864062014805 then (some (y167 ++ y170)) else (none)))) else (none)) = some r := by first | (rw [hy164]; with_reducible exact H) | (have H2_ := (Option.bind_some _ _).symm.trans H; rw [hy164]; with_reducible exact H2_) | (have H2_ := (Option.bind_some _ _).symm.trans H; with_reducible exact H2_) | with_reducible exact H | (rw [hy164]; exact H) | exact H
         have Ny164 := zaa.mk hy164;clear hy164
         by_cases c19 : y164.length < 5864062014805
         ·rw [if_pos c19] at H
          have LMc19 := zaa.mk c19;clear c19
          obtain ⟨y167, hy167⟩ : ∃ y_ : List (S50), y_ = (y164 ++ [(⟨a1_0, a1_1, a1_2⟩ : S50)]) := ⟨_, rfl⟩
          replace H : ((some (l0.drop (x5_1 : Int).toNat : List (S50))).bind fun y170 => (if y167.length + y170.length < 5864062014805 then (some (y167 ++ y170)) else (none))) = some r := by first | (rw [hy167]; with_reducible exact H) | (have H2_ := (Option.bind_some _ _).symm.trans H; rw [hy167]; with_reducible exact H2_) | (have H2_ := (Option.bind_some _ _).symm.trans H; with_reducible exact H2_) | with_reducible exact H | (rw [hy167]; exact H) | exact H
          have Ny167 := zaa.mk hy167;clear hy167
          have c20b0 := eq_true (of_decide_eq_true (by first | (with_reducible assumption) | assumption) : 0 ≤ x5_1)
          have c21b0 := eq_true (of_decide_eq_true (by first | (with_reducible assumption) | assumption) : x5_1 ≤ (l0.length : Int))
          obtain ⟨y170, hy170⟩ : ∃ y_ : List (S50), y_ = (l0.drop (x5_1 : Int).toNat) := ⟨_, rfl⟩
          replace H : (if y167.length + y170.length < 5864062014805 then (some (y167 ++ y170)) else (none)) = some r := by first | (rw [hy170]; with_reducible exact H) | (have H2_ := (Option.bind_some _ _).symm.trans H; rw [hy170]; with_reducible exact H2_) | (have H2_ := (Option.bind_some _ _).symm.trans H; with_reducible exact H2_) | with_reducible exact H | (rw [hy170]; exact H) | exact H
          have Ny170 := zaa.mk hy170;clear hy170
          by_cases c22 : y167.length + y170.length < 5864062014805
          ·rw [if_pos c22] at H
           have LMc22 := zaa.mk c22;clear c22
           obtain ⟨y174, hy174⟩ : ∃ y_ : List (S50), y_ = (y167 ++ y170) := ⟨_, rfl⟩
           replace H : (some y174) = some r := by first | (rw [hy174]; with_reducible exact H) | (have H2_ := (Option.bind_some _ _).symm.trans H; rw [hy174]; with_reducible exact H2_) | (have H2_ := (Option.bind_some _ _).symm.trans H; with_reducible exact H2_) | with_reducible exact H | (rw [hy174]; exact H) | exact H
           have Ny174 := zaa.mk hy174;clear hy174;obtain rfl := Option.some.inj H
           try go_wp2
           replace HO_0 := zaa.mk (Kd.zbn HO_0.out)
           replace BK156 := zaa.mk (zah BK156.out)
           replace HK := zaa.mk (Kept.drew HK.out)
           replace HB := zaa.mk (zas HB.out)
           obtain ⟨Ao24, co24, eo24⟩ := Kd.zbj HO_0.out
           (first | subst eo24 | (injection eo24 with f1_ f2_ f3_; have f4_ := f1_.symm; have f5_ := f3_.symm; clear f1_ f2_ f3_; subst f4_; subst f5_))
           have p157 : 0 ≤ (x5_1 : Int) := Yod
           have q157 : x5_1 < (l0.length : Int) := Yod
           obtain ⟨ad157, e157, hx157_0, hx157_1, hx157_2⟩ := zcv (Kd.R_reads' HO_0.out).2.2 x5_1 p157 q157
           cases e157
           replace p157 := eq_true p157
           replace q157 := eq_true q157
           refine zbl (n := 12) (S := fun w' => w'.cell? ⟨gb156, 0, none⟩ = some (.int .i64 a1_0) ∧ w'.cell? ⟨gb156, 1, none⟩ = some (.int .i64 a1_1) ∧ w'.cell? ⟨gb156, 2, none⟩ = some (.int .i64 a1_2) ∧ w'.cell? (ad157.add ((x5_1).toNat * 3)) = some (.int .i64 ((zae l0 x5_1).f0)) ∧ w'.cell? ⟨(ad157.add ((x5_1).toNat * 3)).block, (ad157.add ((x5_1).toNat * 3)).off + 1, none⟩ = some (.int .i64 ((zae l0 x5_1).f1)) ∧ w'.cell? ⟨(ad157.add ((x5_1).toNat * 3)).block, (ad157.add ((x5_1).toNat * 3)).off + 2, none⟩ = some (.int .i64 ((zae l0 x5_1).f2))) (ds := []) (Ymk 12 0) (by kernel_rfl) rfl rfl ⟨(zab BK156.out 0).trans rfl, (zab BK156.out 1).trans rfl, (zab BK156.out 2).trans rfl, hx157_0, hx157_1, hx157_2⟩ (fun hHeld => ?_); refine zbw zar.tab2 zar.bits2 (fun HT_ HW_ => ?_)
           generalize wr.drew = w23 at HO_0 BK156 HK HB hx157_0 hx157_1 hx157_2 hHeld ⊢
           refine Ypt 0 7 12 1 HT_ ?_
           refine Ypt 1 8 12 3 HT_ ?_
           refine Ypt 2 9 12 7 HT_ ?_
           refine Ypt 3 10 12 15 HT_ ?_
           refine Ypt 4 11 12 31 HT_ ?_
           refine Ypt 5 12 12 63 HT_ ?_
           refine Ypt 6 13 12 127 HT_ ?_
           refine Ypt 7 14 12 255 HT_ ?_
           refine Ytt 8 15 12 511 HT_ HW_ hHeld ?_
           refine Ytt 9 16 12 1023 HT_ HW_ hHeld ?_
           refine Yot 10 17 12 2047 HT_ (fun K hK => ?_)
           refine Ygs Tryz.func53 #[.agg #[.int .i64 ((zae l0 x5_1).f0), .int .i64 ((zae l0 x5_1).f1), .int .i64 ((zae l0 x5_1).f2)], .agg #[.int .i64 a1_0, .int .i64 a1_1, .int .i64 a1_2]] ?_
           with_reducible refine (zcf.calls ((zae l0 x5_1).f0) ((zae l0 x5_1).f1) ((zae l0 x5_1).f2) a1_0 a1_1 a1_2 false _ A6.out).mono ?_
           rintro e w25 ⟨rfl, hb⟩
           have HS3_ := (hb.cell (World.block_lt_of_cell? _ _ (hHeld.2.2.2.1))).trans (hHeld.2.2.2.1)
           have HS4_ := (hb.cell (World.block_lt_of_cell? _ _ (hHeld.2.2.2.2.1))).trans (hHeld.2.2.2.2.1)
           have HS5_ := (hb.cell (World.block_lt_of_cell? _ _ (hHeld.2.2.2.2.2))).trans (hHeld.2.2.2.2.2)
           refine ⟨_, rfl, ?_⟩
           replace HO_0 := zaa.mk (Kd.zbc (Yr HO_0) hb)
           replace BK156 := Ykb BK156 hb
           replace HK := zaa.mk (Kept.below (S := (fun k_ => P0_ k_)) (by repeat (first | (with_reducible first | exact HK.out | apply Kept.alloc | apply Kept.drewN | apply Kept.drew | refine Kept.setCell ?_ (.inr GW156.out) _) | exact HK.out)) hb)
           replace HB := zaa.mk (zay Yb_PItemTellsx7_0 hb)
           (try clear hb)
           (try clear hb2)
           (try clear hk)
           (try clear hi)
           refine hK.out _ _ ⟨(zab BK156.out 0).trans rfl, (zab BK156.out 1).trans rfl, (zab BK156.out 2).trans rfl, HS3_, HS4_, HS5_⟩ (fun hHeld => ?_)
           clear hK K
           refine Ynw 17 ?_
           refine Ypt 11 18 12 4095 HT_ ?_
           refine zbq (zb4 HT_.out (by kernel_rfl)) ?_
           try go_wp2
           replace HO_0 := zaa.mk (Kd.zbn HO_0.out)
           replace BK156 := zaa.mk (zah BK156.out)
           replace HK := zaa.mk (Kept.drew HK.out)
           replace HB := zaa.mk (zas HB.out)
           have p159 : 0 ≤ (x5_1 : Int) := Yod
           have q159 : x5_1 < (l0.length : Int) := Yod
           obtain ⟨ad159, e159, hx159_0, hx159_1, hx159_2⟩ := zcv (Kd.R_reads' HO_0.out).2.2 x5_1 p159 q159
           obtain rfl : ad157 = ad159 := (by injection e159)
           replace p159 := eq_true p159
           replace q159 := eq_true q159
           refine zbl (n := 12) (S := fun w' => w'.cell? ⟨gb156, 0, none⟩ = some (.int .i64 a1_0) ∧ w'.cell? ⟨gb156, 1, none⟩ = some (.int .i64 a1_1) ∧ w'.cell? ⟨gb156, 2, none⟩ = some (.int .i64 a1_2) ∧ w'.cell? (ad157.add ((x5_1).toNat * 3)) = some (.int .i64 ((zae l0 x5_1).f0)) ∧ w'.cell? ⟨(ad157.add ((x5_1).toNat * 3)).block, (ad157.add ((x5_1).toNat * 3)).off + 1, none⟩ = some (.int .i64 ((zae l0 x5_1).f1)) ∧ w'.cell? ⟨(ad157.add ((x5_1).toNat * 3)).block, (ad157.add ((x5_1).toNat * 3)).off + 2, none⟩ = some (.int .i64 ((zae l0 x5_1).f2))) (ds := []) (Ymk 12 0) (by kernel_rfl) rfl rfl ⟨(zab BK156.out 0).trans rfl, (zab BK156.out 1).trans rfl, (zab BK156.out 2).trans rfl, hx159_0, hx159_1, hx159_2⟩ (fun hHeld => ?_); refine zbw zar.tab4 zar.bits4 (fun HT_ HW_ => ?_)
           generalize w25.drew = w26 at HO_0 BK156 HK HB hx159_0 hx159_1 hx159_2 hHeld ⊢
           refine Ypt 0 21 12 1 HT_ ?_
           refine Ypt 1 22 12 3 HT_ ?_
           refine Ypt 2 23 12 7 HT_ ?_
           refine Ypt 3 24 12 15 HT_ ?_
           refine Ypt 4 25 12 31 HT_ ?_
           refine Ypt 5 26 12 63 HT_ ?_
           refine Ypt 6 27 12 127 HT_ ?_
           refine Ypt 7 28 12 255 HT_ ?_
           refine Ytt 8 29 12 511 HT_ HW_ hHeld ?_
           refine Ytt 9 30 12 1023 HT_ HW_ hHeld ?_
           refine Ypt 10 31 12 2047 HT_ ?_
           refine Ypt 11 32 12 4095 HT_ ?_
           refine zbq (zb4 HT_.out (by kernel_rfl)) ?_
           have q27 : (x5_1 : Int) ≤ ((l0.length : Int) : Int) := Yod
           obtain ⟨i027, hi027, _, hsz27, _⟩ := info_parts zdv
           have hroom27 : l0.length ≤ co24 := (Kd.R_reads' HO_0.out).2.1
           have hC27 : Kd.C k50 _ (some ad157) l0.length l0 := (Kd.R_reads' HO_0.out).2.2
           have hcut27 := cut_to (P := Tryz.prog) 45 50 .i64 Tryz.underlying45 hi027 (some ad157) l0.length co24 x5_1 (of_decide_eq_true (by first | (with_reducible assumption) | assumption)) q27 hroom27
           have hr27 := Kd.zc9 (m := (x5_1 : Int).toNat) hC27 (by omega)
           have hy27 : y160.length = (x5_1 : Int).toNat := (by rw [Ny160.out, List.length_take]; omega)
           rw [← Ny160.out] at hr27
           rw [← hy27] at hcut27
           have HR163 := zaa.mk hr27
           have HC163 := zaa.mk (show y160.length ≤ co24 from by omega)
           clear hr27 hC27 hroom27 hi027 hsz27;have KY27 := zaa.mk hy27;clear hy27
           have KL27 := zaa.mk (show (x5_1 : Int).toNat ≤ l0.length from by omega)
           replace q27 := eq_true q27
           try go_wp2_with (first | ((with_reducible refine zca (b := .append) (xs := #[.tmp 34, .tmp 37]) rfl ?_); at_builtin; refine Kd.zb9 k50 (w0 := w0) w0.heap.size rfl (.tmp 34) (.tmp 37) 45 50 (.agg #[(.int .i64 0), (.int .i64 0), (.int .i64 0)]) 24 rfl Tryz.underlying45 zdv rfl (by decide) (by omega) (.slice none 0 0) ([] : List (S50)) y160 _ _ _ (fun k_ => (P0_ k_ ∨ w.heap.size ≤ k_) ∧ some k_ ≠ (.slice (some ad157) l0.length co24 : Value).ownBlock ∧ k_ ≠ gb156) (fun _ => False) rfl rfl ?aO ?aR (fun _ _ h => h) (fun _ h => h.elim) ?aF ?aB ?aS ?aL ?_; (case aR => repeat (first | exact (by repeat (first | (with_reducible exact HR163.out) | (with_reducible refine Kd.C_alloc ?_ _) | (with_reducible refine Kd.C_drewN ?_ _) | (with_reducible refine Kd.C_drew ?_) | exact HR163.out)) | (with_reducible refine Kd.C_alloc ?_ _) | (with_reducible refine Kd.C_drewN ?_ _) | (with_reducible refine Kd.C_drew ?_))); (case aB => exact Yb_PItemTellsx7_0); (case aF => exact (fun k_ hk => ⟨(.inr (Nat.le_trans (by first | exact HK.out.1 | exact (show Kept w _ (fun k_ => P0_ k_) from by repeat (first | (with_reducible first | exact HK.out | apply Kept.alloc | apply Kept.drewN | apply Kept.drew | refine Kept.setCell ?_ (.inr GW156.out) _) | exact HK.out)).1) hk)), Kd.fresh' (Kd.R_lt (Yr HO_0)) k_ hk, Kd.zcl (g := gb156) (o := .cells #[.int .i64 a1_0, .int .i64 a1_1, .int .i64 a1_2] 50 (0, 0)) (Yg BK156) k_ hk⟩)); (case aO => exact ((Kd.zdr _ _ _ _ (fun k_ => (P0_ k_ ∨ w.heap.size ≤ k_) ∧ some k_ ≠ (.slice (some ad157) l0.length co24 : Value).ownBlock ∧ k_ ≠ gb156)))); (case aS => exact (za8 Yb_PItemTellsx7_0)); (case aL => have := LMc18.out; omega); intro v165 w28 ho hb hg hat; rw [← Ny164.out] at ho; replace BK156 := zaa.mk (zcc (g := gb156) (o := .cells #[.int .i64 a1_0, .int .i64 a1_1, .int .i64 a1_2] 50 (0, 0)) (Yg BK156) hg (by simp [Value.ownBlock])); replace HB := zaa.mk (hb); replace HK := zaa.mk (Kept.zde (S := (fun k_ => P0_ k_)) hg (by repeat (first | (with_reducible first | exact HK.out | apply Kept.alloc | apply Kept.drewN | apply Kept.drew | refine Kept.setCell ?_ (.inr GW156.out) _) | exact HK.out)) (fun k_ e_ => by simp [Value.ownBlock] at e_)); replace HR163 := zaa.mk ((show Kd.C k50 w28 (some ad157) y160.length y160 from by rw [Ny160.out]; exact Kd.zc9 (m := (x5_1 : Int).toNat) ((Kd.R_reads' (Kd.zby (Kd.zdk (Yr HO_0)) hg hat)).2.2) KL27.out)); replace HO_0 := zaa.mk (Kd.zby (Kd.zdk (Yr HO_0)) hg hat); have HO166 := zaa.mk (ho); clear ho hb hg hat; obtain ⟨hcz29_0, hfz29_0, hcz29_1, hfz29_1, hcz29_2, hfz29_2⟩ := Yc3 BK156.out) | ((with_reducible refine zca (b := .append) (xs := #[.tmp 39, .tmp 41]) rfl ?_); at_builtin; refine Kd.zdd k50 (w0 := w0) w0.heap.size rfl (.tmp 39) (.tmp 41) 45 50 (.agg #[(.int .i64 0), (.int .i64 0), (.int .i64 0)]) 24 rfl Tryz.underlying45 zdv rfl (by decide) (by omega) v165 y164 (⟨a1_0, a1_1, a1_2⟩ : S50) [.int .i64 a1_0, .int .i64 a1_1, .int .i64 a1_2] (fun k_ => (P0_ k_ ∨ w.heap.size ≤ k_) ∧ some k_ ≠ (.slice (some ad157) l0.length co24 : Value).ownBlock ∧ k_ ≠ gb156) (fun _ => False) rfl rfl ?aP (fun _ hk => hk.elim) ?aF ?aO ?aB ?aS ?aL ?_; (case aP => exact zg4 _ _ _ (⟨a1_0, a1_1, a1_2⟩ : S50)); (case aB => exact Yb_PItemTellsx7_0); (case aF => exact (fun k_ hk => ⟨(.inr (Nat.le_trans (by first | exact HK.out.1 | exact (show Kept w _ (fun k_ => P0_ k_) from by repeat (first | (with_reducible first | exact HK.out | apply Kept.alloc | apply Kept.drewN | apply Kept.drew | refine Kept.setCell ?_ (.inr GW156.out) _) | exact HK.out)).1) hk)), Kd.fresh' (Kd.R_lt (Yr HO_0)) k_ hk, Kd.zcl (g := gb156) (o := .cells #[.int .i64 a1_0, .int .i64 a1_1, .int .i64 a1_2] 50 (0, 0)) (Yg BK156) k_ hk⟩)); (case aO => exact (Yr HO166)); (case aS => exact (za8 Yb_PItemTellsx7_0)); (case aL => have := LMc19.out; omega); intro v168 w30 ho hb hg hat; rw [← Ny167.out] at ho; replace BK156 := zaa.mk (zcc (g := gb156) (o := .cells #[.int .i64 a1_0, .int .i64 a1_1, .int .i64 a1_2] 50 (0, 0)) (Yg BK156) hg (Kd.zgw HO166.out (fun _ hk => hk.2.2))); replace HB := zaa.mk (hb); replace HK := zaa.mk (Kept.zde (S := (fun k_ => P0_ k_)) hg (by repeat (first | (with_reducible first | exact HK.out | apply Kept.alloc | apply Kept.drewN | apply Kept.drew | refine Kept.setCell ?_ (.inr GW156.out) _) | exact HK.out)) (fun k_ e_ => (HO166.out.1 k_ e_).1)); replace HR163 := zaa.mk ((show Kd.C k50 w30 (some ad157) y160.length y160 from by rw [Ny160.out]; exact Kd.zc9 (m := (x5_1 : Int).toNat) ((Kd.R_reads' (Kd.zby (ok := (fun k_ => (P0_ k_ ∨ w.heap.size ≤ k_) ∧ k_ ≠ gb156)) (Yr HO_0) hg hat)).2.2) KL27.out)); replace HO_0 := zaa.mk (Kd.zby (ok := (fun k_ => (P0_ k_ ∨ w.heap.size ≤ k_) ∧ k_ ≠ gb156)) (Yr HO_0) hg hat); have HO169 := zaa.mk (ho); clear HO166; clear ho hb hg hat; have q31 : (x5_1 : Int) ≤ ((l0.length : Int) : Int) := Yod; obtain ⟨i031, hi031, _, hsz31, _⟩ := info_parts zdv; have hroom31 : l0.length ≤ co24 := (Kd.R_reads' HO_0.out).2.1; have hC31 : Kd.C k50 _ (some ad157) l0.length l0 := (Kd.R_reads' HO_0.out).2.2; have q031 : (0 : Int) ≤ (x5_1 : Int) := Yod; have hcut31 := zeb (P := Tryz.prog) 45 50 .i64 Tryz.underlying45 hi031 3 hsz31 (some ad157) l0.length co24 x5_1 q031 q31; have hr31 := Kd.zd5 (m := (x5_1 : Int).toNat) (c := co24) hC31 (by omega) hroom31; obtain ⟨A31, hA31⟩ : ∃ A1, A1 = (if co24 = (x5_1 : Int).toNat then (some ad157) else ((some ad157) : Option Addr).map (·.add ((x5_1 : Int).toNat * 3))) := ⟨_, rfl⟩; obtain ⟨c31, hc31⟩ : ∃ c1, c1 = co24 - (x5_1 : Int).toNat := ⟨_, rfl⟩; have hy31 : y170.length = l0.length - (x5_1 : Int).toNat := (by rw [Ny170.out, List.length_drop] <;> omega); rw [show (l0).drop (x5_1 : Int).toNat = y170 from Ny170.out.symm] at hr31; replace hr31 : Kd.C k50 _ A31 y170.length y170 := (by rw [hA31]; exact hr31); rw [← hy31, ← hA31, ← hc31] at hcut31; have HR173 := zaa.mk hr31; have HC173 := zaa.mk (show y170.length ≤ c31 from by rw [hy31, hc31]; exact Nat.sub_le_sub_right hroom31 _); clear hr31 hC31 hroom31 hi031 hsz31 hc31; have KY31 := zaa.mk hy31; have KA31 := zaa.mk hA31; clear hy31 hA31; have KL31 := zaa.mk (show (x5_1 : Int).toNat ≤ l0.length from by omega); replace q31 := eq_true q31) | ((with_reducible refine zca (b := .append) (xs := #[.tmp 43, .tmp 46]) rfl ?_); at_builtin; refine Kd.zb9 k50 (w0 := w0) w0.heap.size rfl (.tmp 43) (.tmp 46) 45 50 (.agg #[(.int .i64 0), (.int .i64 0), (.int .i64 0)]) 24 rfl Tryz.underlying45 zdv rfl (by decide) (by omega) v168 y167 y170 _ _ _ (fun k_ => (P0_ k_ ∨ w.heap.size ≤ k_) ∧ some k_ ≠ (.slice (some ad157) l0.length co24 : Value).ownBlock ∧ k_ ≠ gb156) (fun _ => False) rfl rfl ?aO ?aR (fun _ _ h => h) (fun _ h => h.elim) ?aF ?aB ?aS ?aL ?_; (case aR => repeat (first | exact (by repeat (first | (with_reducible exact HR173.out) | (with_reducible refine Kd.C_alloc ?_ _) | (with_reducible refine Kd.C_drewN ?_ _) | (with_reducible refine Kd.C_drew ?_) | exact HR173.out)) | (with_reducible refine Kd.C_alloc ?_ _) | (with_reducible refine Kd.C_drewN ?_ _) | (with_reducible refine Kd.C_drew ?_))); (case aB => exact Yb_PItemTellsx7_0); (case aF => exact (fun k_ hk => ⟨(.inr (Nat.le_trans (by first | exact HK.out.1 | exact (show Kept w _ (fun k_ => P0_ k_) from by repeat (first | (with_reducible first | exact HK.out | apply Kept.alloc | apply Kept.drewN | apply Kept.drew | refine Kept.setCell ?_ (.inr GW156.out) _) | exact HK.out)).1) hk)), Kd.fresh' (Kd.R_lt (Yr HO_0)) k_ hk, Kd.zcl (g := gb156) (o := .cells #[.int .i64 a1_0, .int .i64 a1_1, .int .i64 a1_2] 50 (0, 0)) (Yg BK156) k_ hk⟩)); (case aO => exact (Yr HO169)); (case aS => exact (za8 Yb_PItemTellsx7_0)); (case aL => have := LMc22.out; omega); intro v175 w32 ho hb hg hat; rw [← Ny174.out] at ho; replace BK156 := zaa.mk (zcc (g := gb156) (o := .cells #[.int .i64 a1_0, .int .i64 a1_1, .int .i64 a1_2] 50 (0, 0)) (Yg BK156) hg (Kd.zgw HO169.out (fun _ hk => hk.2.2))); replace HB := zaa.mk (hb); replace HK := zaa.mk (Kept.zde (S := (fun k_ => P0_ k_)) hg (by repeat (first | (with_reducible first | exact HK.out | apply Kept.alloc | apply Kept.drewN | apply Kept.drew | refine Kept.setCell ?_ (.inr GW156.out) _) | exact HK.out)) (fun k_ e_ => (HO169.out.1 k_ e_).1)); replace HR163 := zaa.mk ((show Kd.C k50 w32 (some ad157) y160.length y160 from by rw [Ny160.out]; exact Kd.zc9 (m := (x5_1 : Int).toNat) ((Kd.R_reads' (Kd.zby (ok := (fun k_ => (P0_ k_ ∨ w.heap.size ≤ k_) ∧ k_ ≠ gb156)) (Yr HO_0) hg hat)).2.2) KL27.out)); replace HR173 := zaa.mk ((show Kd.C k50 w32 A31 y170.length y170 from by rw [Ny170.out, KA31.out]; exact Kd.zd5 (m := (x5_1 : Int).toNat) (c := co24) ((Kd.R_reads' (Kd.zby (ok := (fun k_ => (P0_ k_ ∨ w.heap.size ≤ k_) ∧ k_ ≠ gb156)) (Yr HO_0) hg hat)).2.2) KL31.out ((Kd.R_reads' (Kd.zby (ok := (fun k_ => (P0_ k_ ∨ w.heap.size ≤ k_) ∧ k_ ≠ gb156)) (Yr HO_0) hg hat)).2.1))); replace HO_0 := zaa.mk (Kd.zby (ok := (fun k_ => (P0_ k_ ∨ w.heap.size ≤ k_) ∧ k_ ≠ gb156)) (Yr HO_0) hg hat); have HO176 := zaa.mk (ho); clear HO169; clear ho hb hg hat))
           go_ret
           exact ⟨_, by first | rfl | (simp [errW_none, errW_some] <;> rfl) | (simp [*, errW_none, errW_some] <;> rfl), by (with_reducible repeat (first | apply Kd.R_alloc | apply Kd.zb0 | apply Kd.zbn)); exact Kd.zba HO176.out (fun _ hk => hk.1), by repeat (first | (with_reducible first | exact HB.out | apply za2 | apply zav | apply zas | refine za6 ?_ GE156.out) | exact HB.out), by repeat (first | (with_reducible first | exact HK.out | apply Kept.alloc | apply Kept.drewN | apply Kept.drew | refine Kept.setCell ?_ (.inr GW156.out) _) | exact HK.out)⟩
          ·rw [if_neg c22] at H
           exact absurd H (by simp)
         ·rw [if_neg c19] at H
          exact absurd H (by simp)
        ·rw [if_neg c18] at H
         exact absurd H (by simp)
       ·rw [if_neg c17] at H
        exact absurd H (by simp)
    ·rw [if_neg c5] at H
     exact absurd H (by simp)
   ·rw [if_neg c4] at H
    have c4b0 := decide_eq_false c4
    clear c4
    by_cases c33 : 0 ≤ x5_1
    ·rw [if_pos c33] at H
     have c33b0 := eq_true c33
     have c33b1 := decide_eq_true c33
     clear c33
     by_cases c34 : x5_1 ≤ (l0.length : Int)
     ·rw [if_pos c34] at H
      have c34b0 := eq_true c34
      have c34b1 := decide_eq_true c34
      clear c34
      obtain ⟨y177, hy177⟩ : ∃ y_ : List (S50), y_ = (l0.take (x5_1 : Int).toNat) := ⟨_, rfl⟩
      replace H : (if ([] : List (S50)).length + y177.length < 5864062014805 then ((some (([] : List (S50)) ++ y177 : List (S50))).bind fun y181 => (if y181.length < 5864062014805 then ((some (y181 ++ [(⟨a1_0, a1_1, a1_2⟩ : S50)] : List (S50))).bind fun y184 => ((some (l0.drop (x5_1 : Int).toNat : List (S50))).bind fun y187 => (if y184.length + y187.length < 5864062014805 then (some (y184 ++ y187)) else (none)))) else (none))) else (none)) = some r := by first | (rw [hy177]; with_reducible exact H) | (have H2_ := (Option.bind_some _ _).symm.trans H; rw [hy177]; with_reducible exact H2_) | (have H2_ := (Option.bind_some _ _).symm.trans H; with_reducible exact H2_) | with_reducible exact H | (rw [hy177]; exact H) | exact H
      have Ny177 := zaa.mk hy177;clear hy177
      by_cases c35 : ([] : List (S50)).length + y177.length < 5864062014805
      ·rw [if_pos c35] at H
       have LMc35 := zaa.mk c35;clear c35
       obtain ⟨y181, hy181⟩ : ∃ y_ : List (S50), y_ = (([] : List (S50)) ++ y177) := ⟨_, rfl⟩
       replace H : (if y181.length < 5864062014805 then ((some (y181 ++ [(⟨a1_0, a1_1, a1_2⟩ : S50)] : List (S50))).bind fun y184 => ((some (l0.drop (x5_1 : Int).toNat : List (S50))).bind fun y187 => (if y184.length + y187.length < 5864062014805 then (some (y184 ++ y187)) else (none)))) else (none)) = some r := by first | (rw [hy181]; with_reducible exact H) | (have H2_ := (Option.bind_some _ _).symm.trans H; rw [hy181]; with_reducible exact H2_) | (have H2_ := (Option.bind_some _ _).symm.trans H; with_reducible exact H2_) | with_reducible exact H | (rw [hy181]; exact H) | exact H
       have Ny181 := zaa.mk hy181;clear hy181
       by_cases c36 : y181.length < 5864062014805
       ·rw [if_pos c36] at H
        have LMc36 := zaa.mk c36;clear c36
        obtain ⟨y184, hy184⟩ : ∃ y_ : List (S50), y_ = (y181 ++ [(⟨a1_0, a1_1, a1_2⟩ : S50)]) := ⟨_, rfl⟩
        replace H : ((some (l0.drop (x5_1 : Int).toNat : List (S50))).bind fun y187 => (if y184.length + y187.length < 5864062014805 then (some (y184 ++ y187)) else (none))) = some r := by first | (rw [hy184]; with_reducible exact H) | (have H2_ := (Option.bind_some _ _).symm.trans H; rw [hy184]; with_reducible exact H2_) | (have H2_ := (Option.bind_some _ _).symm.trans H; with_reducible exact H2_) | with_reducible exact H | (rw [hy184]; exact H) | exact H
        have Ny184 := zaa.mk hy184;clear hy184
        have c37b0 := eq_true (of_decide_eq_true (by first | (with_reducible assumption) | assumption) : 0 ≤ x5_1)
        have c38b0 := eq_true (of_decide_eq_true (by first | (with_reducible assumption) | assumption) : x5_1 ≤ (l0.length : Int))
        obtain ⟨y187, hy187⟩ : ∃ y_ : List (S50), y_ = (l0.drop (x5_1 : Int).toNat) := ⟨_, rfl⟩
        replace H : (if y184.length + y187.length < 5864062014805 then (some (y184 ++ y187)) else (none)) = some r := by first | (rw [hy187]; with_reducible exact H) | (have H2_ := (Option.bind_some _ _).symm.trans H; rw [hy187]; with_reducible exact H2_) | (have H2_ := (Option.bind_some _ _).symm.trans H; with_reducible exact H2_) | with_reducible exact H | (rw [hy187]; exact H) | exact H
        have Ny187 := zaa.mk hy187;clear hy187
        by_cases c39 : y184.length + y187.length < 5864062014805
        ·rw [if_pos c39] at H
         have LMc39 := zaa.mk c39;clear c39
         obtain ⟨y191, hy191⟩ : ∃ y_ : List (S50), y_ = (y184 ++ y187) := ⟨_, rfl⟩
         replace H : (some y191) = some r := by first | (rw [hy191]; with_reducible exact H) | (have H2_ := (Option.bind_some _ _).symm.trans H; rw [hy191]; with_reducible exact H2_) | (have H2_ := (Option.bind_some _ _).symm.trans H; with_reducible exact H2_) | with_reducible exact H | (rw [hy191]; exact H) | exact H
         have Ny191 := zaa.mk hy191;clear hy191;obtain rfl := Option.some.inj H
         try go_wp2
         replace HO_0 := zaa.mk (Kd.zbn HO_0.out)
         replace BK156 := zaa.mk (zah BK156.out)
         replace HK := zaa.mk (Kept.drew HK.out)
         replace HB := zaa.mk (zas HB.out)
         obtain ⟨Ao41, co41, eo41⟩ := Kd.zbj HO_0.out
         (first | subst eo41 | (injection eo41 with f1_ f2_ f3_; have f4_ := f1_.symm; have f5_ := f3_.symm; clear f1_ f2_ f3_; subst f4_; subst f5_))
         refine zbl (n := 12) (S := fun w' => True) (ds := []) (Ymk 12 0) (by kernel_rfl) rfl rfl trivial (fun hHeld => ?_); refine zbw zar.tab2 zar.bits2 (fun HT_ HW_ => ?_)
         generalize wr.drew = w40 at HO_0 BK156 HK HB hHeld ⊢
         refine Ypt 0 7 12 1 HT_ ?_
         refine Ypt 1 8 12 3 HT_ ?_
         refine Ypt 2 9 12 7 HT_ ?_
         refine Ypt 3 10 12 15 HT_ ?_
         refine Ypt 4 11 12 31 HT_ ?_
         refine Ypu 5 12 12 63 HT_ ?_
         refine Ypu 6 13 12 127 HT_ ?_
         refine Ypu 7 14 12 255 HT_ ?_
         refine Ypu 8 15 12 511 HT_ ?_
         refine Ypu 9 16 12 1023 HT_ ?_
         refine Ypu 10 17 12 2047 HT_ ?_
         refine Ypt 11 18 12 4095 HT_ ?_
         refine zbq (zb4 HT_.out (by kernel_rfl)) ?_
         try go_wp2
         replace HO_0 := zaa.mk (Kd.zbn HO_0.out)
         replace BK156 := zaa.mk (zah BK156.out)
         replace HK := zaa.mk (Kept.drew HK.out)
         replace HB := zaa.mk (zas HB.out)
         refine zbl (n := 12) (S := fun w' => True) (ds := []) (Ymk 12 0) (by kernel_rfl) rfl rfl trivial (fun hHeld => ?_); refine zbw zar.tab4 zar.bits4 (fun HT_ HW_ => ?_)
         generalize w40.drew = w42 at HO_0 BK156 HK HB hHeld ⊢
         refine Ypt 0 21 12 1 HT_ ?_
         refine Ypt 1 22 12 3 HT_ ?_
         refine Ypt 2 23 12 7 HT_ ?_
         refine Ypt 3 24 12 15 HT_ ?_
         refine Ypt 4 25 12 31 HT_ ?_
         refine Ypu 5 26 12 63 HT_ ?_
         refine Ypu 6 27 12 127 HT_ ?_
         refine Ypu 7 28 12 255 HT_ ?_
         refine Ypu 8 29 12 511 HT_ ?_
         refine Ypu 9 30 12 1023 HT_ ?_
         refine Ypu 10 31 12 2047 HT_ ?_
         refine Ypt 11 32 12 4095 HT_ ?_
         refine zbq (zb4 HT_.out (by kernel_rfl)) ?_
         have q43 : (x5_1 : Int) ≤ ((l0.length : Int) : Int) := Yod
         obtain ⟨i043, hi043, _, hsz43, _⟩ := info_parts zdv
         have hroom43 : l0.length ≤ co41 := (Kd.R_reads' HO_0.out).2.1
         have hC43 : Kd.C k50 _ Ao41 l0.length l0 := (Kd.R_reads' HO_0.out).2.2
         have hcut43 := cut_to (P := Tryz.prog) 45 50 .i64 Tryz.underlying45 hi043 Ao41 l0.length co41 x5_1 (of_decide_eq_true (by first | (with_reducible assumption) | assumption)) q43 hroom43
         have hr43 := Kd.zc9 (m := (x5_1 : Int).toNat) hC43 (by omega)
         have hy43 : y177.length = (x5_1 : Int).toNat := (by rw [Ny177.out, List.length_take]; omega)
         rw [← Ny177.out] at hr43
         rw [← hy43] at hcut43
         have HR180 := zaa.mk hr43
         have HC180 := zaa.mk (show y177.length ≤ co41 from by omega)
         clear hr43 hC43 hroom43 hi043 hsz43;have KY43 := zaa.mk hy43;clear hy43
         have KL43 := zaa.mk (show (x5_1 : Int).toNat ≤ l0.length from by omega)
         replace q43 := eq_true q43
         try go_wp2_with (first | ((with_reducible refine zca (b := .append) (xs := #[.tmp 34, .tmp 37]) rfl ?_); at_builtin; refine Kd.zb9 k50 (w0 := w0) w0.heap.size rfl (.tmp 34) (.tmp 37) 45 50 (.agg #[(.int .i64 0), (.int .i64 0), (.int .i64 0)]) 24 rfl Tryz.underlying45 zdv rfl (by decide) (by omega) (.slice none 0 0) ([] : List (S50)) y177 _ _ _ (fun k_ => (P0_ k_ ∨ w.heap.size ≤ k_) ∧ some k_ ≠ (.slice Ao41 l0.length co41 : Value).ownBlock ∧ k_ ≠ gb156) (fun _ => False) rfl rfl ?aO ?aR (fun _ _ h => h) (fun _ h => h.elim) ?aF ?aB ?aS ?aL ?_; (case aR => repeat (first | exact (by repeat (first | (with_reducible exact HR180.out) | (with_reducible refine Kd.C_alloc ?_ _) | (with_reducible refine Kd.C_drewN ?_ _) | (with_reducible refine Kd.C_drew ?_) | exact HR180.out)) | (with_reducible refine Kd.C_alloc ?_ _) | (with_reducible refine Kd.C_drewN ?_ _) | (with_reducible refine Kd.C_drew ?_))); (case aB => exact Yb_PItemTellsx7_0); (case aF => exact (fun k_ hk => ⟨(.inr (Nat.le_trans (by first | exact HK.out.1 | exact (show Kept w _ (fun k_ => P0_ k_) from by repeat (first | (with_reducible first | exact HK.out | apply Kept.alloc | apply Kept.drewN | apply Kept.drew | refine Kept.setCell ?_ (.inr GW156.out) _) | exact HK.out)).1) hk)), Kd.fresh' (Kd.R_lt (Yr HO_0)) k_ hk, Kd.zcl (g := gb156) (o := .cells #[.int .i64 a1_0, .int .i64 a1_1, .int .i64 a1_2] 50 (0, 0)) (Yg BK156) k_ hk⟩)); (case aO => exact ((Kd.zdr _ _ _ _ (fun k_ => (P0_ k_ ∨ w.heap.size ≤ k_) ∧ some k_ ≠ (.slice Ao41 l0.length co41 : Value).ownBlock ∧ k_ ≠ gb156)))); (case aS => exact (za8 Yb_PItemTellsx7_0)); (case aL => have := LMc35.out; omega); intro v182 w44 ho hb hg hat; rw [← Ny181.out] at ho; replace BK156 := zaa.mk (zcc (g := gb156) (o := .cells #[.int .i64 a1_0, .int .i64 a1_1, .int .i64 a1_2] 50 (0, 0)) (Yg BK156) hg (by simp [Value.ownBlock])); replace HB := zaa.mk (hb); replace HK := zaa.mk (Kept.zde (S := (fun k_ => P0_ k_)) hg (by repeat (first | (with_reducible first | exact HK.out | apply Kept.alloc | apply Kept.drewN | apply Kept.drew | refine Kept.setCell ?_ (.inr GW156.out) _) | exact HK.out)) (fun k_ e_ => by simp [Value.ownBlock] at e_)); replace HR180 := zaa.mk ((show Kd.C k50 w44 Ao41 y177.length y177 from by rw [Ny177.out]; exact Kd.zc9 (m := (x5_1 : Int).toNat) ((Kd.R_reads' (Kd.zby (Kd.zdk (Yr HO_0)) hg hat)).2.2) KL43.out)); replace HO_0 := zaa.mk (Kd.zby (Kd.zdk (Yr HO_0)) hg hat); have HO183 := zaa.mk (ho); clear ho hb hg hat; obtain ⟨hcz45_0, hfz45_0, hcz45_1, hfz45_1, hcz45_2, hfz45_2⟩ := Yc3 BK156.out) | ((with_reducible refine zca (b := .append) (xs := #[.tmp 39, .tmp 41]) rfl ?_); at_builtin; refine Kd.zdd k50 (w0 := w0) w0.heap.size rfl (.tmp 39) (.tmp 41) 45 50 (.agg #[(.int .i64 0), (.int .i64 0), (.int .i64 0)]) 24 rfl Tryz.underlying45 zdv rfl (by decide) (by omega) v182 y181 (⟨a1_0, a1_1, a1_2⟩ : S50) [.int .i64 a1_0, .int .i64 a1_1, .int .i64 a1_2] (fun k_ => (P0_ k_ ∨ w.heap.size ≤ k_) ∧ some k_ ≠ (.slice Ao41 l0.length co41 : Value).ownBlock ∧ k_ ≠ gb156) (fun _ => False) rfl rfl ?aP (fun _ hk => hk.elim) ?aF ?aO ?aB ?aS ?aL ?_; (case aP => exact zg4 _ _ _ (⟨a1_0, a1_1, a1_2⟩ : S50)); (case aB => exact Yb_PItemTellsx7_0); (case aF => exact (fun k_ hk => ⟨(.inr (Nat.le_trans (by first | exact HK.out.1 | exact (show Kept w _ (fun k_ => P0_ k_) from by repeat (first | (with_reducible first | exact HK.out | apply Kept.alloc | apply Kept.drewN | apply Kept.drew | refine Kept.setCell ?_ (.inr GW156.out) _) | exact HK.out)).1) hk)), Kd.fresh' (Kd.R_lt (Yr HO_0)) k_ hk, Kd.zcl (g := gb156) (o := .cells #[.int .i64 a1_0, .int .i64 a1_1, .int .i64 a1_2] 50 (0, 0)) (Yg BK156) k_ hk⟩)); (case aO => exact (Yr HO183)); (case aS => exact (za8 Yb_PItemTellsx7_0)); (case aL => have := LMc36.out; omega); intro v185 w46 ho hb hg hat; rw [← Ny184.out] at ho; replace BK156 := zaa.mk (zcc (g := gb156) (o := .cells #[.int .i64 a1_0, .int .i64 a1_1, .int .i64 a1_2] 50 (0, 0)) (Yg BK156) hg (Kd.zgw HO183.out (fun _ hk => hk.2.2))); replace HB := zaa.mk (hb); replace HK := zaa.mk (Kept.zde (S := (fun k_ => P0_ k_)) hg (by repeat (first | (with_reducible first | exact HK.out | apply Kept.alloc | apply Kept.drewN | apply Kept.drew | refine Kept.setCell ?_ (.inr GW156.out) _) | exact HK.out)) (fun k_ e_ => (HO183.out.1 k_ e_).1)); replace HR180 := zaa.mk ((show Kd.C k50 w46 Ao41 y177.length y177 from by rw [Ny177.out]; exact Kd.zc9 (m := (x5_1 : Int).toNat) ((Kd.R_reads' (Kd.zby (ok := (fun k_ => (P0_ k_ ∨ w.heap.size ≤ k_) ∧ k_ ≠ gb156)) (Yr HO_0) hg hat)).2.2) KL43.out)); replace HO_0 := zaa.mk (Kd.zby (ok := (fun k_ => (P0_ k_ ∨ w.heap.size ≤ k_) ∧ k_ ≠ gb156)) (Yr HO_0) hg hat); have HO186 := zaa.mk (ho); clear HO183; clear ho hb hg hat; have q47 : (x5_1 : Int) ≤ ((l0.length : Int) : Int) := Yod; obtain ⟨i047, hi047, _, hsz47, _⟩ := info_parts zdv; have hroom47 : l0.length ≤ co41 := (Kd.R_reads' HO_0.out).2.1; have hC47 : Kd.C k50 _ Ao41 l0.length l0 := (Kd.R_reads' HO_0.out).2.2; have q047 : (0 : Int) ≤ (x5_1 : Int) := Yod; have hcut47 := zeb (P := Tryz.prog) 45 50 .i64 Tryz.underlying45 hi047 3 hsz47 Ao41 l0.length co41 x5_1 q047 q47; have hr47 := Kd.zd5 (m := (x5_1 : Int).toNat) (c := co41) hC47 (by omega) hroom47; obtain ⟨A47, hA47⟩ : ∃ A1, A1 = (if co41 = (x5_1 : Int).toNat then Ao41 else (Ao41 : Option Addr).map (·.add ((x5_1 : Int).toNat * 3))) := ⟨_, rfl⟩; obtain ⟨c47, hc47⟩ : ∃ c1, c1 = co41 - (x5_1 : Int).toNat := ⟨_, rfl⟩; have hy47 : y187.length = l0.length - (x5_1 : Int).toNat := (by rw [Ny187.out, List.length_drop] <;> omega); rw [show (l0).drop (x5_1 : Int).toNat = y187 from Ny187.out.symm] at hr47; replace hr47 : Kd.C k50 _ A47 y187.length y187 := (by rw [hA47]; exact hr47); rw [← hy47, ← hA47, ← hc47] at hcut47; have HR190 := zaa.mk hr47; have HC190 := zaa.mk (show y187.length ≤ c47 from by rw [hy47, hc47]; exact Nat.sub_le_sub_right hroom47 _); clear hr47 hC47 hroom47 hi047 hsz47 hc47; have KY47 := zaa.mk hy47; have KA47 := zaa.mk hA47; clear hy47 hA47; have KL47 := zaa.mk (show (x5_1 : Int).toNat ≤ l0.length from by omega); replace q47 := eq_true q47) | ((with_reducible refine zca (b := .append) (xs := #[.tmp 43, .tmp 46]) rfl ?_); at_builtin; refine Kd.zb9 k50 (w0 := w0) w0.heap.size rfl (.tmp 43) (.tmp 46) 45 50 (.agg #[(.int .i64 0), (.int .i64 0), (.int .i64 0)]) 24 rfl Tryz.underlying45 zdv rfl (by decide) (by omega) v185 y184 y187 _ _ _ (fun k_ => (P0_ k_ ∨ w.heap.size ≤ k_) ∧ some k_ ≠ (.slice Ao41 l0.length co41 : Value).ownBlock ∧ k_ ≠ gb156) (fun _ => False) rfl rfl ?aO ?aR (fun _ _ h => h) (fun _ h => h.elim) ?aF ?aB ?aS ?aL ?_; (case aR => repeat (first | exact (by repeat (first | (with_reducible exact HR190.out) | (with_reducible refine Kd.C_alloc ?_ _) | (with_reducible refine Kd.C_drewN ?_ _) | (with_reducible refine Kd.C_drew ?_) | exact HR190.out)) | (with_reducible refine Kd.C_alloc ?_ _) | (with_reducible refine Kd.C_drewN ?_ _) | (with_reducible refine Kd.C_drew ?_))); (case aB => exact Yb_PItemTellsx7_0); (case aF => exact (fun k_ hk => ⟨(.inr (Nat.le_trans (by first | exact HK.out.1 | exact (show Kept w _ (fun k_ => P0_ k_) from by repeat (first | (with_reducible first | exact HK.out | apply Kept.alloc | apply Kept.drewN | apply Kept.drew | refine Kept.setCell ?_ (.inr GW156.out) _) | exact HK.out)).1) hk)), Kd.fresh' (Kd.R_lt (Yr HO_0)) k_ hk, Kd.zcl (g := gb156) (o := .cells #[.int .i64 a1_0, .int .i64 a1_1, .int .i64 a1_2] 50 (0, 0)) (Yg BK156) k_ hk⟩)); (case aO => exact (Yr HO186)); (case aS => exact (za8 Yb_PItemTellsx7_0)); (case aL => have := LMc39.out; omega); intro v192 w48 ho hb hg hat; rw [← Ny191.out] at ho; replace BK156 := zaa.mk (zcc (g := gb156) (o := .cells #[.int .i64 a1_0, .int .i64 a1_1, .int .i64 a1_2] 50 (0, 0)) (Yg BK156) hg (Kd.zgw HO186.out (fun _ hk => hk.2.2))); replace HB := zaa.mk (hb); replace HK := zaa.mk (Kept.zde (S := (fun k_ => P0_ k_)) hg (by repeat (first | (with_reducible first | exact HK.out | apply Kept.alloc | apply Kept.drewN | apply Kept.drew | refine Kept.setCell ?_ (.inr GW156.out) _) | exact HK.out)) (fun k_ e_ => (HO186.out.1 k_ e_).1)); replace HR180 := zaa.mk ((show Kd.C k50 w48 Ao41 y177.length y177 from by rw [Ny177.out]; exact Kd.zc9 (m := (x5_1 : Int).toNat) ((Kd.R_reads' (Kd.zby (ok := (fun k_ => (P0_ k_ ∨ w.heap.size ≤ k_) ∧ k_ ≠ gb156)) (Yr HO_0) hg hat)).2.2) KL43.out)); replace HR190 := zaa.mk ((show Kd.C k50 w48 A47 y187.length y187 from by rw [Ny187.out, KA47.out]; exact Kd.zd5 (m := (x5_1 : Int).toNat) (c := co41) ((Kd.R_reads' (Kd.zby (ok := (fun k_ => (P0_ k_ ∨ w.heap.size ≤ k_) ∧ k_ ≠ gb156)) (Yr HO_0) hg hat)).2.2) KL47.out ((Kd.R_reads' (Kd.zby (ok := (fun k_ => (P0_ k_ ∨ w.heap.size ≤ k_) ∧ k_ ≠ gb156)) (Yr HO_0) hg hat)).2.1))); replace HO_0 := zaa.mk (Kd.zby (ok := (fun k_ => (P0_ k_ ∨ w.heap.size ≤ k_) ∧ k_ ≠ gb156)) (Yr HO_0) hg hat); have HO193 := zaa.mk (ho); clear HO186; clear ho hb hg hat))
         go_ret
         exact ⟨_, by first | rfl | (simp [errW_none, errW_some] <;> rfl) | (simp [*, errW_none, errW_some] <;> rfl), by (with_reducible repeat (first | apply Kd.R_alloc | apply Kd.zb0 | apply Kd.zbn)); exact Kd.zba HO193.out (fun _ hk => hk.1), by repeat (first | (with_reducible first | exact HB.out | apply za2 | apply zav | apply zas | refine za6 ?_ GE156.out) | exact HB.out), by repeat (first | (with_reducible first | exact HK.out | apply Kept.alloc | apply Kept.drewN | apply Kept.drew | refine Kept.setCell ?_ (.inr GW156.out) _) | exact HK.out)⟩
        ·rw [if_neg c39] at H
         exact absurd H (by simp)
       ·rw [if_neg c36] at H
        exact absurd H (by simp)
      ·rw [if_neg c35] at H
       exact absurd H (by simp)
     ·rw [if_neg c34] at H
      exact absurd H (by simp)
    ·rw [if_neg c33] at H
     exact absurd H (by simp)
section
end
def zbs.l0 : Nat → List Int → Int → Int → Option (List Int)
 | 0, _, _, _ => none
 | k + 1, x0, x1, x5 => if x5 < (x0.length : Int) then (if 0 ≤ x5 then (if (rd x0 x5) < x1 then (zbs.l0 k x0 x1 (wrap64 (x5 + 1))) else (if (rd x0 x5) = x1 then (some x0) else (if x5 ≤ (x0.length : Int) then ((some (x0.take (x5 : Int).toNat : List Int)).bind fun y196 => (if ([] : List Int).length + y196.length < 17592186044416 then ((some (([] : List Int) ++ y196 : List Int)).bind fun y200 => (if y200.length < 17592186044416 then ((some (y200 ++ [x1] : List Int)).bind fun y203 => ((some (x0.drop (x5 : Int).toNat : List Int)).bind fun y206 => (if y203.length + y206.length < 17592186044416 then (some (y203 ++ y206)) else (none)))) else (none))) else (none))) else (none)))) else (none)) else (if 0 ≤ x5 then (if x5 ≤ (x0.length : Int) then ((some (x0.take (x5 : Int).toNat : List Int)).bind fun y213 => (if ([] : List Int).length + y213.length < 17592186044416 then ((some (([] : List Int) ++ y213 : List Int)).bind fun y217 => (if y217.length < 17592186044416 then ((some (y217 ++ [x1] : List Int)).bind fun y220 => ((some (x0.drop (x5 : Int).toNat : List Int)).bind fun y223 => (if y220.length + y223.length < 17592186044416 then (some (y220 ++ y223)) else (none)))) else (none))) else (none))) else (none)) else (none))
def zbs.f (k : Nat) (l0 : List Int) (a1 : Int) : Option (List Int) := zbs.l0 k l0 a1 0
theorem zbs.calls (k : Nat) (P0_ : Nat → Prop) (u9000_ : Value) (l0 : List Int) (a1 : Int) (r : List Int) (w0 w : World) (hB : Below w0.heap.size w0 w) (ho0 : Kd.R (Kd.int .i64) 3 w w0.heap.size P0_ u9000_ l0) (h : zbs.f k l0 a1 = some r) :
  Calls Tryz.prog 54 #[u9000_, .int .i64 a1] w fun e w' => ∃ v0_ : Value, e = .returned (v0_) ∧ Kd.R (Kd.int .i64) 3 w' w0.heap.size (fun k_ => (P0_ k_ ∨ w.heap.size ≤ k_)) v0_ r ∧ Below w0.heap.size w0 w' ∧ Kept w w' (fun k_ => P0_ k_) := by
 have HO0 := zaa.mk (show Kd.R (Kd.int .i64) 3 w w0.heap.size (fun k_ => (P0_ k_ ∨ w.heap.size ≤ k_)) u9000_ l0 from Kd.zba ho0 (fun k_ hk => (.inl hk)))
 have HK := zaa.mk (Kept.refl w (fun k_ => P0_ k_))
 have HW0 := zaa.mk hB.size
 have HB := zaa.mk hB;clear hB
 have H : (zbs.l0 k l0 a1 0) = some r := h
 clear h
 have H' := zaa.mk H
 clear H
 go_enter Tryz.func54, Tryz.ntmps54
 go_wp2
 go_loopg [5] k (fun kq v5 w' => ∃ (x5_1 : Int), v5 = .int .i64 x5_1 ∧ zaa (zbs.l0 kq l0 a1 x5_1 = some r) ∧ zaa (kq ≤ k) ∧ zaa (Kd.R (Kd.int .i64) 3 w' w0.heap.size (fun k_ => (P0_ k_ ∨ w.heap.size ≤ k_)) u9000_ l0) ∧ zaa (Kept w w' (fun k_ => P0_ k_)) ∧ zaa (Below w0.heap.size w0 w'))
 case atStart => exact ⟨(0), Yfs, H', ⟨Nat.le_refl _⟩, ⟨Yr HO0⟩, ⟨by repeat (first | (with_reducible first | exact HK.out | apply Kept.alloc | apply Kept.drewN | apply Kept.drew) | exact HK.out)⟩, ⟨Ybe⟩⟩
 case round =>
  clear H'
  obtain ⟨x5_1, rfl, HA, HK1, HO_0, HK, HB⟩ := hrel
  cases gk with
  | zero => exact absurd HA.out (by simp [zbs.l0])
  | succ k1 =>
   have H := HA.out;clear HA
   simp only [zbs.l0] at H
   by_cases c3 : x5_1 < (l0.length : Int)
   ·rw [if_pos c3] at H
    have c3b0 := decide_eq_true c3
    clear c3
    by_cases c4 : 0 ≤ x5_1
    ·rw [if_pos c4] at H
     have c4b0 := decide_eq_true c4
     clear c4
     by_cases c5 : (rd l0 x5_1) < a1
     ·rw [if_pos c5] at H
      have c5b0 := decide_eq_true c5
      clear c5
      have H' := zaa.mk H
      clear H
      obtain ⟨Ao6, co6, eo6⟩ := Kd.zbj HO_0.out
      subst eo6
      have p194 : 0 ≤ (x5_1 : Int) := Yod
      have q194 : x5_1 < (l0.length : Int) := Yod
      obtain ⟨ad194, e194, hx194_0⟩ := Kd.zek (Kd.R_reads' HO_0.out).2.2 x5_1 p194 q194
      cases e194
      replace p194 := eq_true p194
      replace q194 := eq_true q194
      go_wp2
      go_roundg k1
      case measure => have := HK1.out; omega
      case rel => exact ⟨(wrap64 (x5_1 + 1)), Yfs, H', ⟨by have := HK1.out; omega⟩, ⟨Yr HO_0⟩, ⟨by repeat (first | (with_reducible first | exact HK.out | apply Kept.alloc | apply Kept.drewN | apply Kept.drew) | exact HK.out)⟩, ⟨Ybe⟩⟩
     ·rw [if_neg c5] at H
      have c5b0 := decide_eq_false c5
      clear c5
      by_cases c7 : (rd l0 x5_1) = a1
      ·rw [if_pos c7] at H
       have c7b0 : ((rd l0 x5_1) == a1) = true := beq_iff_eq.mpr c7
       have c7b1 : ((rd l0 x5_1) != a1) = false := bne_eq_false_iff_eq.mpr c7
       clear c7;obtain rfl := Option.some.inj H
       obtain ⟨Ao8, co8, eo8⟩ := Kd.zbj HO_0.out
       subst eo8
       have p194 : 0 ≤ (x5_1 : Int) := Yod
       have q194 : x5_1 < (l0.length : Int) := Yod
       obtain ⟨ad194, e194, hx194_0⟩ := Kd.zek (Kd.R_reads' HO_0.out).2.2 x5_1 p194 q194
       cases e194
       replace p194 := eq_true p194
       replace q194 := eq_true q194
       have p195 : 0 ≤ (x5_1 : Int) := Yod
       have q195 : x5_1 < (l0.length : Int) := Yod
       obtain ⟨ad195, e195, hx195_0⟩ := Kd.zek (Kd.R_reads' HO_0.out).2.2 x5_1 p195 q195
       obtain rfl : ad194 = ad195 := (by injection e195)
       replace p195 := eq_true p195
       replace q195 := eq_true q195
       go_wp2;go_ret
       exact ⟨_, by first | rfl | (simp [errW_none, errW_some] <;> rfl) | (simp [*, errW_none, errW_some] <;> rfl), by (with_reducible repeat (first | apply Kd.R_alloc | apply Kd.zb0 | apply Kd.zbn)); exact HO_0.out, by repeat (first | (with_reducible first | exact HB.out | apply za2 | apply zav | apply zas) | exact HB.out), by repeat (first | (with_reducible first | exact HK.out | apply Kept.alloc | apply Kept.drewN | apply Kept.drew) | exact HK.out)⟩
      ·rw [if_neg c7] at H
       have c7b0 : ((rd l0 x5_1) == a1) = false := beq_eq_false_iff_ne.mpr c7
       have c7b1 : ((rd l0 x5_1) != a1) = true := bne_iff_ne.mpr c7
       have c9b0 := eq_true (of_decide_eq_true (by first | (with_reducible assumption) | assumption) : 0 ≤ x5_1)
       by_cases c10 : x5_1 ≤ (l0.length : Int)
       ·rw [if_pos c10] at H
        have c10b0 := eq_true c10
        have c10b1 := decide_eq_true c10
        clear c10
        obtain ⟨y196, hy196⟩ : ∃ y_ : List Int, y_ = (l0.take (x5_1 : Int).toNat) := ⟨_, rfl⟩
        replace H : (if ([] : List Int).length + y196.length < 17592186044416 then ((some (([] : List Int) ++ y196 : List Int)).bind fun y200 => (if y200.length < 17592186044416 then ((some (y200 ++ [a1] : List Int)).bind fun y203 => ((some (l0.drop (x5_1 : Int).toNat : List Int)).bind fun y206 => (if y203.length + y206.length < 17592186044416 then (some (y203 ++ y206)) else (none)))) else (none))) else (none)) = some r := by first | (rw [hy196]; with_reducible exact H) | (have H2_ := (Option.bind_some _ _).symm.trans H; rw [hy196]; with_reducible exact H2_) | (have H2_ := (Option.bind_some _ _).symm.trans H; with_reducible exact H2_) | with_reducible exact H | (rw [hy196]; exact H) | exact H
        have Ny196 := zaa.mk hy196;clear hy196
        by_cases c11 : ([] : List Int).length + y196.length < 17592186044416
        ·rw [if_pos c11] at H
         have LMc11 := zaa.mk c11;clear c11
         obtain ⟨y200, hy200⟩ : ∃ y_ : List Int, y_ = (([] : List Int) ++ y196) := ⟨_, rfl⟩
         replace H : (if y200.length < 17592186044416 then ((some (y200 ++ [a1] : List Int)).bind fun y203 => ((some (l0.drop (x5_1 : Int).toNat : List Int)).bind fun y206 => (if y203.length + y206.length < 17592186044416 then (some (y203 ++ y206)) else (none)))) else (none)) = some r := by first | (rw [hy200]; with_reducible exact H) | (have H2_ := (Option.bind_some _ _).symm.trans H; rw [hy200]; with_reducible exact H2_) | (have H2_ := (Option.bind_some _ _).symm.trans H; with_reducible exact H2_) | with_reducible exact H | (rw [hy200]; exact H) | exact H
         have Ny200 := zaa.mk hy200;clear hy200
         by_cases c12 : y200.length < 17592186044416
         ·rw [if_pos c12] at H
          have LMc12 := zaa.mk c12;clear c12
          obtain ⟨y203, hy203⟩ : ∃ y_ : List Int, y_ = (y200 ++ [a1]) := ⟨_, rfl⟩
          replace H : ((some (l0.drop (x5_1 : Int).toNat : List Int)).bind fun y206 => (if y203.length + y206.length < 17592186044416 then (some (y203 ++ y206)) else (none))) = some r := by first | (rw [hy203]; with_reducible exact H) | (have H2_ := (Option.bind_some _ _).symm.trans H; rw [hy203]; with_reducible exact H2_) | (have H2_ := (Option.bind_some _ _).symm.trans H; with_reducible exact H2_) | with_reducible exact H | (rw [hy203]; exact H) | exact H
          have Ny203 := zaa.mk hy203;clear hy203
          have c13b0 := eq_true (of_decide_eq_true (by first | (with_reducible assumption) | assumption) : 0 ≤ x5_1)
          have c14b0 := eq_true (of_decide_eq_true (by first | (with_reducible assumption) | assumption) : x5_1 ≤ (l0.length : Int))
          obtain ⟨y206, hy206⟩ : ∃ y_ : List Int, y_ = (l0.drop (x5_1 : Int).toNat) := ⟨_, rfl⟩
          replace H : (if y203.length + y206.length < 17592186044416 then (some (y203 ++ y206)) else (none)) = some r := by first | (rw [hy206]; with_reducible exact H) | (have H2_ := (Option.bind_some _ _).symm.trans H; rw [hy206]; with_reducible exact H2_) | (have H2_ := (Option.bind_some _ _).symm.trans H; with_reducible exact H2_) | with_reducible exact H | (rw [hy206]; exact H) | exact H
          have Ny206 := zaa.mk hy206;clear hy206
          by_cases c15 : y203.length + y206.length < 17592186044416
          ·rw [if_pos c15] at H
           have LMc15 := zaa.mk c15;clear c15
           obtain ⟨y210, hy210⟩ : ∃ y_ : List Int, y_ = (y203 ++ y206) := ⟨_, rfl⟩
           replace H : (some y210) = some r := by first | (rw [hy210]; with_reducible exact H) | (have H2_ := (Option.bind_some _ _).symm.trans H; rw [hy210]; with_reducible exact H2_) | (have H2_ := (Option.bind_some _ _).symm.trans H; with_reducible exact H2_) | with_reducible exact H | (rw [hy210]; exact H) | exact H
           have Ny210 := zaa.mk hy210;clear hy210;obtain rfl := Option.some.inj H
           obtain ⟨Ao16, co16, eo16⟩ := Kd.zbj HO_0.out
           subst eo16
           have p194 : 0 ≤ (x5_1 : Int) := Yod
           have q194 : x5_1 < (l0.length : Int) := Yod
           obtain ⟨ad194, e194, hx194_0⟩ := Kd.zek (Kd.R_reads' HO_0.out).2.2 x5_1 p194 q194
           cases e194
           replace p194 := eq_true p194
           replace q194 := eq_true q194
           have p195 : 0 ≤ (x5_1 : Int) := Yod
           have q195 : x5_1 < (l0.length : Int) := Yod
           obtain ⟨ad195, e195, hx195_0⟩ := Kd.zek (Kd.R_reads' HO_0.out).2.2 x5_1 p195 q195
           obtain rfl : ad194 = ad195 := (by injection e195)
           replace p195 := eq_true p195
           replace q195 := eq_true q195
           have q17 : (x5_1 : Int) ≤ ((l0.length : Int) : Int) := Yod
           obtain ⟨i017, hi017, _, hsz17, _⟩ := info_parts info3
           have hroom17 : l0.length ≤ co16 := (Kd.R_reads' HO_0.out).2.1
           have hC17 : Kd.C (Kd.int .i64) _ (some ad194) l0.length l0 := (Kd.R_reads' HO_0.out).2.2
           have hcut17 := cut_to (P := Tryz.prog) 35 3 .i64 Tryz.underlying35 hi017 (some ad194) l0.length co16 x5_1 (of_decide_eq_true (by first | (with_reducible assumption) | assumption)) q17 hroom17
           have hr17 := Kd.zc9 (m := (x5_1 : Int).toNat) hC17 (by omega)
           have hy17 : y196.length = (x5_1 : Int).toNat := (by rw [Ny196.out, List.length_take]; omega)
           rw [← Ny196.out] at hr17
           rw [← hy17] at hcut17
           have HR199 := zaa.mk hr17
           have HC199 := zaa.mk (show y196.length ≤ co16 from by omega)
           clear hr17 hC17 hroom17 hi017 hsz17;have KY17 := zaa.mk hy17;clear hy17
           have KL17 := zaa.mk (show (x5_1 : Int).toNat ≤ l0.length from by omega)
           replace q17 := eq_true q17
           go_wp2_with (first | ((with_reducible refine zca (b := .append) (xs := #[.tmp 34, .tmp 37]) rfl ?_); at_builtin; refine Kd.zb9 (Kd.int .i64) (w0 := w0) w0.heap.size rfl (.tmp 34) (.tmp 37) 35 3 (.int .i64 0) 8 rfl Tryz.underlying35 info3 rfl (by decide) (by omega) (.slice none 0 0) ([] : List Int) y196 _ _ _ (fun k_ => (P0_ k_ ∨ w.heap.size ≤ k_) ∧ some k_ ≠ (.slice (some ad194) l0.length co16 : Value).ownBlock) (fun _ => False) rfl rfl ?aO ?aR (fun _ _ h => h) (fun _ h => h.elim) ?aF ?aB ?aS ?aL ?_; (case aR => repeat (first | exact (by repeat (first | (with_reducible exact HR199.out) | (with_reducible refine Kd.C_alloc ?_ _) | (with_reducible refine Kd.C_drewN ?_ _) | (with_reducible refine Kd.C_drew ?_) | exact HR199.out)) | (with_reducible refine Kd.C_alloc ?_ _) | (with_reducible refine Kd.C_drewN ?_ _) | (with_reducible refine Kd.C_drew ?_))); (case aB => exact Ybe); (case aF => exact (fun k_ hk => ⟨(.inr (Nat.le_trans (by first | exact HK.out.1 | exact (show Kept w _ (fun k_ => P0_ k_) from by repeat (first | (with_reducible first | exact HK.out | apply Kept.alloc | apply Kept.drewN | apply Kept.drew) | exact HK.out)).1) hk)), Kd.fresh' (Kd.R_lt (Yr HO_0)) k_ hk⟩)); (case aO => exact ((Kd.zdr _ _ _ _ (fun k_ => (P0_ k_ ∨ w.heap.size ≤ k_) ∧ some k_ ≠ (.slice (some ad194) l0.length co16 : Value).ownBlock)))); (case aS => exact (za8 Ybe)); (case aL => have := LMc11.out; omega); intro v201 w18 ho hb hg hat; rw [← Ny200.out] at ho; replace HB := zaa.mk (hb); replace HK := zaa.mk (Kept.zde (S := (fun k_ => P0_ k_)) hg (by repeat (first | (with_reducible first | exact HK.out | apply Kept.alloc | apply Kept.drewN | apply Kept.drew) | exact HK.out)) (fun k_ e_ => by simp [Value.ownBlock] at e_)); replace HR199 := zaa.mk ((show Kd.C (Kd.int .i64) w18 (some ad194) y196.length y196 from by rw [Ny196.out]; exact Kd.zc9 (m := (x5_1 : Int).toNat) ((Kd.R_reads' (Kd.zby (Kd.zdk (Yr HO_0)) hg hat)).2.2) KL17.out)); replace HO_0 := zaa.mk (Kd.zby (Kd.zdk (Yr HO_0)) hg hat); have HO202 := zaa.mk (ho); clear ho hb hg hat) | ((with_reducible refine zca (b := .append) (xs := #[.tmp 39, .tmp 41]) rfl ?_); at_builtin; refine Kd.zdd (Kd.int .i64) (w0 := w0) w0.heap.size rfl (.tmp 39) (.tmp 41) 35 3 (.int .i64 0) 8 rfl Tryz.underlying35 info3 rfl (by decide) (by omega) v201 y200 a1 [.int .i64 a1] (fun k_ => (P0_ k_ ∨ w.heap.size ≤ k_) ∧ some k_ ≠ (.slice (some ad194) l0.length co16 : Value).ownBlock) (fun _ => False) rfl rfl ?aP (fun _ hk => hk.elim) ?aF ?aO ?aB ?aS ?aL ?_; (case aP => exact rfl); (case aB => exact Ybe); (case aF => exact (fun k_ hk => ⟨(.inr (Nat.le_trans (by first | exact HK.out.1 | exact (show Kept w _ (fun k_ => P0_ k_) from by repeat (first | (with_reducible first | exact HK.out | apply Kept.alloc | apply Kept.drewN | apply Kept.drew) | exact HK.out)).1) hk)), Kd.fresh' (Kd.R_lt (Yr HO_0)) k_ hk⟩)); (case aO => exact (Yr HO202)); (case aS => exact (za8 Ybe)); (case aL => have := LMc12.out; omega); intro v204 w19 ho hb hg hat; rw [← Ny203.out] at ho; replace HB := zaa.mk (hb); replace HK := zaa.mk (Kept.zde (S := (fun k_ => P0_ k_)) hg (by repeat (first | (with_reducible first | exact HK.out | apply Kept.alloc | apply Kept.drewN | apply Kept.drew) | exact HK.out)) (fun k_ e_ => (HO202.out.1 k_ e_).1)); replace HR199 := zaa.mk ((show Kd.C (Kd.int .i64) w19 (some ad194) y196.length y196 from by rw [Ny196.out]; exact Kd.zc9 (m := (x5_1 : Int).toNat) ((Kd.R_reads' (Kd.zby (ok := (fun k_ => (P0_ k_ ∨ w.heap.size ≤ k_))) (Yr HO_0) hg hat)).2.2) KL17.out)); replace HO_0 := zaa.mk (Kd.zby (ok := (fun k_ => (P0_ k_ ∨ w.heap.size ≤ k_))) (Yr HO_0) hg hat); have HO205 := zaa.mk (ho); clear HO202; clear ho hb hg hat; have q20 : (x5_1 : Int) ≤ ((l0.length : Int) : Int) := Yod; obtain ⟨i020, hi020, _, hsz20, _⟩ := info_parts info3; have hroom20 : l0.length ≤ co16 := (Kd.R_reads' HO_0.out).2.1; have hC20 : Kd.C (Kd.int .i64) _ (some ad194) l0.length l0 := (Kd.R_reads' HO_0.out).2.2; have q020 : (0 : Int) ≤ (x5_1 : Int) := Yod; have hcut20 := zeb (P := Tryz.prog) 35 3 .i64 Tryz.underlying35 hi020 1 hsz20 (some ad194) l0.length co16 x5_1 q020 q20; have hr20 := Kd.zd5 (m := (x5_1 : Int).toNat) (c := co16) hC20 (by omega) hroom20; obtain ⟨A20, hA20⟩ : ∃ A1, A1 = (if co16 = (x5_1 : Int).toNat then (some ad194) else ((some ad194) : Option Addr).map (·.add ((x5_1 : Int).toNat * 1))) := ⟨_, rfl⟩; obtain ⟨c20, hc20⟩ : ∃ c1, c1 = co16 - (x5_1 : Int).toNat := ⟨_, rfl⟩; have hy20 : y206.length = l0.length - (x5_1 : Int).toNat := (by rw [Ny206.out, List.length_drop] <;> omega); rw [show (l0).drop (x5_1 : Int).toNat = y206 from Ny206.out.symm] at hr20; replace hr20 : Kd.C (Kd.int .i64) _ A20 y206.length y206 := (by rw [hA20]; exact hr20); rw [← hy20, ← hA20, ← hc20] at hcut20; have HR209 := zaa.mk hr20; have HC209 := zaa.mk (show y206.length ≤ c20 from by rw [hy20, hc20]; exact Nat.sub_le_sub_right hroom20 _); clear hr20 hC20 hroom20 hi020 hsz20 hc20; have KY20 := zaa.mk hy20; have KA20 := zaa.mk hA20; clear hy20 hA20; have KL20 := zaa.mk (show (x5_1 : Int).toNat ≤ l0.length from by omega); replace q20 := eq_true q20) | ((with_reducible refine zca (b := .append) (xs := #[.tmp 43, .tmp 46]) rfl ?_); at_builtin; refine Kd.zb9 (Kd.int .i64) (w0 := w0) w0.heap.size rfl (.tmp 43) (.tmp 46) 35 3 (.int .i64 0) 8 rfl Tryz.underlying35 info3 rfl (by decide) (by omega) v204 y203 y206 _ _ _ (fun k_ => (P0_ k_ ∨ w.heap.size ≤ k_) ∧ some k_ ≠ (.slice (some ad194) l0.length co16 : Value).ownBlock) (fun _ => False) rfl rfl ?aO ?aR (fun _ _ h => h) (fun _ h => h.elim) ?aF ?aB ?aS ?aL ?_; (case aR => repeat (first | exact (by repeat (first | (with_reducible exact HR209.out) | (with_reducible refine Kd.C_alloc ?_ _) | (with_reducible refine Kd.C_drewN ?_ _) | (with_reducible refine Kd.C_drew ?_) | exact HR209.out)) | (with_reducible refine Kd.C_alloc ?_ _) | (with_reducible refine Kd.C_drewN ?_ _) | (with_reducible refine Kd.C_drew ?_))); (case aB => exact Ybe); (case aF => exact (fun k_ hk => ⟨(.inr (Nat.le_trans (by first | exact HK.out.1 | exact (show Kept w _ (fun k_ => P0_ k_) from by repeat (first | (with_reducible first | exact HK.out | apply Kept.alloc | apply Kept.drewN | apply Kept.drew) | exact HK.out)).1) hk)), Kd.fresh' (Kd.R_lt (Yr HO_0)) k_ hk⟩)); (case aO => exact (Yr HO205)); (case aS => exact (za8 Ybe)); (case aL => have := LMc15.out; omega); intro v211 w21 ho hb hg hat; rw [← Ny210.out] at ho; replace HB := zaa.mk (hb); replace HK := zaa.mk (Kept.zde (S := (fun k_ => P0_ k_)) hg (by repeat (first | (with_reducible first | exact HK.out | apply Kept.alloc | apply Kept.drewN | apply Kept.drew) | exact HK.out)) (fun k_ e_ => (HO205.out.1 k_ e_).1)); replace HR199 := zaa.mk ((show Kd.C (Kd.int .i64) w21 (some ad194) y196.length y196 from by rw [Ny196.out]; exact Kd.zc9 (m := (x5_1 : Int).toNat) ((Kd.R_reads' (Kd.zby (ok := (fun k_ => (P0_ k_ ∨ w.heap.size ≤ k_))) (Yr HO_0) hg hat)).2.2) KL17.out)); replace HR209 := zaa.mk ((show Kd.C (Kd.int .i64) w21 A20 y206.length y206 from by rw [Ny206.out, KA20.out]; exact Kd.zd5 (m := (x5_1 : Int).toNat) (c := co16) ((Kd.R_reads' (Kd.zby (ok := (fun k_ => (P0_ k_ ∨ w.heap.size ≤ k_))) (Yr HO_0) hg hat)).2.2) KL20.out ((Kd.R_reads' (Kd.zby (ok := (fun k_ => (P0_ k_ ∨ w.heap.size ≤ k_))) (Yr HO_0) hg hat)).2.1))); replace HO_0 := zaa.mk (Kd.zby (ok := (fun k_ => (P0_ k_ ∨ w.heap.size ≤ k_))) (Yr HO_0) hg hat); have HO212 := zaa.mk (ho); clear HO205; clear ho hb hg hat))
           go_ret
           exact ⟨_, by first | rfl | (simp [errW_none, errW_some] <;> rfl) | (simp [*, errW_none, errW_some] <;> rfl), by (with_reducible repeat (first | apply Kd.R_alloc | apply Kd.zb0 | apply Kd.zbn)); exact Kd.zba HO212.out (fun _ hk => hk.1), by repeat (first | (with_reducible first | exact HB.out | apply za2 | apply zav | apply zas) | exact HB.out), by repeat (first | (with_reducible first | exact HK.out | apply Kept.alloc | apply Kept.drewN | apply Kept.drew) | exact HK.out)⟩
          ·rw [if_neg c15] at H
           exact absurd H (by simp)
         ·rw [if_neg c12] at H
          exact absurd H (by simp)
        ·rw [if_neg c11] at H
         exact absurd H (by simp)
       ·rw [if_neg c10] at H
        exact absurd H (by simp)
    ·rw [if_neg c4] at H
     exact absurd H (by simp)
   ·rw [if_neg c3] at H
    have c3b0 := decide_eq_false c3
    clear c3
    by_cases c22 : 0 ≤ x5_1
    ·rw [if_pos c22] at H
     have c22b0 := eq_true c22
     have c22b1 := decide_eq_true c22
     clear c22
     by_cases c23 : x5_1 ≤ (l0.length : Int)
     ·rw [if_pos c23] at H
      have c23b0 := eq_true c23
      have c23b1 := decide_eq_true c23
      clear c23
      obtain ⟨y213, hy213⟩ : ∃ y_ : List Int, y_ = (l0.take (x5_1 : Int).toNat) := ⟨_, rfl⟩
      replace H : (if ([] : List Int).length + y213.length < 17592186044416 then ((some (([] : List Int) ++ y213 : List Int)).bind fun y217 => (if y217.length < 17592186044416 then ((some (y217 ++ [a1] : List Int)).bind fun y220 => ((some (l0.drop (x5_1 : Int).toNat : List Int)).bind fun y223 => (if y220.length + y223.length < 17592186044416 then (some (y220 ++ y223)) else (none)))) else (none))) else (none)) = some r := by first | (rw [hy213]; with_reducible exact H) | (have H2_ := (Option.bind_some _ _).symm.trans H; rw [hy213]; with_reducible exact H2_) | (have H2_ := (Option.bind_some _ _).symm.trans H; with_reducible exact H2_) | with_reducible exact H | (rw [hy213]; exact H) | exact H
      have Ny213 := zaa.mk hy213;clear hy213
      by_cases c24 : ([] : List Int).length + y213.length < 17592186044416
      ·rw [if_pos c24] at H
       have LMc24 := zaa.mk c24;clear c24
       obtain ⟨y217, hy217⟩ : ∃ y_ : List Int, y_ = (([] : List Int) ++ y213) := ⟨_, rfl⟩
       replace H : (if y217.length < 17592186044416 then ((some (y217 ++ [a1] : List Int)).bind fun y220 => ((some (l0.drop (x5_1 : Int).toNat : List Int)).bind fun y223 => (if y220.length + y223.length < 17592186044416 then (some (y220 ++ y223)) else (none)))) else (none)) = some r := by first | (rw [hy217]; with_reducible exact H) | (have H2_ := (Option.bind_some _ _).symm.trans H; rw [hy217]; with_reducible exact H2_) | (have H2_ := (Option.bind_some _ _).symm.trans H; with_reducible exact H2_) | with_reducible exact H | (rw [hy217]; exact H) | exact H
       have Ny217 := zaa.mk hy217;clear hy217
       by_cases c25 : y217.length < 17592186044416
       ·rw [if_pos c25] at H
        have LMc25 := zaa.mk c25;clear c25
        obtain ⟨y220, hy220⟩ : ∃ y_ : List Int, y_ = (y217 ++ [a1]) := ⟨_, rfl⟩
        replace H : ((some (l0.drop (x5_1 : Int).toNat : List Int)).bind fun y223 => (if y220.length + y223.length < 17592186044416 then (some (y220 ++ y223)) else (none))) = some r := by first | (rw [hy220]; with_reducible exact H) | (have H2_ := (Option.bind_some _ _).symm.trans H; rw [hy220]; with_reducible exact H2_) | (have H2_ := (Option.bind_some _ _).symm.trans H; with_reducible exact H2_) | with_reducible exact H | (rw [hy220]; exact H) | exact H
        have Ny220 := zaa.mk hy220;clear hy220
        have c26b0 := eq_true (of_decide_eq_true (by first | (with_reducible assumption) | assumption) : 0 ≤ x5_1)
        have c27b0 := eq_true (of_decide_eq_true (by first | (with_reducible assumption) | assumption) : x5_1 ≤ (l0.length : Int))
        obtain ⟨y223, hy223⟩ : ∃ y_ : List Int, y_ = (l0.drop (x5_1 : Int).toNat) := ⟨_, rfl⟩
        replace H : (if y220.length + y223.length < 17592186044416 then (some (y220 ++ y223)) else (none)) = some r := by first | (rw [hy223]; with_reducible exact H) | (have H2_ := (Option.bind_some _ _).symm.trans H; rw [hy223]; with_reducible exact H2_) | (have H2_ := (Option.bind_some _ _).symm.trans H; with_reducible exact H2_) | with_reducible exact H | (rw [hy223]; exact H) | exact H
        have Ny223 := zaa.mk hy223;clear hy223
        by_cases c28 : y220.length + y223.length < 17592186044416
        ·rw [if_pos c28] at H
         have LMc28 := zaa.mk c28;clear c28
         obtain ⟨y227, hy227⟩ : ∃ y_ : List Int, y_ = (y220 ++ y223) := ⟨_, rfl⟩
         replace H : (some y227) = some r := by first | (rw [hy227]; with_reducible exact H) | (have H2_ := (Option.bind_some _ _).symm.trans H; rw [hy227]; with_reducible exact H2_) | (have H2_ := (Option.bind_some _ _).symm.trans H; with_reducible exact H2_) | with_reducible exact H | (rw [hy227]; exact H) | exact H
         have Ny227 := zaa.mk hy227;clear hy227;obtain rfl := Option.some.inj H
         obtain ⟨Ao29, co29, eo29⟩ := Kd.zbj HO_0.out
         subst eo29
         have q30 : (x5_1 : Int) ≤ ((l0.length : Int) : Int) := Yod
         obtain ⟨i030, hi030, _, hsz30, _⟩ := info_parts info3
         have hroom30 : l0.length ≤ co29 := (Kd.R_reads' HO_0.out).2.1
         have hC30 : Kd.C (Kd.int .i64) _ Ao29 l0.length l0 := (Kd.R_reads' HO_0.out).2.2
         have hcut30 := cut_to (P := Tryz.prog) 35 3 .i64 Tryz.underlying35 hi030 Ao29 l0.length co29 x5_1 (of_decide_eq_true (by first | (with_reducible assumption) | assumption)) q30 hroom30
         have hr30 := Kd.zc9 (m := (x5_1 : Int).toNat) hC30 (by omega)
         have hy30 : y213.length = (x5_1 : Int).toNat := (by rw [Ny213.out, List.length_take]; omega)
         rw [← Ny213.out] at hr30
         rw [← hy30] at hcut30
         have HR216 := zaa.mk hr30
         have HC216 := zaa.mk (show y213.length ≤ co29 from by omega)
         clear hr30 hC30 hroom30 hi030 hsz30;have KY30 := zaa.mk hy30;clear hy30
         have KL30 := zaa.mk (show (x5_1 : Int).toNat ≤ l0.length from by omega)
         replace q30 := eq_true q30
         go_wp2_with (first | ((with_reducible refine zca (b := .append) (xs := #[.tmp 34, .tmp 37]) rfl ?_); at_builtin; refine Kd.zb9 (Kd.int .i64) (w0 := w0) w0.heap.size rfl (.tmp 34) (.tmp 37) 35 3 (.int .i64 0) 8 rfl Tryz.underlying35 info3 rfl (by decide) (by omega) (.slice none 0 0) ([] : List Int) y213 _ _ _ (fun k_ => (P0_ k_ ∨ w.heap.size ≤ k_) ∧ some k_ ≠ (.slice Ao29 l0.length co29 : Value).ownBlock) (fun _ => False) rfl rfl ?aO ?aR (fun _ _ h => h) (fun _ h => h.elim) ?aF ?aB ?aS ?aL ?_; (case aR => repeat (first | exact (by repeat (first | (with_reducible exact HR216.out) | (with_reducible refine Kd.C_alloc ?_ _) | (with_reducible refine Kd.C_drewN ?_ _) | (with_reducible refine Kd.C_drew ?_) | exact HR216.out)) | (with_reducible refine Kd.C_alloc ?_ _) | (with_reducible refine Kd.C_drewN ?_ _) | (with_reducible refine Kd.C_drew ?_))); (case aB => exact Ybe); (case aF => exact (fun k_ hk => ⟨(.inr (Nat.le_trans (by first | exact HK.out.1 | exact (show Kept w _ (fun k_ => P0_ k_) from by repeat (first | (with_reducible first | exact HK.out | apply Kept.alloc | apply Kept.drewN | apply Kept.drew) | exact HK.out)).1) hk)), Kd.fresh' (Kd.R_lt (Yr HO_0)) k_ hk⟩)); (case aO => exact ((Kd.zdr _ _ _ _ (fun k_ => (P0_ k_ ∨ w.heap.size ≤ k_) ∧ some k_ ≠ (.slice Ao29 l0.length co29 : Value).ownBlock)))); (case aS => exact (za8 Ybe)); (case aL => have := LMc24.out; omega); intro v218 w31 ho hb hg hat; rw [← Ny217.out] at ho; replace HB := zaa.mk (hb); replace HK := zaa.mk (Kept.zde (S := (fun k_ => P0_ k_)) hg (by repeat (first | (with_reducible first | exact HK.out | apply Kept.alloc | apply Kept.drewN | apply Kept.drew) | exact HK.out)) (fun k_ e_ => by simp [Value.ownBlock] at e_)); replace HR216 := zaa.mk ((show Kd.C (Kd.int .i64) w31 Ao29 y213.length y213 from by rw [Ny213.out]; exact Kd.zc9 (m := (x5_1 : Int).toNat) ((Kd.R_reads' (Kd.zby (Kd.zdk (Yr HO_0)) hg hat)).2.2) KL30.out)); replace HO_0 := zaa.mk (Kd.zby (Kd.zdk (Yr HO_0)) hg hat); have HO219 := zaa.mk (ho); clear ho hb hg hat) | ((with_reducible refine zca (b := .append) (xs := #[.tmp 39, .tmp 41]) rfl ?_); at_builtin; refine Kd.zdd (Kd.int .i64) (w0 := w0) w0.heap.size rfl (.tmp 39) (.tmp 41) 35 3 (.int .i64 0) 8 rfl Tryz.underlying35 info3 rfl (by decide) (by omega) v218 y217 a1 [.int .i64 a1] (fun k_ => (P0_ k_ ∨ w.heap.size ≤ k_) ∧ some k_ ≠ (.slice Ao29 l0.length co29 : Value).ownBlock) (fun _ => False) rfl rfl ?aP (fun _ hk => hk.elim) ?aF ?aO ?aB ?aS ?aL ?_; (case aP => exact rfl); (case aB => exact Ybe); (case aF => exact (fun k_ hk => ⟨(.inr (Nat.le_trans (by first | exact HK.out.1 | exact (show Kept w _ (fun k_ => P0_ k_) from by repeat (first | (with_reducible first | exact HK.out | apply Kept.alloc | apply Kept.drewN | apply Kept.drew) | exact HK.out)).1) hk)), Kd.fresh' (Kd.R_lt (Yr HO_0)) k_ hk⟩)); (case aO => exact (Yr HO219)); (case aS => exact (za8 Ybe)); (case aL => have := LMc25.out; omega); intro v221 w32 ho hb hg hat; rw [← Ny220.out] at ho; replace HB := zaa.mk (hb); replace HK := zaa.mk (Kept.zde (S := (fun k_ => P0_ k_)) hg (by repeat (first | (with_reducible first | exact HK.out | apply Kept.alloc | apply Kept.drewN | apply Kept.drew) | exact HK.out)) (fun k_ e_ => (HO219.out.1 k_ e_).1)); replace HR216 := zaa.mk ((show Kd.C (Kd.int .i64) w32 Ao29 y213.length y213 from by rw [Ny213.out]; exact Kd.zc9 (m := (x5_1 : Int).toNat) ((Kd.R_reads' (Kd.zby (ok := (fun k_ => (P0_ k_ ∨ w.heap.size ≤ k_))) (Yr HO_0) hg hat)).2.2) KL30.out)); replace HO_0 := zaa.mk (Kd.zby (ok := (fun k_ => (P0_ k_ ∨ w.heap.size ≤ k_))) (Yr HO_0) hg hat); have HO222 := zaa.mk (ho); clear HO219; clear ho hb hg hat; have q33 : (x5_1 : Int) ≤ ((l0.length : Int) : Int) := Yod; obtain ⟨i033, hi033, _, hsz33, _⟩ := info_parts info3; have hroom33 : l0.length ≤ co29 := (Kd.R_reads' HO_0.out).2.1; have hC33 : Kd.C (Kd.int .i64) _ Ao29 l0.length l0 := (Kd.R_reads' HO_0.out).2.2; have q033 : (0 : Int) ≤ (x5_1 : Int) := Yod; have hcut33 := zeb (P := Tryz.prog) 35 3 .i64 Tryz.underlying35 hi033 1 hsz33 Ao29 l0.length co29 x5_1 q033 q33; have hr33 := Kd.zd5 (m := (x5_1 : Int).toNat) (c := co29) hC33 (by omega) hroom33; obtain ⟨A33, hA33⟩ : ∃ A1, A1 = (if co29 = (x5_1 : Int).toNat then Ao29 else (Ao29 : Option Addr).map (·.add ((x5_1 : Int).toNat * 1))) := ⟨_, rfl⟩; obtain ⟨c33, hc33⟩ : ∃ c1, c1 = co29 - (x5_1 : Int).toNat := ⟨_, rfl⟩; have hy33 : y223.length = l0.length - (x5_1 : Int).toNat := (by rw [Ny223.out, List.length_drop] <;> omega); rw [show (l0).drop (x5_1 : Int).toNat = y223 from Ny223.out.symm] at hr33; replace hr33 : Kd.C (Kd.int .i64) _ A33 y223.length y223 := (by rw [hA33]; exact hr33); rw [← hy33, ← hA33, ← hc33] at hcut33; have HR226 := zaa.mk hr33; have HC226 := zaa.mk (show y223.length ≤ c33 from by rw [hy33, hc33]; exact Nat.sub_le_sub_right hroom33 _); clear hr33 hC33 hroom33 hi033 hsz33 hc33; have KY33 := zaa.mk hy33; have KA33 := zaa.mk hA33; clear hy33 hA33; have KL33 := zaa.mk (show (x5_1 : Int).toNat ≤ l0.length from by omega); replace q33 := eq_true q33) | ((with_reducible refine zca (b := .append) (xs := #[.tmp 43, .tmp 46]) rfl ?_); at_builtin; refine Kd.zb9 (Kd.int .i64) (w0 := w0) w0.heap.size rfl (.tmp 43) (.tmp 46) 35 3 (.int .i64 0) 8 rfl Tryz.underlying35 info3 rfl (by decide) (by omega) v221 y220 y223 _ _ _ (fun k_ => (P0_ k_ ∨ w.heap.size ≤ k_) ∧ some k_ ≠ (.slice Ao29 l0.length co29 : Value).ownBlock) (fun _ => False) rfl rfl ?aO ?aR (fun _ _ h => h) (fun _ h => h.elim) ?aF ?aB ?aS ?aL ?_; (case aR => repeat (first | exact (by repeat (first | (with_reducible exact HR226.out) | (with_reducible refine Kd.C_alloc ?_ _) | (with_reducible refine Kd.C_drewN ?_ _) | (with_reducible refine Kd.C_drew ?_) | exact HR226.out)) | (with_reducible refine Kd.C_alloc ?_ _) | (with_reducible refine Kd.C_drewN ?_ _) | (with_reducible refine Kd.C_drew ?_))); (case aB => exact Ybe); (case aF => exact (fun k_ hk => ⟨(.inr (Nat.le_trans (by first | exact HK.out.1 | exact (show Kept w _ (fun k_ => P0_ k_) from by repeat (first | (with_reducible first | exact HK.out | apply Kept.alloc | apply Kept.drewN | apply Kept.drew) | exact HK.out)).1) hk)), Kd.fresh' (Kd.R_lt (Yr HO_0)) k_ hk⟩)); (case aO => exact (Yr HO222)); (case aS => exact (za8 Ybe)); (case aL => have := LMc28.out; omega); intro v228 w34 ho hb hg hat; rw [← Ny227.out] at ho; replace HB := zaa.mk (hb); replace HK := zaa.mk (Kept.zde (S := (fun k_ => P0_ k_)) hg (by repeat (first | (with_reducible first | exact HK.out | apply Kept.alloc | apply Kept.drewN | apply Kept.drew) | exact HK.out)) (fun k_ e_ => (HO222.out.1 k_ e_).1)); replace HR216 := zaa.mk ((show Kd.C (Kd.int .i64) w34 Ao29 y213.length y213 from by rw [Ny213.out]; exact Kd.zc9 (m := (x5_1 : Int).toNat) ((Kd.R_reads' (Kd.zby (ok := (fun k_ => (P0_ k_ ∨ w.heap.size ≤ k_))) (Yr HO_0) hg hat)).2.2) KL30.out)); replace HR226 := zaa.mk ((show Kd.C (Kd.int .i64) w34 A33 y223.length y223 from by rw [Ny223.out, KA33.out]; exact Kd.zd5 (m := (x5_1 : Int).toNat) (c := co29) ((Kd.R_reads' (Kd.zby (ok := (fun k_ => (P0_ k_ ∨ w.heap.size ≤ k_))) (Yr HO_0) hg hat)).2.2) KL33.out ((Kd.R_reads' (Kd.zby (ok := (fun k_ => (P0_ k_ ∨ w.heap.size ≤ k_))) (Yr HO_0) hg hat)).2.1))); replace HO_0 := zaa.mk (Kd.zby (ok := (fun k_ => (P0_ k_ ∨ w.heap.size ≤ k_))) (Yr HO_0) hg hat); have HO229 := zaa.mk (ho); clear HO222; clear ho hb hg hat))
         go_ret
         exact ⟨_, by first | rfl | (simp [errW_none, errW_some] <;> rfl) | (simp [*, errW_none, errW_some] <;> rfl), by (with_reducible repeat (first | apply Kd.R_alloc | apply Kd.zb0 | apply Kd.zbn)); exact Kd.zba HO229.out (fun _ hk => hk.1), by repeat (first | (with_reducible first | exact HB.out | apply za2 | apply zav | apply zas) | exact HB.out), by repeat (first | (with_reducible first | exact HK.out | apply Kept.alloc | apply Kept.drewN | apply Kept.drew) | exact HK.out)⟩
        ·rw [if_neg c28] at H
         exact absurd H (by simp)
       ·rw [if_neg c25] at H
        exact absurd H (by simp)
      ·rw [if_neg c24] at H
       exact absurd H (by simp)
     ·rw [if_neg c23] at H
      exact absurd H (by simp)
    ·rw [if_neg c22] at H
     exact absurd H (by simp)
def zbd.l0 : Nat → List Int → List Int → Int → Option (List Int)
 | 0, _, _, _ => none
 | k + 1, x0, x1, x5 => if x5 < (x1.length : Int) then (if 0 ≤ x5 then ((zbs.f k x0 (rd x1 x5)).bind fun t231 => (zbd.l0 k t231 x1 (wrap64 (x5 + 1)))) else (none)) else (some x0)
def zbd.f (k : Nat) (l0 : List Int) (l1 : List Int) : Option (List Int) := zbd.l0 k l0 l1 0
theorem zbd.calls (k : Nat) (P0_ : Nat → Prop) (u9000_ : Value) (l0 : List Int) (A1 : Option Addr) (c1 : Nat) (l1 : List Int) (r : List Int) (w0 w : World) (hB : Below w0.heap.size w0 w) (ho0 : Kd.R (Kd.int .i64) 3 w w0.heap.size P0_ u9000_ l0) (hr1 : ∀ W_, Kept w W_ (fun k_ => P0_ k_) → Kd.C (Kd.int .i64) W_ A1 l1.length l1) (hc1 : l1.length ≤ c1) (h : zbd.f k l0 l1 = some r) :
  Calls Tryz.prog 41 #[u9000_, .slice A1 l1.length c1] w fun e w' => ∃ v0_ : Value, e = .returned (v0_) ∧ Kd.R (Kd.int .i64) 3 w' w0.heap.size (fun k_ => (P0_ k_ ∨ w.heap.size ≤ k_)) v0_ r ∧ Below w0.heap.size w0 w' ∧ Kept w w' (fun k_ => P0_ k_) := by
 have HO0 := zaa.mk (show Kd.R (Kd.int .i64) 3 w w0.heap.size (fun k_ => (P0_ k_ ∨ w.heap.size ≤ k_)) u9000_ l0 from Kd.zba ho0 (fun k_ hk => (.inl hk)))
 have HR1 := zaa.mk hr1;have HC1 := zaa.mk hc1;clear hr1 hc1
 have HK := zaa.mk (Kept.refl w (fun k_ => P0_ k_))
 have HW0 := zaa.mk hB.size
 have HB := zaa.mk hB;clear hB
 have H : (zbd.l0 k l0 l1 0) = some r := h
 clear h
 have H' := zaa.mk H
 clear H
 go_enter Tryz.func41, Tryz.ntmps41
 go_wp2
 go_loopg [0, 5] k (fun kq v0 v5 w' => ∃ (x0_1 : List Int) (x5_1 : Int), v5 = .int .i64 x5_1 ∧ zaa (zbd.l0 kq x0_1 l1 x5_1 = some r) ∧ zaa (kq ≤ k) ∧ zaa (Kd.R (Kd.int .i64) 3 w' w0.heap.size (fun k_ => (P0_ k_ ∨ w.heap.size ≤ k_)) v0 x0_1) ∧ zaa (Kept w w' (fun k_ => P0_ k_)) ∧ zaa (Below w0.heap.size w0 w'))
 case atStart => exact ⟨(l0), (0), Yfs, H', ⟨Nat.le_refl _⟩, ⟨Yr HO0⟩, ⟨by repeat (first | (with_reducible first | exact HK.out | apply Kept.alloc | apply Kept.drewN | apply Kept.drew) | exact HK.out)⟩, ⟨Ybe⟩⟩
 case round =>
  clear H'
  obtain ⟨x0_1, x5_1, rfl, HA, HK1, HO_0, HK, HB⟩ := hrel
  cases gk with
  | zero => exact absurd HA.out (by simp [zbd.l0])
  | succ k1 =>
   have H := HA.out;clear HA
   simp only [zbd.l0] at H
   by_cases c3 : x5_1 < (l1.length : Int)
   ·rw [if_pos c3] at H
    have c3b0 := decide_eq_true c3
    clear c3
    by_cases c4 : 0 ≤ x5_1
    ·rw [if_pos c4] at H
     have c4b0 := decide_eq_true c4
     clear c4;replace H := Option.bind_eq_some_iff.mp H
     obtain ⟨t231, A50, H⟩ := H
     replace H : (zbd.l0 k1 t231 l1 (wrap64 (x5_1 + 1))) = some r := H
     have A5 := zaa.mk A50;clear A50
     have H' := zaa.mk H
     clear H
     have p230 : 0 ≤ (x5_1 : Int) := Yod
     have q230 : x5_1 < (l1.length : Int) := Yod
     obtain ⟨ad230, e230, hx230_0⟩ := Kd.zek (Kd.C_kept_now HR1.out HK.out) x5_1 p230 q230
     cases e230
     replace p230 := eq_true p230
     replace q230 := eq_true q230
     obtain ⟨Ao6, co6, eo6⟩ := Kd.zbj HO_0.out
     subst eo6
     go_wp2_with (first | ((with_reducible refine zbm (f := 54) rfl ?_); refine Ygl (some 17) Tryz.func54 #[.slice Ao6 x0_1.length co6, .int .i64 (rd l1 x5_1)] ?_; (with_reducible refine (zbs.calls k1 (fun k_ => some k_ = (.slice Ao6 x0_1.length co6 : Value).ownBlock) (.slice Ao6 x0_1.length co6) x0_1 (rd l1 x5_1) t231 w0 _ ?side1 ?side2 A5.out).mono ?_); (case side1 => repeat (first | (with_reducible first | exact HB.out | apply za2 | apply zav | apply zas) | exact HB.out)); (case side2 => exact Kd.zgx rfl HO_0.out); rintro e w7 ⟨v232, rfl, ho0, hb, hkp⟩; refine ⟨_, rfl, ?_⟩; have HO233 := zaa.mk (Kd.zba (ok' := fun k_ => (P0_ k_ ∨ w.heap.size ≤ k_)) ho0 (fun k_ hk_ => Or.elim hk_ (fun hs_ => (HO_0.out.1 k_ (hs_).symm)) (fun hn_ => (.inr (Nat.le_trans (by first | exact HK.out.1 | exact (show Kept w _ (fun k_ => P0_ k_) from by repeat (first | (with_reducible first | exact HK.out | apply Kept.alloc | apply Kept.drewN | apply Kept.drew) | exact HK.out)).1) hn_))))); replace HK := zaa.mk (Kept.then_ (S := (fun k_ => P0_ k_)) (by repeat (first | (with_reducible first | exact HK.out | apply Kept.alloc | apply Kept.drewN | apply Kept.drew) | exact HK.out)) hkp (fun k_ hs_ => (fun e_ => (HO_0.out.1 k_ e_.symm)) hs_)); replace HB := zaa.mk (hb); clear HO_0; (try clear hb); (try clear hkp); (try clear ho0)))
     go_roundg k1
     case measure => have := HK1.out; omega
     case rel => exact ⟨(t231), (wrap64 (x5_1 + 1)), Yfs, H', ⟨by have := HK1.out; omega⟩, ⟨Yr HO233⟩, ⟨by repeat (first | (with_reducible first | exact HK.out | apply Kept.alloc | apply Kept.drewN | apply Kept.drew) | exact HK.out)⟩, ⟨Ybe⟩⟩
    ·rw [if_neg c4] at H
     exact absurd H (by simp)
   ·rw [if_neg c3] at H
    have c3b0 := decide_eq_false c3
    clear c3;obtain rfl := Option.some.inj H;go_wp2;go_ret
    exact ⟨_, by first | rfl | (simp [errW_none, errW_some] <;> rfl) | (simp [*, errW_none, errW_some] <;> rfl), by (with_reducible repeat (first | apply Kd.R_alloc | apply Kd.zb0 | apply Kd.zbn)); exact HO_0.out, by repeat (first | (with_reducible first | exact HB.out | apply za2 | apply zav | apply zas) | exact HB.out), by repeat (first | (with_reducible first | exact HK.out | apply Kept.alloc | apply Kept.drewN | apply Kept.drew) | exact HK.out)⟩
section
end
theorem Yb_PItemTellsx9_0 {n : Nat} {w w' : World} (h : Below n w w' := by repeat (first | (with_reducible first | exact HB.out | apply za2 | apply zav | apply zas | refine za6 ?_ GE234.out) | exact HB.out)) : Below n w w' := h
theorem Yb_PItemTellsx9_1 {n : Nat} {w w' : World} (h : Below n w w' := by repeat (first | (with_reducible first | exact HB.out | apply za2 | apply zav | apply zas | refine za6 ?_ GE234.out | refine za6 ?_ GE245.out) | exact HB.out)) : Below n w w' := h
mutual
def zac.l0 : Nat → List (List Int) → List Bool → List (S50) → List (S50) → List ByteArray → List ByteArray → List (S42) → Option ((List (S50)))
 | 0, _, _, _, _, _, _, _ => none
 | k + 1, x5, x6, x7, x8, x235000, x235001, x235002 => if (x8.length : Int) > 0 then (if 0 < (x8.length : Int) then (if 1 ≤ (x8.length : Int) then ((some (x8.drop (1 : Int).toNat : List (S50))).bind fun y246 => ((zax.f x235000 x235001 x235002 ((zae x8 0).f0) ((zae x8 0).f1) ((zae x8 0).f2)).bind fun t249 => (if t249 = true then ((zar.f k x7 ((zae x8 0).f0) ((zae x8 0).f1) ((zae x8 0).f2)).bind fun t250 => (zac.j1 k x5 x6 t250 y246 (x7.length : Int) x235000 x235001 x235002 ((zae x8 0).f0) ((zae x8 0).f1) ((zae x8 0).f2))) else (zac.j1 k x5 x6 x7 y246 (x7.length : Int) x235000 x235001 x235002 ((zae x8 0).f0) ((zae x8 0).f1) ((zae x8 0).f2))))) else (none)) else (none)) else (some x7)
def zac.j1 : Nat → List (List Int) → List Bool → List (S50) → List (S50) → Int → List ByteArray → List ByteArray → List (S42) → Int → Int → Int → Option ((List (S50)))
 | 0, _, _, _, _, _, _, _, _, _, _, _ => none
 | k + 1, x5, x6, x7, x8, x10, x235000, x235001, x235002, x246000, x246001, x246002 => (zbr.f x235000 x235001 x235002 x246000 x246001 x246002).bind fun bt253 => (if (x7.length : Int) = x10 then (zac.j2 k x5 x6 x7 x8 bt253.1 true x235000 x235001 x235002 x246000 x246001 x246002) else (if bt253.2 = true then (zac.j2 k x5 x6 x7 x8 bt253.1 (decide (bt253.1 < (x235000.length : Int))) x235000 x235001 x235002 x246000 x246001 x246002) else (zac.j2 k x5 x6 x7 x8 bt253.1 true x235000 x235001 x235002 x246000 x246001 x246002)))
def zac.j2 : Nat → List (List Int) → List Bool → List (S50) → List (S50) → Int → Bool → List ByteArray → List ByteArray → List (S42) → Int → Int → Int → Option ((List (S50)))
 | 0, _, _, _, _, _, _, _, _, _, _, _, _ => none
 | k + 1, x5, x6, x7, x8, x11, x63, x235000, x235001, x235002, x246000, x246001, x246002 => if x63 = true then (zac.l0 k x5 x6 x7 x8 x235000 x235001 x235002) else ((zbo.f x235000 x235001 x235002 x246000).bind fun t255 => (if 0 ≤ (wrap64 (x246001 + 1)) then (if (wrap64 (x246001 + 1)) ≤ (t255.length : Int) then (zac.l1 k x5 x6 x7 x8 x11 ([] : List Int) (t255.drop ((wrap64 (x246001 + 1)) : Int).toNat) true 0 x235000 x235001 x235002 x246000 x246001 x246002) else (none)) else (none)))
def zac.j4 : Nat → List (List Int) → List Bool → List (S50) → List (S50) → Int → List Int → Bool → List ByteArray → List ByteArray → List (S42) → Int → Int → Int → Option ((List (S50)))
 | 0, _, _, _, _, _, _, _, _, _, _, _, _, _ => none
 | k + 1, x5, x6, x7, x8, x11, x13, x15, x235000, x235001, x235002, x246000, x246001, x246002 => if x15 = true then ((zbd.f k x13 (([x246002] : List Int))).bind fun t273 => (zac.j5 k x5 x6 x7 x8 x11 t273 x235000 x235001 x235002)) else (zac.j5 k x5 x6 x7 x8 x11 x13 x235000 x235001 x235002)
def zac.j5 : Nat → List (List Int) → List Bool → List (S50) → List (S50) → Int → List Int → List ByteArray → List ByteArray → List (S42) → Option ((List (S50)))
 | 0, _, _, _, _, _, _, _, _, _ => none
 | k + 1, x5, x6, x7, x8, x11, x13, x235000, x235001, x235002 => (zbv.f k x235000 x235001 x235002 x11).bind fun t276 => (zac.l2 k x5 x6 x7 x8 x13 t276 0 x235000 x235001 x235002)
def zac.l2 : Nat → List (List Int) → List Bool → List (S50) → List (S50) → List Int → List Int → Int → List ByteArray → List ByteArray → List (S42) → Option ((List (S50)))
 | 0, _, _, _, _, _, _, _, _, _, _ => none
 | k + 1, x5, x6, x7, x8, x13, x17, x18, x235000, x235001, x235002 => if x18 < (x17.length : Int) then (zac.l3 k x5 x6 x7 x8 x13 x17 x18 0 x235000 x235001 x235002) else (zac.l0 k x5 x6 x7 x8 x235000 x235001 x235002)
def zac.l3 : Nat → List (List Int) → List Bool → List (S50) → List (S50) → List Int → List Int → Int → Int → List ByteArray → List ByteArray → List (S42) → Option ((List (S50)))
 | 0, _, _, _, _, _, _, _, _, _, _, _ => none
 | k + 1, x5, x6, x7, x8, x13, x17, x18, x19, x235000, x235001, x235002 => if x19 < (x13.length : Int) then (if 0 ≤ x18 then (if x18 < (x17.length : Int) then (if 0 ≤ x19 then (if x8.length < 5864062014805 then (zac.l3 k x5 x6 x7 (x8 ++ [(⟨rd x17 x18, 0, rd x13 x19⟩ : S50)]) x13 x17 x18 (wrap64 (x19 + 1)) x235000 x235001 x235002) else (none)) else (none)) else (none)) else (none)) else (zac.l2 k x5 x6 x7 x8 x13 x17 (wrap64 (x18 + 1)) x235000 x235001 x235002)
def zac.l1 : Nat → List (List Int) → List Bool → List (S50) → List (S50) → Int → List Int → List (S44) → Bool → Int → List ByteArray → List ByteArray → List (S42) → Int → Int → Int → Option ((List (S50)))
 | 0, _, _, _, _, _, _, _, _, _, _, _, _, _, _, _ => none
 | k + 1, x5, x6, x7, x8, x11, x13, x14, x15, x16, x235000, x235001, x235002, x246000, x246001, x246002 => if x16 < (x14.length : Int) then (if x15 = true then (if 0 ≤ x16 then (if 0 ≤ ((za3 x14 x16).f0) then (if ((za3 x14 x16).f0) < (x5.length : Int) then ((zbd.f k x13 (zfd x5 ((za3 x14 x16).f0))).bind fun t265 => (if ((za3 x14 x16).f0) < (x6.length : Int) then (zac.l1 k x5 x6 x7 x8 x11 t265 x14 (rdOf false x6 ((za3 x14 x16).f0)) (wrap64 (x16 + 1)) x235000 x235001 x235002 x246000 x246001 x246002) else (none))) else (none)) else (none)) else (none)) else (zac.j4 k x5 x6 x7 x8 x11 x13 x15 x235000 x235001 x235002 x246000 x246001 x246002)) else (zac.j4 k x5 x6 x7 x8 x11 x13 x15 x235000 x235001 x235002 x246000 x246001 x246002)
end
def zac.f (k : Nat) (l0_0 : List ByteArray) (l0_1 : List ByteArray) (l0_2 : List (S42)) (l1 : List (S50)) : Option ((List (S50))) := (zck.f k l0_0 l0_1 l0_2).bind fun t235 => ((zan.f k l0_0 l0_1 l0_2).bind fun t238 => (if ([] : List (S50)).length + l1.length < 5864062014805 then (zac.l0 k t235 t238 ([] : List (S50)) (([] : List (S50)) ++ l1) l0_0 l0_1 l0_2) else (none)))
def zac.T15 : Bool × List (List Nat × List Nat) := (true, [([], []), ([], []), ([1], [1]), ([0, 2], [0, 2]), ([], []), ([4], [4]), ([5], [5]), ([3, 6], [3, 6]), ([7, 3, 0, 1, 2, 3, 4, 5, 6, 7], [7])])
def zac.B15 : List Nat := [0, 0, 2, 7, 0, 16, 48, 127, 255]
theorem zac.tab15 : rtab .any (opsOf Tryz.f21 15) = zac.T15 := by kernel_rfl
theorem zac.bits15 : zc6 zac.T15.2 zac.B15 = true := by kernel_rfl
def zac.T31 : Bool × List (List Nat × List Nat) := (true, [([], []), ([], []), ([], []), ([1, 2], [1, 2]), ([3], [3]), ([], []), ([], []), ([5, 6], [5, 6]), ([7], [7]), ([4, 8], [4, 8]), ([9], [9]), ([0, 10], [0, 10]), ([11, 11, 0, 1, 2, 3, 4, 5, 6, 7, 8, 9, 10, 11], [0, 11])])
def zac.B31 : List Nat := [0, 0, 0, 6, 14, 0, 0, 96, 224, 510, 1022, 2047, 4095]
theorem zac.tab31 : rtab .any (opsOf Tryz.f21 31) = zac.T31 := by kernel_rfl
theorem zac.bits31 : zc6 zac.T31.2 zac.B31 = true := by kernel_rfl
theorem zac.calls (k : Nat) (A0_0 : Option Addr) (c0_0 : Nat) (l0_0 : List ByteArray) (A0_1 : Option Addr) (c0_1 : Nat) (l0_1 : List ByteArray) (A0_2 : Option Addr) (c0_2 : Nat) (l0_2 : List (S42)) (A1 : Option Addr) (c1 : Nat) (l1 : List (S50)) (r : List (S50)) (w : World) (hr0_0 : Kd.C Kd.string w A0_0 l0_0.length l0_0) (hc0_0 : l0_0.length ≤ c0_0) (hr0_1 : Kd.C Kd.string w A0_1 l0_1.length l0_1) (hc0_1 : l0_1.length ≤ c0_1) (hr0_2 : Kd.C k42 w A0_2 l0_2.length l0_2) (hc0_2 : l0_2.length ≤ c0_2) (hr1 : Kd.C k50 w A1 l1.length l1) (hc1 : l1.length ≤ c1) (h : zac.f k l0_0 l0_1 l0_2 l1 = some r) :
  Calls Tryz.prog 21 #[.agg #[.slice A0_0 l0_0.length c0_0, .slice A0_1 l0_1.length c0_1, .slice A0_2 l0_2.length c0_2], .slice A1 l1.length c1] w fun e w' => ∃ v0_ : Value, e = .returned (v0_) ∧ Kd.R k50 50 w' w.heap.size (fun _ => True) v0_ r ∧ Below w.heap.size w w' := by
 have hu25 := Tryz.underlying25
 have hu50 := Tryz.underlying50
 have HR0_0 := zaa.mk hr0_0;have HC0_0 := zaa.mk hc0_0;clear hr0_0 hc0_0;have HR0_1 := zaa.mk hr0_1;have HC0_1 := zaa.mk hc0_1;clear hr0_1 hc0_1;have HR0_2 := zaa.mk hr0_2;have HC0_2 := zaa.mk hc0_2;clear hr0_2 hc0_2;have HR1 := zaa.mk hr1;have HC1 := zaa.mk hc1;clear hr1 hc1
 have HB := zaa.mk (Below.refl w.heap.size w)
 have H : ((zck.f k l0_0 l0_1 l0_2).bind fun t235 => ((zan.f k l0_0 l0_1 l0_2).bind fun t238 => (if ([] : List (S50)).length + l1.length < 5864062014805 then (zac.l0 k t235 t238 ([] : List (S50)) (([] : List (S50)) ++ l1) l0_0 l0_1 l0_2) else (none)))) = some r := h
 clear h;replace H := Option.bind_eq_some_iff.mp H
 obtain ⟨t235, A30, H⟩ := H
 replace H : ((zan.f k l0_0 l0_1 l0_2).bind fun t238 => (if ([] : List (S50)).length + l1.length < 5864062014805 then (zac.l0 k t235 t238 ([] : List (S50)) (([] : List (S50)) ++ l1) l0_0 l0_1 l0_2) else (none))) = some r := H
 have A3 := zaa.mk A30;clear A30;replace H := Option.bind_eq_some_iff.mp H
 obtain ⟨t238, A40, H⟩ := H
 replace H : (if ([] : List (S50)).length + l1.length < 5864062014805 then (zac.l0 k t235 t238 ([] : List (S50)) (([] : List (S50)) ++ l1) l0_0 l0_1 l0_2) else (none)) = some r := H
 have A4 := zaa.mk A40;clear A40
 by_cases c5 : ([] : List (S50)).length + l1.length < 5864062014805
 ·rw [if_pos c5] at H
  have LMc5 := zaa.mk c5;clear c5
  obtain ⟨y241, hy241⟩ : ∃ y_ : List (S50), y_ = (([] : List (S50)) ++ l1) := ⟨_, rfl⟩
  replace H : (zac.l0 k t235 t238 ([] : List (S50)) y241 l0_0 l0_1 l0_2) = some r := by first | (rw [hy241]; with_reducible exact H) | (have H2_ := (Option.bind_some _ _).symm.trans H; rw [hy241]; with_reducible exact H2_) | (have H2_ := (Option.bind_some _ _).symm.trans H; with_reducible exact H2_) | with_reducible exact H | (rw [hy241]; exact H) | exact H
  have Ny241 := zaa.mk hy241;clear hy241
  have H' := zaa.mk H
  clear H
  go_enter Tryz.func21, Tryz.ntmps21
  go_wp2_with (first | ((with_reducible refine zau (N := 2) rfl ?_); (try (refine zaz (by rfl) ?_; dsimp only)); refine Ybx 2 #[.slice A0_0 l0_0.length c0_0, .slice A0_1 l0_1.length c0_1, .slice A0_2 l0_2.length c0_2] 25 ?_; intro gb234 hg w6 hbox hb; obtain ⟨BK234, GW234, GE234, HB⟩ := Yb4 hbox hg hb Ybe; clear hb hbox hg; obtain ⟨hcz7_0, hfz7_0, hcz7_1, hfz7_1, hcz7_2, hfz7_2⟩ := Yc3 BK234.out) | ((with_reducible refine zbm (f := 38) rfl ?_); refine Ygl (some 21) Tryz.func38 #[.agg #[.slice A0_0 l0_0.length c0_0, .slice A0_1 l0_1.length c0_1, .slice A0_2 l0_2.length c0_2]] ?_; (with_reducible refine (zck.calls k _ _ l0_0 _ _ l0_1 _ _ l0_2 t235 _ (Kd.zak HR0_0.out Ybe) HC0_0.out (Kd.zak HR0_1.out Ybe) HC0_1.out (Kd.zak HR0_2.out Ybe) HC0_2.out A3.out).mono ?_); rintro e w8 ⟨v236, rfl, ho0, hb⟩; refine ⟨_, rfl, ?_⟩; have HO237 := zaa.mk (Kd.zbz ho0 (za8 Yb_PItemTellsx9_0)); replace BK234 := Ykb BK234 hb; replace HB := zaa.mk (zay Yb_PItemTellsx9_0 hb); (try clear hb); (try clear hb2); (try clear hk); (try clear hi); (try clear ho0); obtain ⟨hcz9_0, hfz9_0, hcz9_1, hfz9_1, hcz9_2, hfz9_2⟩ := Yc3 BK234.out) | ((with_reducible refine zbm (f := 39) rfl ?_); refine Ygl (some 23) Tryz.func39 #[.agg #[.slice A0_0 l0_0.length c0_0, .slice A0_1 l0_1.length c0_1, .slice A0_2 l0_2.length c0_2]] ?_; (with_reducible refine (zan.calls k _ _ l0_0 _ _ l0_1 _ _ l0_2 t238 _ (Kd.zak HR0_0.out Ybe) HC0_0.out (Kd.zak HR0_1.out Ybe) HC0_1.out (Kd.zak HR0_2.out Ybe) HC0_2.out A4.out).mono ?_); rintro e w10 ⟨v239, rfl, ho0, hb⟩; refine ⟨_, rfl, ?_⟩; replace HO237 := zaa.mk (Kd.zbc (Yr HO237) hb); have HO240 := zaa.mk (Kd.zbz ho0 (za8 Yb_PItemTellsx9_0)); replace BK234 := Ykb BK234 hb; replace HB := zaa.mk (zay Yb_PItemTellsx9_0 hb); (try clear hb); (try clear hb2); (try clear hk); (try clear hi); (try clear ho0)) | ((with_reducible refine zca (b := .append) (xs := #[.tmp 24, .tmp 25]) rfl ?_); (try (refine zaz (by rfl) ?_; dsimp only)); at_builtin; refine Kd.zb9 k50 (w0 := w) w.heap.size rfl (.tmp 24) (.tmp 25) 45 50 (.agg #[(.int .i64 0), (.int .i64 0), (.int .i64 0)]) 24 rfl Tryz.underlying45 zdv rfl (by decide) (by omega) (.slice none 0 0) ([] : List (S50)) l1 _ _ _ (fun _ => True) (fun _ => False) rfl rfl ?aO ?aR (fun _ _ h => h) (fun _ h => h.elim) ?aF ?aB ?aS ?aL ?_; (case aR => repeat (first | exact (Kd.zak HR1.out HB.out) | (with_reducible refine Kd.C_alloc ?_ _) | (with_reducible refine Kd.C_drewN ?_ _) | (with_reducible refine Kd.C_drew ?_))); (case aB => exact Yb_PItemTellsx9_0); (case aF => exact (fun _ _ => trivial)); (case aO => exact ((Kd.zdr _ _ _ _ (fun _ => True)))); (case aS => exact (za8 Yb_PItemTellsx9_0)); (case aL => have := LMc5.out; omega); intro v242 w11 ho hb hg hat; rw [← Ny241.out] at ho; replace BK234 := zaa.mk (zcc (g := gb234) (o := .cells #[.slice A0_0 l0_0.length c0_0, .slice A0_1 l0_1.length c0_1, .slice A0_2 l0_2.length c0_2] 25 (0, 0)) (Yg BK234) hg (by simp [Value.ownBlock])); replace HO237 := zaa.mk (Kd.ze2 (Yr HO237) hg (fun _ _ => by simp [Value.ownBlock])); replace HO240 := zaa.mk (Kd.ze2 (Yr HO240) hg (fun _ _ => by simp [Value.ownBlock])); replace HB := zaa.mk (hb); have HO243 := zaa.mk (ho); clear ho hb hg hat))
  go_loopg [7, 8] k (fun kq v7 v8 w' => ∃ (x7_1 : List (S50)) (x8_1 : List (S50)), zaa (zac.l0 kq t235 t238 x7_1 x8_1 l0_0 l0_1 l0_2 = some r) ∧ zaa (kq ≤ k) ∧ zaa (Kd.R (Kd.slice 3 (Kd.int .i64)) 35 w' w.heap.size (fun _ => True) v236 t235) ∧ zaa (Kd.R Kd.bool 4 w' w.heap.size (fun _ => True) v239 t238) ∧ zaa (Kd.R k50 50 w' w.heap.size (fun k_ => some k_ ≠ (v8 : Value).ownBlock) v7 x7_1) ∧ zaa (Kd.Q k50 50 w' w.heap.size (fun k_ => some k_ ≠ (v7 : Value).ownBlock) v8 x8_1) ∧ zaa (w'.heap[gb234]? = some (.cells #[(.slice A0_0 l0_0.length c0_0), (.slice A0_1 l0_1.length c0_1), (.slice A0_2 l0_2.length c0_2)] 25 (0, 0))) ∧ zaa (Below w.heap.size w w'))
  case atStart => exact ⟨(([] : List (S50))), (y241), H', ⟨Nat.le_refl _⟩, ⟨Yr HO237⟩, ⟨Yr HO240⟩, ⟨by first | exact Kd.zdr _ _ _ _ _ | exact Kd.N_nil _ _ _ _ _ | exact Kd.V_nil _ _ _ _ _ | exact Kd.Q_nil _ _ _ _ _ | exact Kd.S_nil _ _ _ _ _⟩, ⟨Kd.Q_of_R (by (with_reducible repeat (first | apply Kd.R_alloc | apply Kd.zb0 | apply Kd.zbn)); exact Kd.zba HO243.out (fun _ hk => (by simp [Value.ownBlock])))⟩, ⟨Yg BK234⟩, ⟨Yb_PItemTellsx9_0⟩⟩
  case round =>
   clear H'
   obtain ⟨x7_1, x8_1, HA, HK1, HO_5, HO_6, HO_7, HO_8, BK234, HB⟩ := hrel
   cases gk with
   | zero => exact absurd HA.out (by simp [zac.l0])
   | succ k1 =>
    have H := HA.out;clear HA
    simp only [zac.l0] at H
    by_cases c12 : (x8_1.length : Int) > 0
    ·rw [if_pos c12] at H
     have c12b0 := decide_eq_true c12
     have c12b1 : decide (0 < x8_1.length) = true := decide_eq_true (by omega)
     clear c12
     by_cases c13 : 0 < (x8_1.length : Int)
     ·rw [if_pos c13] at H
      have c13b0 := decide_eq_true c13
      have c13b1 : decide (0 < x8_1.length) = true := decide_eq_true (by omega)
      clear c13
      by_cases c14 : 1 ≤ (x8_1.length : Int)
      ·rw [if_pos c14] at H
       have c14b0 := eq_true c14
       have c14b1 := decide_eq_true c14
       clear c14
       obtain ⟨y246, hy246⟩ : ∃ y_ : List (S50), y_ = (x8_1.drop (1 : Int).toNat) := ⟨_, rfl⟩
       replace H : ((zax.f l0_0 l0_1 l0_2 ((zae x8_1 0).f0) ((zae x8_1 0).f1) ((zae x8_1 0).f2)).bind fun t249 => (if t249 = true then ((zar.f k1 x7_1 ((zae x8_1 0).f0) ((zae x8_1 0).f1) ((zae x8_1 0).f2)).bind fun t250 => (zac.j1 k1 t235 t238 t250 y246 (x7_1.length : Int) l0_0 l0_1 l0_2 ((zae x8_1 0).f0) ((zae x8_1 0).f1) ((zae x8_1 0).f2))) else (zac.j1 k1 t235 t238 x7_1 y246 (x7_1.length : Int) l0_0 l0_1 l0_2 ((zae x8_1 0).f0) ((zae x8_1 0).f1) ((zae x8_1 0).f2)))) = some r := by first | (rw [hy246]; with_reducible exact H) | (have H2_ := (Option.bind_some _ _).symm.trans H; rw [hy246]; with_reducible exact H2_) | (have H2_ := (Option.bind_some _ _).symm.trans H; with_reducible exact H2_) | with_reducible exact H | (rw [hy246]; exact H) | exact H
       have Ny246 := zaa.mk hy246;clear hy246;replace H := Option.bind_eq_some_iff.mp H
       obtain ⟨t249, A150, H⟩ := H
       replace H : (if t249 = true then ((zar.f k1 x7_1 ((zae x8_1 0).f0) ((zae x8_1 0).f1) ((zae x8_1 0).f2)).bind fun t250 => (zac.j1 k1 t235 t238 t250 y246 (x7_1.length : Int) l0_0 l0_1 l0_2 ((zae x8_1 0).f0) ((zae x8_1 0).f1) ((zae x8_1 0).f2))) else (zac.j1 k1 t235 t238 x7_1 y246 (x7_1.length : Int) l0_0 l0_1 l0_2 ((zae x8_1 0).f0) ((zae x8_1 0).f1) ((zae x8_1 0).f2))) = some r := H
       have A15 := zaa.mk A150;clear A150;have HC16 := zaa.mk H;clear H
       obtain ⟨Ao17, co17, eo17, _⟩ := Kd.Q_slice HO_8.out
       subst eo17
       have p244 : 0 ≤ (0 : Int) := (by omega)
       have q244 : 0 < (x8_1.length : Int) := Yod
       obtain ⟨ad244, e244, hx244_0, hx244_1, hx244_2⟩ := zcv (Kd.Q_reads' HO_8.out).2.2 0 p244 q244
       cases e244
       have qi244 : (0 < x8_1.length) = True := eq_true (by omega)
       (try rw [show ((0 : Int)).toNat = 0 from rfl] at hx244_0)
       (try rw [show 0 * 3 = 0 from rfl] at hx244_0)
       (try rw [Addr.add_zero'] at hx244_0)
       (try rw [show ((0 : Int)).toNat = 0 from rfl] at hx244_1)
       (try rw [show 0 * 3 = 0 from rfl] at hx244_1)
       (try rw [Addr.add_zero'] at hx244_1)
       (try rw [show ((0 : Int)).toNat = 0 from rfl] at hx244_2)
       (try rw [show 0 * 3 = 0 from rfl] at hx244_2)
       (try rw [Addr.add_zero'] at hx244_2)
       replace p244 := eq_true p244
       replace q244 := eq_true q244
       go_upto_if 39 with (first | ((with_reducible refine zau (N := 9) rfl ?_); (try (refine zaz (by rfl) ?_; dsimp only)); refine Ybx 9 #[.int .i64 0, .int .i64 0, .int .i64 0] 50 ?_; intro gb245 hg w18 hbox hb; replace HO_5 := zaa.mk (Kd.zbc (Yr HO_5) hb); replace HO_6 := zaa.mk (Kd.zbc (Yr HO_6) hb); replace HO_7 := zaa.mk (Kd.zbc (Kd.R_elderB (Yr HO_7) gb245 (Nat.le_of_eq hg.symm)) hb); replace HO_8 := zaa.mk (Kd.ze1 (Kd.Q_elderB (by (with_reducible repeat (first | apply Kd.Q_alloc | apply Kd.Q_drewN | apply Kd.zb8)); exact HO_8.out) gb245 (Nat.le_of_eq hg.symm)) hb); obtain ⟨BK245, GW245, GE245, HB⟩ := Yb4 hbox hg hb Yb_PItemTellsx9_0; have NB234_245 := Ynl BK234 hg; have NB245_234 := Yng BK234 hg; replace BK234 := Ykb BK234 hb; clear hb hbox hg; have hnb19 := NB245_234.out; have hnc19 := NB234_245.out; obtain ⟨hcz20_0, hfz20_0, hcz20_1, hfz20_1, hcz20_2, hfz20_2⟩ := Yc3 BK245.out) | ((with_reducible refine zjg (t := 50) (p := 9) rfl ?_); refine ziv (t := 50) (p := 9) (v := ?vo_w21) (w1 := (((w18.setCell ⟨gb245, 0, none⟩ (.int .i64 ((zae x8_1 0).f0))).setCell ⟨gb245, 1, none⟩ (.int .i64 ((zae x8_1 0).f1))).setCell ⟨gb245, 2, none⟩ (.int .i64 ((zae x8_1 0).f2)))) ?hg ?ho ?hn ?hr ?_; (case ho => rfl); (case hg => rfl); (case hn => rfl); (case hr => first | (go_simp; done) | (go_simp; rfl)); intro w21 hw; have n0_ : zaa (Kd.R (Kd.slice 3 (Kd.int .i64)) 35 w21 w.heap.size (fun _ => True) v236 t235) := ⟨(by rw [hw]; exact (by (with_reducible repeat (first | apply Kd.R_alloc | apply Kd.zb0 | apply Kd.zbn)); exact Kd.zba (Kd.zdg (p := ⟨gb245, 2, none⟩) (Kd.zdg (p := ⟨gb245, 1, none⟩) (Kd.zdg (p := ⟨gb245, 0, none⟩) (Kd.zgy HO_5.out BK245.out (by decide)) (fun _ hk => hk.2) (.int .i64 ((zae x8_1 0).f0))) (fun _ hk => hk.2) (.int .i64 ((zae x8_1 0).f1))) (fun _ hk => hk.2) (.int .i64 ((zae x8_1 0).f2))) (fun _ hk => trivial)))⟩; have n1_ : zaa (Kd.R Kd.bool 4 w21 w.heap.size (fun _ => True) v239 t238) := ⟨(by rw [hw]; exact (by (with_reducible repeat (first | apply Kd.R_alloc | apply Kd.zb0 | apply Kd.zbn)); exact Kd.zba (Kd.zdg (p := ⟨gb245, 2, none⟩) (Kd.zdg (p := ⟨gb245, 1, none⟩) (Kd.zdg (p := ⟨gb245, 0, none⟩) (Kd.zgy HO_6.out BK245.out (by decide)) (fun _ hk => hk.2) (.int .i64 ((zae x8_1 0).f0))) (fun _ hk => hk.2) (.int .i64 ((zae x8_1 0).f1))) (fun _ hk => hk.2) (.int .i64 ((zae x8_1 0).f2))) (fun _ hk => trivial)))⟩; have n2_ : zaa (Kd.R k50 50 w21 w.heap.size (fun k_ => some k_ ≠ (.slice (some ad244) x8_1.length co17 : Value).ownBlock ∧ k_ ≠ gb245) u7 x7_1) := ⟨(by rw [hw]; exact (by (with_reducible repeat (first | apply Kd.R_alloc | apply Kd.zb0 | apply Kd.zbn)); exact Kd.zba (Kd.zdg (p := ⟨gb245, 2, none⟩) (Kd.zdg (p := ⟨gb245, 1, none⟩) (Kd.zdg (p := ⟨gb245, 0, none⟩) (Kd.zba HO_7.out (fun k_ hk => (⟨hk, hk.2⟩ : _ ∧ k_ ≠ gb245))) (fun _ hk => hk.2) (.int .i64 ((zae x8_1 0).f0))) (fun _ hk => hk.2) (.int .i64 ((zae x8_1 0).f1))) (fun _ hk => hk.2) (.int .i64 ((zae x8_1 0).f2))) (fun _ hk => ⟨hk.1.1, hk.1.2⟩)))⟩; have n3_ : zaa (Kd.Q k50 50 w21 w.heap.size (fun k_ => some k_ ≠ (u7 : Value).ownBlock ∧ k_ ≠ gb245) (.slice (some ad244) x8_1.length co17) x8_1) := ⟨(by rw [hw]; exact (by (with_reducible repeat (first | apply Kd.Q_alloc | apply Kd.Q_drewN | apply Kd.zb8)); exact Kd.zd6 (Kd.Q_far (p := ⟨gb245, 2, none⟩) (Kd.Q_far (p := ⟨gb245, 1, none⟩) (Kd.Q_far (p := ⟨gb245, 0, none⟩) (Kd.zd6 HO_8.out (fun k_ hk => (⟨hk, hk.2⟩ : _ ∧ k_ ≠ gb245))) (fun _ hk => hk.2) (.int .i64 ((zae x8_1 0).f0))) (fun _ hk => hk.2) (.int .i64 ((zae x8_1 0).f1))) (fun _ hk => hk.2) (.int .i64 ((zae x8_1 0).f2))) (fun _ hk => ⟨hk.1.1, hk.1.2⟩)))⟩; have n4_ : zaa (w21.heap[gb234]? = some (.cells #[.slice A0_0 l0_0.length c0_0, .slice A0_1 l0_1.length c0_1, .slice A0_2 l0_2.length c0_2] 25 (0, 0))) := ⟨(by rw [hw]; exact (by (with_reducible repeat (first | refine zam ?_ _ | refine zah ?_ | refine zaj ?_ _)); refine zbg ?_ NB234_245.out _; (with_reducible repeat (first | refine zam ?_ _ | refine zah ?_ | refine zaj ?_ _)); refine zbg ?_ NB234_245.out _; (with_reducible repeat (first | refine zam ?_ _ | refine zah ?_ | refine zaj ?_ _)); refine zbg ?_ NB234_245.out _; (with_reducible repeat (first | refine zam ?_ _ | refine zah ?_ | refine zaj ?_ _)); exact BK234.out))⟩; have n5_ : zaa (w21.heap[gb245]? = some (.cells #[.int .i64 ((zae x8_1 0).f0), .int .i64 ((zae x8_1 0).f1), .int .i64 ((zae x8_1 0).f2)] 50 (0, 0))) := ⟨(by rw [hw]; exact (by (with_reducible repeat (first | refine zam ?_ _ | refine zah ?_ | refine zaj ?_ _)); refine zbu (cs := #[.int .i64 ((zae x8_1 0).f0), .int .i64 ((zae x8_1 0).f1), .int .i64 0]) ?_ 2 _ rfl; (with_reducible repeat (first | refine zam ?_ _ | refine zah ?_ | refine zaj ?_ _)); refine zbu (cs := #[.int .i64 ((zae x8_1 0).f0), .int .i64 0, .int .i64 0]) ?_ 1 _ rfl; (with_reducible repeat (first | refine zam ?_ _ | refine zah ?_ | refine zaj ?_ _)); refine zbu (cs := #[.int .i64 0, .int .i64 0, .int .i64 0]) ?_ 0 _ rfl; (with_reducible repeat (first | refine zam ?_ _ | refine zah ?_ | refine zaj ?_ _)); exact BK245.out))⟩; have n6_ : zaa (Below w.heap.size w w21) := ⟨(by rw [hw]; exact Yb_PItemTellsx9_1)⟩; clear hw; clear HO_5; clear HO_6; clear HO_7; clear HO_8; clear BK234; clear BK245; clear HB; have HO_5 := n0_; have HO_6 := n1_; have HO_7 := n2_; have HO_8 := n3_; have BK234 := n4_; have BK245 := n5_; have HB := n6_; clear n0_ n1_ n2_ n3_ n4_ n5_ n6_; have q22 : (1 : Int) ≤ ((x8_1.length : Int) : Int) := Yod; obtain ⟨i022, hi022, _, hsz22, _⟩ := info_parts zdv; have hcut22 := zeb (P := Tryz.prog) 45 50 .i64 Tryz.underlying45 hi022 3 hsz22 (some ad244) x8_1.length co17 1 (by omega) q22; have hr22 := Kd.Q_drop (k := (1 : Int).toNat) HO_8.out (by omega); obtain ⟨A22, hA22⟩ : ∃ A1, A1 = (if co17 = (1 : Int).toNat then (some ad244) else ((some ad244) : Option Addr).map (·.add ((1 : Int).toNat * 3))) := ⟨_, rfl⟩; obtain ⟨c22, hc22⟩ : ∃ c1, c1 = co17 - (1 : Int).toNat := ⟨_, rfl⟩; have hy22 : y246.length = x8_1.length - (1 : Int).toNat := (by rw [Ny246.out, List.length_drop]); rw [← Ny246.out] at hr22; rw [← hy22, ← hA22, ← hc22] at hcut22; replace hr22 : Kd.Q k50 50 w21 w.heap.size (fun k_ => some k_ ≠ (u7 : Value).ownBlock ∧ k_ ≠ gb245) (.slice A22 y246.length c22) y246 := (by rw [hA22, hc22, hy22]; exact hr22); have HE22 : zaa ((Value.slice A22 y246.length c22).ownBlock = (.slice (some ad244) x8_1.length co17 : Value).ownBlock) := ⟨by rw [hA22]; split <;> (cases ((some ad244) : Option Addr) <;> rfl)⟩; clear hy22 hi022 hsz22 HO_8 hA22 hc22; have HO248 := zaa.mk hr22; clear hr22; replace q22 := eq_true q22; have n_ := zaa.mk (Kd.zba (ok' := fun k_ => (some k_ ≠ (.slice A22 y246.length c22 : Value).ownBlock ∧ k_ ≠ gb245)) HO_7.out (fun k_ hk => ⟨(by rw [HE22.out]; exact hk.1), hk.2⟩)); clear HO_7; have HO_7 := n_; clear n_; obtain ⟨Ao23, co23, eo23⟩ := Kd.zbj HO_7.out; subst eo23; obtain ⟨hcz24_0, hfz24_0, hcz24_1, hfz24_1, hcz24_2, hfz24_2⟩ := Yc3 BK234.out; obtain ⟨hcz25_0, hfz25_0, hcz25_1, hfz25_1, hcz25_2, hfz25_2⟩ := Yc3 BK245.out) | ((with_reducible refine zbm (f := 18) rfl ?_); refine Ygl (some 39) Tryz.func18 #[.agg #[.slice A0_0 l0_0.length c0_0, .slice A0_1 l0_1.length c0_1, .slice A0_2 l0_2.length c0_2], .agg #[.int .i64 ((zae x8_1 0).f0), .int .i64 ((zae x8_1 0).f1), .int .i64 ((zae x8_1 0).f2)]] ?_; (with_reducible refine (zax.calls _ _ l0_0 _ _ l0_1 _ _ l0_2 ((zae x8_1 0).f0) ((zae x8_1 0).f1) ((zae x8_1 0).f2) t249 _ (Kd.zak HR0_0.out Ybe) HC0_0.out (Kd.zak HR0_1.out Ybe) HC0_1.out (Kd.zak HR0_2.out Ybe) HC0_2.out A15.out).mono ?_); rintro e w26 ⟨rfl, hb⟩; refine ⟨_, rfl, ?_⟩; replace HO_5 := zaa.mk (Kd.zbc (Yr HO_5) hb); replace HO_6 := zaa.mk (Kd.zbc (Yr HO_6) hb); replace HO_7 := zaa.mk (Kd.zbc (Yr HO_7) hb); replace HO248 := zaa.mk (Kd.ze1 (by (with_reducible repeat (first | apply Kd.Q_alloc | apply Kd.Q_drewN | apply Kd.zb8)); exact HO248.out) hb); replace BK234 := Ykb BK234 hb; replace BK245 := Ykb BK245 hb; replace HB := zaa.mk (zay Yb_PItemTellsx9_1 hb); (try clear hb); (try clear hb2); (try clear hk); (try clear hi)))
       (try simp only [Act.put, Y1, Y2, Y3])
       go_cut [7] (fun v7 wc => ∃ (kq : Nat) (x7_15 : List (S50)), zaa (zac.j1 kq t235 t238 x7_15 y246 (x7_1.length : Int) l0_0 l0_1 l0_2 ((zae x8_1 0).f0) ((zae x8_1 0).f1) ((zae x8_1 0).f2) = some r) ∧ zaa (kq ≤ k1) ∧ zaa (Kd.R (Kd.slice 3 (Kd.int .i64)) 35 wc w.heap.size (fun _ => True) v236 t235) ∧ zaa (Kd.R Kd.bool 4 wc w.heap.size (fun _ => True) v239 t238) ∧ zaa (Kd.R k50 50 wc w.heap.size (fun k_ => some k_ ≠ ((.slice A22 y246.length c22) : Value).ownBlock ∧ k_ ≠ gb245) v7 x7_15) ∧ zaa (Kd.Q k50 50 wc w.heap.size (fun k_ => some k_ ≠ (v7 : Value).ownBlock ∧ k_ ≠ gb245) (.slice A22 y246.length c22) y246) ∧ zaa (wc.heap[gb234]? = some (.cells #[(.slice A0_0 l0_0.length c0_0), (.slice A0_1 l0_1.length c0_1), (.slice A0_2 l0_2.length c0_2)] 25 (0, 0))) ∧ zaa (wc.heap[gb245]? = some (.cells #[.int .i64 ((zae x8_1 0).f0), .int .i64 ((zae x8_1 0).f1), .int .i64 ((zae x8_1 0).f2)] 50 (0, 0))) ∧ zaa (Below w.heap.size w wc))
       case first =>
        have H := HC16.out;clear HC16
        by_cases c27 : t249 = true
        ·subst c27
         have H1 : ((zar.f k1 x7_1 ((zae x8_1 0).f0) ((zae x8_1 0).f1) ((zae x8_1 0).f2)).bind fun t250 => (zac.j1 k1 t235 t238 t250 y246 (x7_1.length : Int) l0_0 l0_1 l0_2 ((zae x8_1 0).f0) ((zae x8_1 0).f1) ((zae x8_1 0).f2))) = some r := by rw [if_pos rfl] at H; exact H
         clear H;have H := H1;clear H1;replace H := Option.bind_eq_some_iff.mp H
         obtain ⟨t250, A280, H⟩ := H
         replace H : (zac.j1 k1 t235 t238 t250 y246 (x7_1.length : Int) l0_0 l0_1 l0_2 ((zae x8_1 0).f0) ((zae x8_1 0).f1) ((zae x8_1 0).f2)) = some r := H
         have A28 := zaa.mk A280;clear A280
         have H' := zaa.mk H
         clear H
         have hnb29 := NB245_234.out
         have hnc29 := NB234_245.out
         obtain ⟨hcz30_0, hfz30_0, hcz30_1, hfz30_1, hcz30_2, hfz30_2⟩ := Yc3 BK245.out
         go_wp2_with (first | ((with_reducible refine zbm (f := 40) rfl ?_); refine Ygl (some 42) Tryz.func40 #[.slice Ao23 x7_1.length co23, .agg #[.int .i64 ((zae x8_1 0).f0), .int .i64 ((zae x8_1 0).f1), .int .i64 ((zae x8_1 0).f2)]] ?_; (with_reducible refine (zar.calls k1 (fun k_ => some k_ = (.slice Ao23 x7_1.length co23 : Value).ownBlock) (.slice Ao23 x7_1.length co23) x7_1 ((zae x8_1 0).f0) ((zae x8_1 0).f1) ((zae x8_1 0).f2) t250 w _ ?side1 ?side2 A28.out).mono ?_); (case side1 => repeat (first | (with_reducible first | exact HB.out | apply za2 | apply zav | apply zas | refine za6 ?_ GE234.out | refine za6 ?_ GE245.out) | exact HB.out)); (case side2 => exact Kd.zgx rfl HO_7.out); rintro e w31 ⟨v251, rfl, ho0, hb, hkp⟩; refine ⟨_, rfl, ?_⟩; replace HO_5 := zaa.mk (Kd.zba (ok' := fun k_ => True) (Kd.zee ((Kd.R_apart' HO_5.out (Kd.zdm HO_7.out) (by decide))) hkp (fun k_ hk_ hs_ => (hk_.2) hs_)) (fun k_ hk_ => trivial)); replace HO_6 := zaa.mk (Kd.zba (ok' := fun k_ => True) (Kd.zee ((Kd.R_apart' HO_6.out (Kd.zdm HO_7.out) (by decide))) hkp (fun k_ hk_ hs_ => (hk_.2) hs_)) (fun k_ hk_ => trivial)); replace BK234 := zaa.mk (ze3 (Yg BK234) hkp (fun hs_ => (fun e_ => (Kd.R_ne HO_7.out BK234.out (by decide)) e_) hs_)); have HO252 := zaa.mk (Kd.zba (ok' := fun k_ => some k_ ≠ (.slice A22 y246.length c22 : Value).ownBlock ∧ k_ ≠ gb245) ho0 (fun k_ hk_ => ⟨Or.elim hk_ (fun hs_ => fun e_ => (((HO248.out).1 k_ e_.symm).1) hs_) (fun hn_ => (Kd.fresh' (Kd.Q_lt (by (with_reducible repeat (first | apply Kd.Q_alloc | apply Kd.Q_drewN | apply Kd.zb8)); exact HO248.out)) k_ hn_)), Or.elim hk_ (fun hs_ => fun e_ => (Kd.zgw HO_7.out (fun _ hk => hk.2)) (by rw [← e_]; exact hs_)) (fun hn_ => (Kd.zcl (g := gb245) (o := .cells #[.int .i64 ((zae x8_1 0).f0), .int .i64 ((zae x8_1 0).f1), .int .i64 ((zae x8_1 0).f2)] 50 (0, 0)) (Yg BK245) k_ hn_))⟩)); replace HO248 := zaa.mk (Kd.zd6 (ok' := fun k_ => k_ ≠ gb245 ∧ some k_ ≠ (v251 : Value).ownBlock) (Kd.Q_keptB (HO248.out) hkp (fun k_ hk_ hs_ => (hk_.1) hs_)) (fun k_ hk_ => ⟨hk_.1.2, fun e_ => Or.elim (ho0.1 k_ e_.symm) (fun hs_ => hk_.2.1 hs_) (fun hn_ => Nat.not_le.2 hk_.2.2 hn_)⟩)); replace BK245 := zaa.mk (ze3 (Yg BK245) hkp (fun hs_ => (fun e_ => (Kd.zgw HO_7.out (fun _ hk => hk.2)) e_) hs_)); replace HB := zaa.mk (hb); clear HO_7; (try clear hb); (try clear hkp); (try clear ho0)))
         go_meet
         case rel => exact ⟨_, (t250), H', ⟨by have := HK1.out; first | omega | exact Nat.le_refl _⟩, ⟨Yr HO_5⟩, ⟨Yr HO_6⟩, ⟨Yr HO252⟩, ⟨by (with_reducible repeat (first | apply Kd.Q_alloc | apply Kd.Q_drewN | apply Kd.zb8)); exact Kd.zd6 HO248.out (fun _ hk => ⟨hk.2, hk.1⟩)⟩, ⟨Yg BK234⟩, ⟨Yg BK245⟩, ⟨Yb_PItemTellsx9_1⟩⟩
        ·replace c27 := Bool.eq_false_iff.mpr c27
         subst c27
         have H1 : (zac.j1 k1 t235 t238 x7_1 y246 (x7_1.length : Int) l0_0 l0_1 l0_2 ((zae x8_1 0).f0) ((zae x8_1 0).f1) ((zae x8_1 0).f2)) = some r := by rw [if_neg (show ¬ (false = true) by decide)] at H; exact H
         clear H;have H := H1;clear H1
         have H' := zaa.mk H
         clear H;go_wp2
         go_meet
         case rel => exact ⟨_, (x7_1), H', ⟨by have := HK1.out; first | omega | exact Nat.le_refl _⟩, ⟨Yr HO_5⟩, ⟨Yr HO_6⟩, ⟨Yr HO_7⟩, ⟨by (with_reducible repeat (first | apply Kd.Q_alloc | apply Kd.Q_drewN | apply Kd.zb8)); exact HO248.out⟩, ⟨Yg BK234⟩, ⟨Yg BK245⟩, ⟨Yb_PItemTellsx9_1⟩⟩
       case rest =>
        clear HC16
        obtain ⟨kq, x7_15, HA, HJ15, HO_5, HO_6, HO_7, HO_8, BK234, BK245, HB⟩ := hcut
        cases kq with
        | zero => exact absurd HA.out (by simp [zac.j1])
        | succ kj15 =>
         have H := HA.out;clear HA
         simp only [zac.j1] at H
         replace H := Option.bind_eq_some_iff.mp H
         obtain ⟨⟨t253, t254⟩, A320, H⟩ := H
         replace H : (if (x7_15.length : Int) = (x7_1.length : Int) then (zac.j2 kj15 t235 t238 x7_15 y246 t253 true l0_0 l0_1 l0_2 ((zae x8_1 0).f0) ((zae x8_1 0).f1) ((zae x8_1 0).f2)) else (if t254 = true then (zac.j2 kj15 t235 t238 x7_15 y246 t253 (decide (t253 < (l0_0.length : Int))) l0_0 l0_1 l0_2 ((zae x8_1 0).f0) ((zae x8_1 0).f1) ((zae x8_1 0).f2)) else (zac.j2 kj15 t235 t238 x7_15 y246 t253 true l0_0 l0_1 l0_2 ((zae x8_1 0).f0) ((zae x8_1 0).f1) ((zae x8_1 0).f2)))) = some r := H
         have A32 := zaa.mk A320;clear A320;have HC33 := zaa.mk H;clear H
         have hnb34 := NB234_245.out
         have hnc34 := NB245_234.out
         obtain ⟨hcz35_0, hfz35_0, hcz35_1, hfz35_1, hcz35_2, hfz35_2⟩ := Yc3 BK234.out
         obtain ⟨hcz36_0, hfz36_0, hcz36_1, hfz36_1, hcz36_2, hfz36_2⟩ := Yc3 BK245.out
         go_upto_region 13 with (first | ((with_reducible refine zbm (f := 16) rfl ?_); refine Ygl (some 46) Tryz.func16 #[.agg #[.slice A0_0 l0_0.length c0_0, .slice A0_1 l0_1.length c0_1, .slice A0_2 l0_2.length c0_2], .agg #[.int .i64 ((zae x8_1 0).f0), .int .i64 ((zae x8_1 0).f1), .int .i64 ((zae x8_1 0).f2)]] ?_; (with_reducible refine (zbr.calls _ _ l0_0 _ _ l0_1 _ _ l0_2 ((zae x8_1 0).f0) ((zae x8_1 0).f1) ((zae x8_1 0).f2) t253 t254 _ (Kd.zak HR0_0.out Ybe) HC0_0.out (Kd.zak HR0_1.out Ybe) HC0_1.out (Kd.zak HR0_2.out Ybe) HC0_2.out A32.out).mono ?_); rintro e w37 ⟨rfl, hb⟩; refine ⟨_, rfl, ?_⟩; replace HO_5 := zaa.mk (Kd.zbc (Yr HO_5) hb); replace HO_6 := zaa.mk (Kd.zbc (Yr HO_6) hb); replace HO_7 := zaa.mk (Kd.zbc (Yr HO_7) hb); replace HO_8 := zaa.mk (Kd.ze1 (by (with_reducible repeat (first | apply Kd.Q_alloc | apply Kd.Q_drewN | apply Kd.zb8)); exact HO_8.out) hb); replace BK234 := Ykb BK234 hb; replace BK245 := Ykb BK245 hb; replace HB := zaa.mk (zay Yb_PItemTellsx9_1 hb); (try clear hb); (try clear hb2); (try clear hk); (try clear hi)))
         (try simp only [Act.put, Y1, Y2, Y3])
         go_cut [63] (fun v63 wc => ∃ (kq : Nat) (x63_32 : Bool), v63 = .bool x63_32 ∧ zaa (zac.j2 kq t235 t238 x7_15 y246 t253 x63_32 l0_0 l0_1 l0_2 ((zae x8_1 0).f0) ((zae x8_1 0).f1) ((zae x8_1 0).f2) = some r) ∧ zaa (kq ≤ kj15) ∧ zaa (Kd.R (Kd.slice 3 (Kd.int .i64)) 35 wc w.heap.size (fun _ => True) v236 t235) ∧ zaa (Kd.R Kd.bool 4 wc w.heap.size (fun _ => True) v239 t238) ∧ zaa (Kd.R k50 50 wc w.heap.size (fun k_ => some k_ ≠ ((.slice A22 y246.length c22) : Value).ownBlock ∧ k_ ≠ gb245) u7 x7_15) ∧ zaa (Kd.Q k50 50 wc w.heap.size (fun k_ => some k_ ≠ (u7 : Value).ownBlock ∧ k_ ≠ gb245) (.slice A22 y246.length c22) y246) ∧ zaa (wc.heap[gb234]? = some (.cells #[(.slice A0_0 l0_0.length c0_0), (.slice A0_1 l0_1.length c0_1), (.slice A0_2 l0_2.length c0_2)] 25 (0, 0))) ∧ zaa (wc.heap[gb245]? = some (.cells #[.int .i64 ((zae x8_1 0).f0), .int .i64 ((zae x8_1 0).f1), .int .i64 ((zae x8_1 0).f2)] 50 (0, 0))) ∧ zaa (Below w.heap.size w wc))
         case first =>
          have H := HC33.out;clear HC33
          by_cases c38 : (x7_15.length : Int) = (x7_1.length : Int)
          ·rw [if_pos c38] at H
           have c38b0 : ((x7_15.length : Int) == (x7_1.length : Int)) = true := beq_iff_eq.mpr c38
           have c38b1 : ((x7_15.length : Int) != (x7_1.length : Int)) = false := bne_eq_false_iff_eq.mpr c38
           have c38b2 : (x7_15.length == x7_1.length) = true := by first | simpa using c38 | (simp at c38 ⊢; omega)
           clear c38
           (first | rw [c38b0] | (simp only [zd9, zeo]; rw [c38b0]) | skip)
           have H' := zaa.mk H
           clear H
           obtain ⟨Ao39, co39, eo39⟩ := Kd.zbj HO_7.out
           subst eo39;go_wp2
           go_meet
           case rel => exact ⟨_, (true), Yfs, H', ⟨by have := HK1.out; have := HJ15.out; first | omega | exact Nat.le_refl _⟩, ⟨Yr HO_5⟩, ⟨Yr HO_6⟩, ⟨Yr HO_7⟩, ⟨by (with_reducible repeat (first | apply Kd.Q_alloc | apply Kd.Q_drewN | apply Kd.zb8)); exact HO_8.out⟩, ⟨Yg BK234⟩, ⟨Yg BK245⟩, ⟨Yb_PItemTellsx9_1⟩⟩
          ·rw [if_neg c38] at H
           have c38b0 : ((x7_15.length : Int) == (x7_1.length : Int)) = false := beq_eq_false_iff_ne.mpr c38
           have c38b1 : ((x7_15.length : Int) != (x7_1.length : Int)) = true := bne_iff_ne.mpr c38
           have c38b2 : (x7_15.length == x7_1.length) = false := by first | simpa using c38 | (simp at c38 ⊢; omega)
           (first | rw [c38b0] | (simp only [zd9, zeo]; rw [c38b0]) | skip)
           by_cases c40 : t254 = true
           ·subst c40
            have H1 : (zac.j2 kj15 t235 t238 x7_15 y246 t253 (decide (t253 < (l0_0.length : Int))) l0_0 l0_1 l0_2 ((zae x8_1 0).f0) ((zae x8_1 0).f1) ((zae x8_1 0).f2)) = some r := by rw [if_pos rfl] at H; exact H
            clear H;have H := H1;clear H1
            have H' := zaa.mk H
            clear H
            obtain ⟨Ao41, co41, eo41⟩ := Kd.zbj HO_7.out
            subst eo41
            have hnb42 := NB234_245.out
            have hnc42 := NB245_234.out
            obtain ⟨hcz43_0, hfz43_0, hcz43_1, hfz43_1, hcz43_2, hfz43_2⟩ := Yc3 BK234.out
            go_wp2
            go_meet
            case rel => exact ⟨_, (decide (t253 < (l0_0.length : Int))), Yfs, H', ⟨by have := HK1.out; have := HJ15.out; first | omega | exact Nat.le_refl _⟩, ⟨Yr HO_5⟩, ⟨Yr HO_6⟩, ⟨Yr HO_7⟩, ⟨by (with_reducible repeat (first | apply Kd.Q_alloc | apply Kd.Q_drewN | apply Kd.zb8)); exact HO_8.out⟩, ⟨Yg BK234⟩, ⟨Yg BK245⟩, ⟨Yb_PItemTellsx9_1⟩⟩
           ·replace c40 := Bool.eq_false_iff.mpr c40
            subst c40
            have H1 : (zac.j2 kj15 t235 t238 x7_15 y246 t253 true l0_0 l0_1 l0_2 ((zae x8_1 0).f0) ((zae x8_1 0).f1) ((zae x8_1 0).f2)) = some r := by rw [if_neg (show ¬ (false = true) by decide)] at H; exact H
            clear H;have H := H1;clear H1
            have H' := zaa.mk H
            clear H
            obtain ⟨Ao44, co44, eo44⟩ := Kd.zbj HO_7.out
            subst eo44;go_wp2
            go_meet
            case rel => exact ⟨_, (true), Yfs, H', ⟨by have := HK1.out; have := HJ15.out; first | omega | exact Nat.le_refl _⟩, ⟨Yr HO_5⟩, ⟨Yr HO_6⟩, ⟨Yr HO_7⟩, ⟨by (with_reducible repeat (first | apply Kd.Q_alloc | apply Kd.Q_drewN | apply Kd.zb8)); exact HO_8.out⟩, ⟨Yg BK234⟩, ⟨Yg BK245⟩, ⟨Yb_PItemTellsx9_1⟩⟩
         case rest =>
          clear HC33
          obtain ⟨kq, x63_32, rfl, HA, HJ32, HO_5, HO_6, HO_7, HO_8, BK234, BK245, HB⟩ := hcut
          cases kq with
          | zero => exact absurd HA.out (by simp [zac.j2])
          | succ kj32 =>
           have H := HA.out;clear HA
           simp only [zac.j2] at H
           by_cases c45 : x63_32 = true
           ·subst c45
            have H1 : (zac.l0 kj32 t235 t238 x7_15 y246 l0_0 l0_1 l0_2) = some r := by rw [if_pos rfl] at H; exact H
            clear H;have H := H1;clear H1
            have H' := zaa.mk H
            clear H;go_wp2
            go_roundg kj32
            case measure => have := HK1.out; have := HJ15.out; have := HJ32.out; omega
            case rel => exact ⟨(x7_15), (y246), H', ⟨by have := HK1.out; have := HJ15.out; have := HJ32.out; omega⟩, ⟨Yr HO_5⟩, ⟨Yr HO_6⟩, ⟨by (with_reducible repeat (first | apply Kd.R_alloc | apply Kd.zb0 | apply Kd.zbn)); exact Kd.zba HO_7.out (fun _ hk => hk.1)⟩, ⟨by (with_reducible repeat (first | apply Kd.Q_alloc | apply Kd.Q_drewN | apply Kd.zb8)); exact Kd.zd6 HO_8.out (fun _ hk => hk.1)⟩, ⟨Yg BK234⟩, ⟨Yb_PItemTellsx9_1⟩⟩
           ·replace c45 := Bool.eq_false_iff.mpr c45
            subst c45
            have H1 : ((zbo.f l0_0 l0_1 l0_2 ((zae x8_1 0).f0)).bind fun t255 => (if 0 ≤ (wrap64 (((zae x8_1 0).f1) + 1)) then (if (wrap64 (((zae x8_1 0).f1) + 1)) ≤ (t255.length : Int) then (zac.l1 kj32 t235 t238 x7_15 y246 t253 ([] : List Int) (t255.drop ((wrap64 (((zae x8_1 0).f1) + 1)) : Int).toNat) true 0 l0_0 l0_1 l0_2 ((zae x8_1 0).f0) ((zae x8_1 0).f1) ((zae x8_1 0).f2)) else (none)) else (none))) = some r := by rw [if_neg (show ¬ (false = true) by decide)] at H; exact H
            clear H;have H := H1;clear H1;replace H := Option.bind_eq_some_iff.mp H
            obtain ⟨t255, A460, H⟩ := H
            replace H : (if 0 ≤ (wrap64 (((zae x8_1 0).f1) + 1)) then (if (wrap64 (((zae x8_1 0).f1) + 1)) ≤ (t255.length : Int) then (zac.l1 kj32 t235 t238 x7_15 y246 t253 ([] : List Int) (t255.drop ((wrap64 (((zae x8_1 0).f1) + 1)) : Int).toNat) true 0 l0_0 l0_1 l0_2 ((zae x8_1 0).f0) ((zae x8_1 0).f1) ((zae x8_1 0).f2)) else (none)) else (none)) = some r := H
            have A46 := zaa.mk A460;clear A460
            obtain ⟨ji47, hji47⟩ : ∃ j_ : Int, (wrap64 (((zae x8_1 0).f1) + 1)) = j_ := ⟨_, rfl⟩
            replace H : (if 0 ≤ (ji47) then (if (ji47) ≤ (t255.length : Int) then (zac.l1 kj32 t235 t238 x7_15 y246 t253 ([] : List Int) (t255.drop ((ji47) : Int).toNat) true 0 l0_0 l0_1 l0_2 ((zae x8_1 0).f0) ((zae x8_1 0).f1) ((zae x8_1 0).f2)) else (none)) else (none)) = some r := by first | (rw [hji47] at H; exact H) | (simp only [hji47] at H ⊢; exact H)
            (try rw [hji47] at A46)
            have hji47w : (IntKind.i64.wrap (((zae x8_1 0).f1) + 1)) = ji47 := (zd9 _).trans hji47
            by_cases c48 : 0 ≤ (ji47)
            ·rw [if_pos c48] at H
             have c48b0 := eq_true c48
             have c48b1 := decide_eq_true c48
             clear c48
             by_cases c49 : (ji47) ≤ (t255.length : Int)
             ·rw [if_pos c49] at H
              have c49b0 := eq_true c49
              have c49b1 := decide_eq_true c49
              clear c49
              obtain ⟨y258, hy258⟩ : ∃ y_ : List (S44), y_ = (t255.drop ((ji47) : Int).toNat) := ⟨_, rfl⟩
              replace H : (zac.l1 kj32 t235 t238 x7_15 y246 t253 ([] : List Int) y258 true 0 l0_0 l0_1 l0_2 ((zae x8_1 0).f0) ((zae x8_1 0).f1) ((zae x8_1 0).f2)) = some r := by first | (rw [hy258]; with_reducible exact H) | (have H2_ := (Option.bind_some _ _).symm.trans H; rw [hy258]; with_reducible exact H2_) | (have H2_ := (Option.bind_some _ _).symm.trans H; with_reducible exact H2_) | with_reducible exact H | (rw [hy258]; exact H) | exact H
              have Ny258 := zaa.mk hy258;clear hy258;have HC50 := zaa.mk H;clear H
              try go_wp2
              replace HO_5 := zaa.mk (Kd.zbn HO_5.out)
              replace HO_6 := zaa.mk (Kd.zbn HO_6.out)
              replace HO_7 := zaa.mk (Kd.zbn HO_7.out)
              replace HO_8 := zaa.mk (Kd.zb8 HO_8.out)
              replace BK234 := zaa.mk (zah BK234.out)
              replace BK245 := zaa.mk (zah BK245.out)
              replace HB := zaa.mk (zas HB.out)
              refine zbl (n := 9) (S := fun w' => w'.cell? ⟨gb234, 0, none⟩ = some (.slice A0_0 l0_0.length c0_0) ∧ w'.cell? ⟨gb234, 1, none⟩ = some (.slice A0_1 l0_1.length c0_1) ∧ w'.cell? ⟨gb234, 2, none⟩ = some (.slice A0_2 l0_2.length c0_2) ∧ w'.cell? ⟨gb245, 0, none⟩ = some (.int .i64 ((zae x8_1 0).f0)) ∧ w'.cell? ⟨gb245, 1, none⟩ = some (.int .i64 ((zae x8_1 0).f1)) ∧ w'.cell? ⟨gb245, 2, none⟩ = some (.int .i64 ((zae x8_1 0).f2))) (ds := []) (Ymk 9 0) (by kernel_rfl) rfl rfl ⟨(zab BK234.out 0).trans rfl, (zab BK234.out 1).trans rfl, (zab BK234.out 2).trans rfl, (zab BK245.out 0).trans rfl, (zab BK245.out 1).trans rfl, (zab BK245.out 2).trans rfl⟩ (fun hHeld => ?_); refine zbw zac.tab15 zac.bits15 (fun HT_ HW_ => ?_)
              generalize wc.drew = w51 at HO_5 HO_6 HO_7 HO_8 BK234 BK245 HB hHeld ⊢
              refine Ypt 1 65 9 2 HT_ ?_
              refine Ypt 4 68 9 18 HT_ ?_
              refine Ytt 0 64 9 19 HT_ HW_ hHeld ?_
              refine Ytt 2 66 9 23 HT_ HW_ hHeld ?_
              refine Ytt 5 69 9 55 HT_ HW_ hHeld ?_
              refine Ypt 6 70 9 119 HT_ ?_
              refine Yot 3 67 9 127 HT_ (fun K hK => ?_)
              refine Ygs Tryz.func36 #[.agg #[.slice A0_0 l0_0.length c0_0, .slice A0_1 l0_1.length c0_1, .slice A0_2 l0_2.length c0_2], .int .i64 ((zae x8_1 0).f0)] ?_
              with_reducible refine (zbo.calls _ _ l0_0 _ _ l0_1 (fun k_ => k_ < w.heap.size) _ _ l0_2 ((zae x8_1 0).f0) t255 _ (Kd.zak HR0_0.out Ybe) HC0_0.out (Kd.zak HR0_1.out Ybe) HC0_1.out ?side5 A46.out).mono ?_
              (case side5 => exact Kd.V_mk HC0_2.out (Kd.zd8 (Kd.C_F zdy HR0_2.out) Yb_PItemTellsx9_1))
              rintro e w52 ⟨v256, rfl, ho0, hb⟩
              refine ⟨_, rfl, ?_⟩
              have HO257 := zaa.mk (Kd.zef (Kd.zc2 (ok' := fun k_ => some k_ ≠ (v236 : Value).ownBlock ∧ some k_ ≠ (v239 : Value).ownBlock ∧ some k_ ≠ (u7 : Value).ownBlock ∧ some k_ ≠ (.slice A22 y246.length c22 : Value).ownBlock ∧ k_ ≠ gb234 ∧ k_ ≠ gb245) ho0 (fun k_ hk_ => ⟨Or.elim hk_ (fun hs_ => fun e_ => Nat.not_le.2 hs_ (Kd.zcj HO_5.out k_ e_.symm)) (fun hn_ => (Kd.fresh' (Kd.R_lt (Yr HO_5)) k_ hn_)), Or.elim hk_ (fun hs_ => fun e_ => Nat.not_le.2 hs_ (Kd.zcj HO_6.out k_ e_.symm)) (fun hn_ => (Kd.fresh' (Kd.R_lt (Yr HO_6)) k_ hn_)), Or.elim hk_ (fun hs_ => fun e_ => Nat.not_le.2 hs_ (Kd.zcj HO_7.out k_ e_.symm)) (fun hn_ => (Kd.fresh' (Kd.R_lt (Yr HO_7)) k_ hn_)), Or.elim hk_ (fun hs_ => fun e_ => Nat.not_le.2 hs_ (Kd.Q_base HO_8.out k_ e_.symm)) (fun hn_ => (Kd.fresh' (Kd.Q_lt (by (with_reducible repeat (first | apply Kd.Q_alloc | apply Kd.Q_drewN | apply Kd.zb8)); exact HO_8.out)) k_ hn_)), Or.elim hk_ (fun hs_ => fun e_ => Nat.not_le.2 hs_ (by rw [e_]; exact GW234.out)) (fun hn_ => (Kd.zcl (g := gb234) (o := .cells #[.slice A0_0 l0_0.length c0_0, .slice A0_1 l0_1.length c0_1, .slice A0_2 l0_2.length c0_2] 25 (0, 0)) (Yg BK234) k_ hn_)), Or.elim hk_ (fun hs_ => fun e_ => Nat.not_le.2 hs_ (by rw [e_]; exact GW245.out)) (fun hn_ => (Kd.zcl (g := gb245) (o := .cells #[.int .i64 ((zae x8_1 0).f0), .int .i64 ((zae x8_1 0).f1), .int .i64 ((zae x8_1 0).f2)] 50 (0, 0)) (Yg BK245) k_ hn_))⟩)) (za8 Yb_PItemTellsx9_1))
              replace HO_5 := zaa.mk (Kd.zbc (Yr HO_5) hb)
              replace HO_6 := zaa.mk (Kd.zbc (Yr HO_6) hb)
              replace HO_7 := zaa.mk (Kd.zbc (Yr HO_7) hb)
              replace HO_8 := zaa.mk (Kd.ze1 (by (with_reducible repeat (first | apply Kd.Q_alloc | apply Kd.Q_drewN | apply Kd.zb8)); exact HO_8.out) hb)
              replace BK234 := Ykb BK234 hb
              replace BK245 := Ykb BK245 hb
              replace HB := zaa.mk (zay Yb_PItemTellsx9_1 hb)
              (try clear hb)
              (try clear hb2)
              (try clear hk)
              (try clear hi)
              (try clear ho0)
              obtain ⟨Ao54, co54, eo54⟩ := Kd.zeg HO257.out
              (first | subst eo54 | (injection eo54 with f1_ f2_ f3_; have f4_ := f1_.symm; have f5_ := f3_.symm; clear f1_ f2_ f3_; subst f4_; subst f5_))
              have q53 : ((ji47) : Int) ≤ ((t255.length : Int) : Int) := Yod
              obtain ⟨i053, hi053, _, hsz53, _⟩ := info_parts info44
              have hroom53 : t255.length ≤ co54 := (Kd.V_reads' HO257.out).2.1
              have hC53 : Kd.F k44 _ _ Ao54 t255.length t255 := (Kd.V_at (base := w.heap.size) HO257.out).2.2
              have q053 : (0 : Int) ≤ ((ji47) : Int) := Yod
              have hcut53 := zeb (P := Tryz.prog) 40 44 .i64 Tryz.underlying40 hi053 3 hsz53 Ao54 t255.length co54 (ji47) q053 q53
              have hr53 := Kd.F_cut (m := ((ji47) : Int).toNat) (c := co54) hC53 (by omega) hroom53
              obtain ⟨A53, hA53⟩ : ∃ A1, A1 = (if co54 = ((ji47) : Int).toNat then Ao54 else (Ao54 : Option Addr).map (·.add (((ji47) : Int).toNat * 3))) := ⟨_, rfl⟩
              obtain ⟨c53, hc53⟩ : ∃ c1, c1 = co54 - ((ji47) : Int).toNat := ⟨_, rfl⟩
              have hy53 : y258.length = t255.length - ((ji47) : Int).toNat := (by rw [Ny258.out, List.length_drop] <;> omega)
              rw [show (t255).drop ((ji47) : Int).toNat = y258 from Ny258.out.symm] at hr53
              replace hr53 : Kd.F k44 _ _ A53 y258.length y258 := (by rw [hA53]; exact hr53)
              rw [← hy53, ← hA53, ← hc53] at hcut53
              have HO262 := zaa.mk (show Kd.V k44 44 _ w.heap.size _ (.slice A53 y258.length c53) y258 from Kd.V_mk (by rw [hy53, hc53]; exact Nat.sub_le_sub_right hroom53 _) hr53)
              have HC262 := zaa.mk (show y258.length ≤ c53 from by rw [hy53, hc53]; exact Nat.sub_le_sub_right hroom53 _)
              clear hr53 hC53 hroom53 hi053 hsz53 hc53;have KY53 := zaa.mk hy53;have KA53 := zaa.mk hA53;clear hy53 hA53
              replace q53 := eq_true q53
              refine hK.out _ _ ⟨(zab BK234.out 0).trans rfl, (zab BK234.out 1).trans rfl, (zab BK234.out 2).trans rfl, (zab BK245.out 0).trans rfl, (zab BK245.out 1).trans rfl, (zab BK245.out 2).trans rfl⟩ (fun hHeld => ?_)
              clear hK K
              refine Ynw 67 ?_
              refine Ypt 7 71 9 255 HT_ ?_
              refine Ypt 8 14 9 511 HT_ ?_
              refine zbq (zb4 HT_.out (by kernel_rfl)) ?_
              go_upto_block 2 with (fail)
              go_cut [13, 15] (fun v13 v15 wc => ∃ (kq : Nat) (x13_49 : List Int) (x15_49 : Bool), v15 = .bool x15_49 ∧ zaa (zac.j4 kq t235 t238 x7_15 y246 t253 x13_49 x15_49 l0_0 l0_1 l0_2 ((zae x8_1 0).f0) ((zae x8_1 0).f1) ((zae x8_1 0).f2) = some r) ∧ zaa (kq ≤ kj32) ∧ zaa (Kd.R (Kd.slice 3 (Kd.int .i64)) 35 wc w.heap.size (fun k_ => some k_ ≠ (v13 : Value).ownBlock) v236 t235) ∧ zaa (Kd.R Kd.bool 4 wc w.heap.size (fun _ => True) v239 t238) ∧ zaa (Kd.R k50 50 wc w.heap.size (fun k_ => some k_ ≠ ((.slice A22 y246.length c22) : Value).ownBlock ∧ k_ ≠ gb245) u7 x7_15) ∧ zaa (Kd.Q k50 50 wc w.heap.size (fun k_ => some k_ ≠ (u7 : Value).ownBlock ∧ k_ ≠ gb245) (.slice A22 y246.length c22) y246) ∧ zaa (Kd.R (Kd.int .i64) 3 wc w.heap.size (fun _ => True) v13 x13_49) ∧ zaa (wc.heap[gb234]? = some (.cells #[(.slice A0_0 l0_0.length c0_0), (.slice A0_1 l0_1.length c0_1), (.slice A0_2 l0_2.length c0_2)] 25 (0, 0))) ∧ zaa (wc.heap[gb245]? = some (.cells #[.int .i64 ((zae x8_1 0).f0), .int .i64 ((zae x8_1 0).f1), .int .i64 ((zae x8_1 0).f2)] 50 (0, 0))) ∧ zaa (Below w.heap.size w wc))
              case first =>
               have H := HC50.out;clear HC50
               have H' := zaa.mk H
               clear H;go_wp2
               go_loopg [13, 15, 16] kj32 (fun kq v13 v15 v16 w' => ∃ (x13_4 : List Int) (x15_4 : Bool) (x16_4 : Int), v15 = .bool x15_4 ∧ v16 = .int .i64 x16_4 ∧ zaa (zac.l1 kq t235 t238 x7_15 y246 t253 x13_4 y258 x15_4 x16_4 l0_0 l0_1 l0_2 ((zae x8_1 0).f0) ((zae x8_1 0).f1) ((zae x8_1 0).f2) = some r) ∧ zaa (kq ≤ kj32) ∧ zaa (Kd.R (Kd.slice 3 (Kd.int .i64)) 35 w' w.heap.size (fun k_ => some k_ ≠ (v13 : Value).ownBlock) v236 t235) ∧ zaa (Kd.R Kd.bool 4 w' w.heap.size (fun _ => True) v239 t238) ∧ zaa (Kd.R k50 50 w' w.heap.size (fun k_ => some k_ ≠ ((.slice A22 y246.length c22) : Value).ownBlock ∧ k_ ≠ gb245) u7 x7_15) ∧ zaa (Kd.Q k50 50 w' w.heap.size (fun k_ => some k_ ≠ (u7 : Value).ownBlock ∧ k_ ≠ gb245) (.slice A22 y246.length c22) y246) ∧ zaa (Kd.R (Kd.int .i64) 3 w' w.heap.size (fun _ => True) v13 x13_4) ∧ zaa (Kd.V k44 44 w' w.heap.size (fun k_ => some k_ ≠ (v236 : Value).ownBlock ∧ some k_ ≠ (v239 : Value).ownBlock ∧ some k_ ≠ (u7 : Value).ownBlock ∧ some k_ ≠ ((.slice A22 y246.length c22) : Value).ownBlock ∧ some k_ ≠ (v13 : Value).ownBlock ∧ k_ ≠ gb234 ∧ k_ ≠ gb245) (.slice A53 y258.length c53) y258) ∧ zaa (w'.heap[gb234]? = some (.cells #[(.slice A0_0 l0_0.length c0_0), (.slice A0_1 l0_1.length c0_1), (.slice A0_2 l0_2.length c0_2)] 25 (0, 0))) ∧ zaa (w'.heap[gb245]? = some (.cells #[.int .i64 ((zae x8_1 0).f0), .int .i64 ((zae x8_1 0).f1), .int .i64 ((zae x8_1 0).f2)] 50 (0, 0))) ∧ zaa (Below w.heap.size w w'))
               case atStart => exact ⟨(([] : List Int)), (true), (0), Yfs, Yfs, H', ⟨Nat.le_refl _⟩, ⟨by (with_reducible repeat (first | apply Kd.R_alloc | apply Kd.zb0 | apply Kd.zbn)); exact Kd.zba HO_5.out (fun _ hk => (by simp [Value.ownBlock]))⟩, ⟨Yr HO_6⟩, ⟨Yr HO_7⟩, ⟨by (with_reducible repeat (first | apply Kd.Q_alloc | apply Kd.Q_drewN | apply Kd.zb8)); exact HO_8.out⟩, ⟨by first | exact Kd.zdr _ _ _ _ _ | exact Kd.N_nil _ _ _ _ _ | exact Kd.V_nil _ _ _ _ _ | exact Kd.Q_nil _ _ _ _ _ | exact Kd.S_nil _ _ _ _ _⟩, ⟨by (with_reducible repeat (first | apply Kd.V_alloc | apply Kd.V_drewN | apply Kd.V_drew)); exact Kd.zc2 HO262.out (fun _ hk => ⟨hk.1, ⟨hk.2.1, ⟨hk.2.2.1, ⟨hk.2.2.2.1, ⟨(by simp [Value.ownBlock]), ⟨hk.2.2.2.2.1, hk.2.2.2.2.2⟩⟩⟩⟩⟩⟩)⟩, ⟨Yg BK234⟩, ⟨Yg BK245⟩, ⟨Yb_PItemTellsx9_1⟩⟩
               case round =>
                clear H'
                obtain ⟨x13_4, x15_4, x16_4, rfl, rfl, HA, HK4, HO_5, HO_6, HO_7, HO_8, HO_13, HO_14, BK234, BK245, HB⟩ := hrel
                cases gk with
                | zero => exact absurd HA.out (by simp [zac.l1])
                | succ k4 =>
                 have H := HA.out;clear HA
                 simp only [zac.l1] at H
                 by_cases c55 : x16_4 < (y258.length : Int)
                 ·rw [if_pos c55] at H
                  have c55b0 := decide_eq_true c55
                  clear c55
                  (first | rw [c55b0] | (simp only [zd9, zeo]; rw [c55b0]) | skip)
                  by_cases c56 : x15_4 = true
                  ·subst c56
                   have H1 : (if 0 ≤ x16_4 then (if 0 ≤ ((za3 y258 x16_4).f0) then (if ((za3 y258 x16_4).f0) < (t235.length : Int) then ((zbd.f k4 x13_4 (zfd t235 ((za3 y258 x16_4).f0))).bind fun t265 => (if ((za3 y258 x16_4).f0) < (t238.length : Int) then (zac.l1 k4 t235 t238 x7_15 y246 t253 t265 y258 (rdOf false t238 ((za3 y258 x16_4).f0)) (wrap64 (x16_4 + 1)) l0_0 l0_1 l0_2 ((zae x8_1 0).f0) ((zae x8_1 0).f1) ((zae x8_1 0).f2)) else (none))) else (none)) else (none)) else (none)) = some r := by rw [if_pos rfl] at H; exact H
                   clear H;have H := H1;clear H1
                   by_cases c57 : 0 ≤ x16_4
                   ·rw [if_pos c57] at H
                    have c57b0 := decide_eq_true c57
                    clear c57
                    by_cases c58 : 0 ≤ ((za3 y258 x16_4).f0)
                    ·rw [if_pos c58] at H
                     have c58b0 := decide_eq_true c58
                     clear c58
                     by_cases c59 : ((za3 y258 x16_4).f0) < (t235.length : Int)
                     ·rw [if_pos c59] at H
                      have c59b0 := decide_eq_true c59
                      clear c59;replace H := Option.bind_eq_some_iff.mp H
                      obtain ⟨t265, A600, H⟩ := H
                      replace H : (if ((za3 y258 x16_4).f0) < (t238.length : Int) then (zac.l1 k4 t235 t238 x7_15 y246 t253 t265 y258 (rdOf false t238 ((za3 y258 x16_4).f0)) (wrap64 (x16_4 + 1)) l0_0 l0_1 l0_2 ((zae x8_1 0).f0) ((zae x8_1 0).f1) ((zae x8_1 0).f2)) else (none)) = some r := H
                      have A60 := zaa.mk A600;clear A600
                      by_cases c61 : ((za3 y258 x16_4).f0) < (t238.length : Int)
                      ·rw [if_pos c61] at H
                       have c61b0 := decide_eq_true c61
                       clear c61
                       have H' := zaa.mk H
                       clear H
                       have p263 : 0 ≤ (x16_4 : Int) := Yod
                       have q263 : x16_4 < (y258.length : Int) := Yod
                       obtain ⟨ad263, e263, hx263_0, hx263_1, hx263_2⟩ := zej (Kd.V_reads' HO_14.out).2.2 x16_4 p263 q263
                       cases e263
                       replace p263 := eq_true p263
                       replace q263 := eq_true q263
                       obtain ⟨Ao62, co62, eo62⟩ := Kd.zbj HO_5.out
                       subst eo62
                       have p264 : 0 ≤ (((za3 y258 x16_4).f0) : Int) := Yod
                       have q264 : ((za3 y258 x16_4).f0) < (t235.length : Int) := Yod
                       obtain ⟨ad264, A264_0, c264_0, e264, hx264_0, hl264_0, hi264_0⟩ := at_L8 (Kd.R_reads' HO_5.out).2.2 ((za3 y258 x16_4).f0) p264 q264
                       cases e264
                       obtain ⟨ce264, hce264, hMe264, hcc264⟩ := Kd.R_get HO_5.out [] ((za3 y258 x16_4).f0) p264 (by first | exact q264 | exact of_decide_eq_true (by first | (with_reducible assumption) | assumption) | (have e_ := (Kd.R_reads' HO_5.out).1; omega))
                       obtain ⟨ve264_0, rfl, ge264_0⟩ := hMe264
                       have hv264_0 := hcc264 0 _ rfl
                       rw [Nat.add_zero, show ((Kd.slice 3 (Kd.int .i64))).sz = 1 from rfl, Nat.mul_one] at hv264_0
                       replace hv264_0 := Option.some.inj (hv264_0.symm.trans hx264_0)
                       rw [hv264_0] at ge264_0
                       have HL264_0 := zaa.mk (show Kd.R (Kd.int .i64) 3 _ _ _ _ (zfd t235 ((za3 y258 x16_4).f0)) from ge264_0)
                       clear hv264_0 ge264_0;clear hcc264 hce264;have HR264_0 := zaa.mk hi264_0;have HC264_0 := zaa.mk hl264_0;clear hi264_0 hl264_0
                       replace p264 := eq_true p264
                       replace q264 := eq_true q264
                       obtain ⟨Ao63, co63, eo63⟩ := Kd.zbj HO_13.out
                       subst eo63
                       go_wp2_with (first | ((with_reducible refine zbm (f := 41) rfl ?_); refine Ygl (some 90) Tryz.func41 #[.slice Ao63 x13_4.length co63, .slice A264_0 (zfd t235 ((za3 y258 x16_4).f0)).length c264_0] ?_; (with_reducible refine (zbd.calls k4 (fun k_ => some k_ = (.slice Ao63 x13_4.length co63 : Value).ownBlock) (.slice Ao63 x13_4.length co63) x13_4 _ _ (zfd t235 ((za3 y258 x16_4).f0)) t265 w _ ?side1 ?side2 ?side3 HC264_0.out A60.out).mono ?_); (case side1 => repeat (first | (with_reducible first | exact HB.out | apply za2 | apply zav | apply zas | refine za6 ?_ GE234.out | refine za6 ?_ GE245.out) | exact HB.out)); (case side2 => exact Kd.zgx rfl HO_13.out); (case side3 => exact Kd.zjd (HL264_0.out) (fun k_ hk_ hs_ => (hk_.1) hs_)); rintro e w64 ⟨v266, rfl, ho0, hb, hkp⟩; refine ⟨_, rfl, ?_⟩; replace HO_5 := zaa.mk (Kd.zba (ok' := fun k_ => some k_ ≠ (v266 : Value).ownBlock) (Kd.zee (HO_5.out) hkp (fun k_ hk_ hs_ => (hk_) hs_)) (fun k_ hk_ => fun e_ => Or.elim (ho0.1 k_ e_.symm) (fun hs_ => hk_.2.1 hs_) (fun hn_ => Nat.not_le.2 hk_.2.2 hn_))); replace HO_6 := zaa.mk (Kd.zba (ok' := fun k_ => True) (Kd.zee ((Kd.R_apart' HO_6.out (Kd.zdm HO_13.out) (by decide))) hkp (fun k_ hk_ hs_ => (hk_.2) hs_)) (fun k_ hk_ => trivial)); replace HO_7 := zaa.mk (Kd.zba (ok' := fun k_ => some k_ ≠ (.slice A22 y246.length c22 : Value).ownBlock ∧ k_ ≠ gb245) (Kd.zee ((Kd.R_apart' HO_7.out (Kd.zdm HO_13.out) (by decide))) hkp (fun k_ hk_ hs_ => (hk_.2) hs_)) (fun k_ hk_ => ⟨hk_.1.1.1, hk_.1.1.2⟩)); replace HO_8 := zaa.mk (Kd.zd6 (ok' := fun k_ => some k_ ≠ (u7 : Value).ownBlock ∧ k_ ≠ gb245) (Kd.Q_keptB ((Kd.Q_apart' HO_8.out (Kd.zdm HO_13.out) (by decide))) hkp (fun k_ hk_ hs_ => (hk_.2) hs_)) (fun k_ hk_ => ⟨hk_.1.1.1, hk_.1.1.2⟩)); replace HO_14 := zaa.mk (Kd.zc2 (ok' := fun k_ => some k_ ≠ (.slice (some ad264) t235.length co62 : Value).ownBlock ∧ some k_ ≠ (v239 : Value).ownBlock ∧ some k_ ≠ (u7 : Value).ownBlock ∧ some k_ ≠ (.slice A22 y246.length c22 : Value).ownBlock ∧ k_ ≠ gb234 ∧ k_ ≠ gb245 ∧ some k_ ≠ (v266 : Value).ownBlock) (Kd.V_keptB (HO_14.out) hkp (fun k_ hk_ hs_ => (hk_.2.2.2.2.1) hs_)) (fun k_ hk_ => ⟨hk_.1.1, hk_.1.2.1, hk_.1.2.2.1, hk_.1.2.2.2.1, hk_.1.2.2.2.2.2.1, hk_.1.2.2.2.2.2.2, fun e_ => Or.elim (ho0.1 k_ e_.symm) (fun hs_ => hk_.2.1 hs_) (fun hn_ => Nat.not_le.2 hk_.2.2 hn_)⟩)); replace BK234 := zaa.mk (ze3 (Yg BK234) hkp (fun hs_ => (fun e_ => (Kd.R_ne HO_13.out BK234.out (by decide)) e_) hs_)); replace BK245 := zaa.mk (ze3 (Yg BK245) hkp (fun hs_ => (fun e_ => (Kd.R_ne HO_13.out BK245.out (by decide)) e_) hs_)); have HO267 := zaa.mk (Kd.zba (ok' := fun k_ => True) ho0 (fun k_ hk_ => trivial)); replace HB := zaa.mk (hb); clear HO_13 HL264_0; (try clear hb); (try clear hkp); (try clear ho0); have p268 : 0 ≤ (x16_4 : Int) := Yod; have q268 : x16_4 < (y258.length : Int) := Yod; obtain ⟨ad268, e268, hx268_0, hx268_1, hx268_2⟩ := zej (Kd.V_reads' HO_14.out).2.2 x16_4 p268 q268; obtain rfl : ad263 = ad268 := (by injection e268); replace p268 := eq_true p268; replace q268 := eq_true q268; obtain ⟨Ao65, co65, eo65⟩ := Kd.zbj HO_6.out; subst eo65; have p269 : 0 ≤ (((za3 y258 x16_4).f0) : Int) := Yod; have q269 : ((za3 y258 x16_4).f0) < (t238.length : Int) := Yod; obtain ⟨ad269, e269, hx269_0⟩ := Kd.zf5 (Kd.R_reads' HO_6.out).2.2 ((za3 y258 x16_4).f0) p269 q269; cases e269; replace p269 := eq_true p269; replace q269 := eq_true q269))
                       go_roundg k4
                       case measure => have := HK1.out; have := HJ15.out; have := HJ32.out; have := HK4.out; omega
                       case rel => exact ⟨(t265), (rdOf false t238 ((za3 y258 x16_4).f0)), (wrap64 (x16_4 + 1)), Yfs, Yfs, H', ⟨by have := HK1.out; have := HJ15.out; have := HJ32.out; have := HK4.out; omega⟩, ⟨Yr HO_5⟩, ⟨Yr HO_6⟩, ⟨Yr HO_7⟩, ⟨by (with_reducible repeat (first | apply Kd.Q_alloc | apply Kd.Q_drewN | apply Kd.zb8)); exact HO_8.out⟩, ⟨Yr HO267⟩, ⟨by (with_reducible repeat (first | apply Kd.V_alloc | apply Kd.V_drewN | apply Kd.V_drew)); exact Kd.zc2 HO_14.out (fun _ hk => ⟨hk.1, ⟨hk.2.1, ⟨hk.2.2.1, ⟨hk.2.2.2.1, ⟨hk.2.2.2.2.2.2, ⟨hk.2.2.2.2.1, hk.2.2.2.2.2.1⟩⟩⟩⟩⟩⟩)⟩, ⟨Yg BK234⟩, ⟨Yg BK245⟩, ⟨Yb_PItemTellsx9_1⟩⟩
                      ·rw [if_neg c61] at H
                       exact absurd H (by simp)
                     ·rw [if_neg c59] at H
                      exact absurd H (by simp)
                    ·rw [if_neg c58] at H
                     exact absurd H (by simp)
                   ·rw [if_neg c57] at H
                    exact absurd H (by simp)
                  ·replace c56 := Bool.eq_false_iff.mpr c56
                   subst c56
                   have H1 : (zac.j4 k4 t235 t238 x7_15 y246 t253 x13_4 false l0_0 l0_1 l0_2 ((zae x8_1 0).f0) ((zae x8_1 0).f1) ((zae x8_1 0).f2)) = some r := by rw [if_neg (show ¬ (false = true) by decide)] at H; exact H
                   clear H;have H := H1;clear H1
                   have H' := zaa.mk H
                   clear H;go_wp2
                   go_meet
                   case rel => exact ⟨_, (x13_4), (false), Yfs, H', ⟨by have := HK1.out; have := HJ15.out; have := HJ32.out; have := HK4.out; first | omega | exact Nat.le_refl _⟩, ⟨Yr HO_5⟩, ⟨Yr HO_6⟩, ⟨Yr HO_7⟩, ⟨by (with_reducible repeat (first | apply Kd.Q_alloc | apply Kd.Q_drewN | apply Kd.zb8)); exact HO_8.out⟩, ⟨Yr HO_13⟩, ⟨Yg BK234⟩, ⟨Yg BK245⟩, ⟨Yb_PItemTellsx9_1⟩⟩
                 ·rw [if_neg c55] at H
                  have c55b0 := decide_eq_false c55
                  clear c55
                  (first | rw [c55b0] | (simp only [zd9, zeo]; rw [c55b0]) | skip)
                  have H' := zaa.mk H
                  clear H;go_wp2
                  go_meet
                  case rel => exact ⟨_, (x13_4), (x15_4), Yfs, H', ⟨by have := HK1.out; have := HJ15.out; have := HJ32.out; have := HK4.out; first | omega | exact Nat.le_refl _⟩, ⟨Yr HO_5⟩, ⟨Yr HO_6⟩, ⟨Yr HO_7⟩, ⟨by (with_reducible repeat (first | apply Kd.Q_alloc | apply Kd.Q_drewN | apply Kd.zb8)); exact HO_8.out⟩, ⟨Yr HO_13⟩, ⟨Yg BK234⟩, ⟨Yg BK245⟩, ⟨Yb_PItemTellsx9_1⟩⟩
              case rest =>
               clear HC50
               obtain ⟨kq, x13_49, x15_49, rfl, HA, HJ49, HO_5, HO_6, HO_7, HO_8, HO_13, BK234, BK245, HB⟩ := hcut
               cases kq with
               | zero => exact absurd HA.out (by simp [zac.j4])
               | succ kj49 =>
                have H := HA.out;clear HA
                simp only [zac.j4] at H
                have HC66 := zaa.mk H;clear H
                go_upto_if 99 with (fail)
                go_cut [13] (fun v13 wc => ∃ (kq : Nat) (x13_65 : List Int), zaa (zac.j5 kq t235 t238 x7_15 y246 t253 x13_65 l0_0 l0_1 l0_2 = some r) ∧ zaa (kq ≤ kj49) ∧ zaa (Kd.R (Kd.slice 3 (Kd.int .i64)) 35 wc w.heap.size (fun k_ => some k_ ≠ (v13 : Value).ownBlock) v236 t235) ∧ zaa (Kd.R Kd.bool 4 wc w.heap.size (fun _ => True) v239 t238) ∧ zaa (Kd.R k50 50 wc w.heap.size (fun k_ => some k_ ≠ ((.slice A22 y246.length c22) : Value).ownBlock ∧ k_ ≠ gb245) u7 x7_15) ∧ zaa (Kd.Q k50 50 wc w.heap.size (fun k_ => some k_ ≠ (u7 : Value).ownBlock ∧ k_ ≠ gb245) (.slice A22 y246.length c22) y246) ∧ zaa (Kd.R (Kd.int .i64) 3 wc w.heap.size (fun _ => True) v13 x13_65) ∧ zaa (wc.heap[gb234]? = some (.cells #[(.slice A0_0 l0_0.length c0_0), (.slice A0_1 l0_1.length c0_1), (.slice A0_2 l0_2.length c0_2)] 25 (0, 0))) ∧ zaa (wc.heap[gb245]? = some (.cells #[.int .i64 ((zae x8_1 0).f0), .int .i64 ((zae x8_1 0).f1), .int .i64 ((zae x8_1 0).f2)] 50 (0, 0))) ∧ zaa (Below w.heap.size w wc))
                case first =>
                 have H := HC66.out;clear HC66
                 by_cases c67 : x15_49 = true
                 ·subst c67
                  have H1 : ((zbd.f kj49 x13_49 (([((zae x8_1 0).f2)] : List Int))).bind fun t273 => (zac.j5 kj49 t235 t238 x7_15 y246 t253 t273 l0_0 l0_1 l0_2)) = some r := by rw [if_pos rfl] at H; exact H
                  clear H;have H := H1;clear H1
                  obtain ⟨y270, hy270⟩ : ∃ y_ : List Int, y_ = (([((zae x8_1 0).f2)] : List Int)) := ⟨_, rfl⟩
                  replace H : ((zbd.f kj49 x13_49 y270).bind fun t273 => (zac.j5 kj49 t235 t238 x7_15 y246 t253 t273 l0_0 l0_1 l0_2)) = some r := by first | (rw [hy270]; with_reducible exact H) | (have H2_ := (Option.bind_some _ _).symm.trans H; rw [hy270]; with_reducible exact H2_) | (have H2_ := (Option.bind_some _ _).symm.trans H; with_reducible exact H2_) | with_reducible exact H | (rw [hy270]; exact H) | exact H
                  have Ny270 := zaa.mk hy270;clear hy270;replace H := Option.bind_eq_some_iff.mp H
                  obtain ⟨t273, A680, H⟩ := H
                  replace H : (zac.j5 kj49 t235 t238 x7_15 y246 t253 t273 l0_0 l0_1 l0_2) = some r := H
                  have A68 := zaa.mk A680;clear A680
                  have H' := zaa.mk H
                  clear H
                  have hnb69 := NB245_234.out
                  have hnc69 := NB234_245.out
                  obtain ⟨hcz70_0, hfz70_0, hcz70_1, hfz70_1, hcz70_2, hfz70_2⟩ := Yc3 BK245.out
                  go_wp2_with (first | ((with_reducible refine zau (N := 103) rfl ?_); (try (refine zaz (by rfl) ?_; dsimp only)); refine Kd.R_lit (Kd.int .i64) _ 3 ?hg (N := 103) ?hd (xs := ([((zae x8_1 0).f2)] : List Int)) (inner := [.int .i64 ((zae x8_1 0).f2)]) (ok := fun _ => True) (okp := fun _ => True) ?hr ?hp (fun _ hk => hk) trivial (Below.refl _ _) (Nat.le_refl _) (by simp) ?_; (case hd => rfl); (case hg => rfl); (case hr => first | (go_simp; done) | (go_simp; rfl)); (case hp => exact (Reps.one (show Kd.M (Kd.int .i64) _ _ _ ((zae x8_1 0).f2) [.int .i64 ((zae x8_1 0).f2)] from rfl) (Reps.none _ _))); intro v271 w71 ho72 hb hg_ hnew_; clear hg_ hnew_; (first | rw [← Ny270.out] at ho72 | (simp only [Int.reduceToNat] at ho72; rw [← Ny270.out] at ho72)); replace HO_5 := zaa.mk (Kd.R_elder' (Yr HO_5) (Kd.zcj ho72) hb); replace HO_6 := zaa.mk (Kd.zbc (Yr HO_6) hb); replace HO_7 := zaa.mk (Kd.zbc (Yr HO_7) hb); replace HO_8 := zaa.mk (Kd.ze1 (by (with_reducible repeat (first | apply Kd.Q_alloc | apply Kd.Q_drewN | apply Kd.zb8)); exact HO_8.out) hb); have HO272 := zaa.mk (Kd.zbz (Kd.R_new' ho72 (Kd.R_lt (Yr HO_13))) (za8 Yb_PItemTellsx9_1)); replace HO_13 := zaa.mk (Kd.R_elder' (Yr HO_13) (Kd.zcj ho72) hb); replace BK234 := Ykb BK234 hb; replace BK245 := Ykb BK245 hb; replace HB := zaa.mk (zay Yb_PItemTellsx9_1 hb); clear hb ho72; obtain ⟨Ao73, co73, eo73⟩ := Kd.zbj HO_13.out; subst eo73; obtain ⟨Ao74, co74, eo74⟩ := Kd.zbj HO272.out; subst eo74) | ((with_reducible refine zbm (f := 41) rfl ?_); refine Ygl (some 104) Tryz.func41 #[.slice Ao73 x13_49.length co73, .slice Ao74 y270.length co74] ?_; (with_reducible refine (zbd.calls kj49 (fun k_ => some k_ = (.slice Ao73 x13_49.length co73 : Value).ownBlock) (.slice Ao73 x13_49.length co73) x13_49 _ _ y270 t273 w _ ?side1 ?side2 ?side3 ?side4 A68.out).mono ?_); (case side1 => repeat (first | (with_reducible first | exact HB.out | apply za2 | apply zav | apply zas | refine za6 ?_ GE234.out | refine za6 ?_ GE245.out) | exact HB.out)); (case side2 => exact Kd.zgx rfl HO_13.out); (case side3 => exact Kd.zjd (HO272.out) (fun k_ hk_ hs_ => (hk_.2) hs_)); (case side4 => exact (Kd.R_reads' HO272.out).2.1); rintro e w75 ⟨v274, rfl, ho0, hb, hkp⟩; refine ⟨_, rfl, ?_⟩; replace HO_5 := zaa.mk (Kd.zba (ok' := fun k_ => some k_ ≠ (.slice Ao74 y270.length co74 : Value).ownBlock ∧ some k_ ≠ (v274 : Value).ownBlock) (Kd.zee (HO_5.out) hkp (fun k_ hk_ hs_ => (hk_.1) hs_)) (fun k_ hk_ => ⟨hk_.1.2, fun e_ => Or.elim (ho0.1 k_ e_.symm) (fun hs_ => hk_.2.1 hs_) (fun hn_ => Nat.not_le.2 hk_.2.2 hn_)⟩)); replace HO_6 := zaa.mk (Kd.zba (ok' := fun k_ => True) (Kd.zee ((Kd.R_apart' HO_6.out (Kd.zdm HO_13.out) (by decide))) hkp (fun k_ hk_ hs_ => (hk_.2) hs_)) (fun k_ hk_ => trivial)); replace HO_7 := zaa.mk (Kd.zba (ok' := fun k_ => some k_ ≠ (.slice A22 y246.length c22 : Value).ownBlock ∧ k_ ≠ gb245) (Kd.zee ((Kd.R_apart' HO_7.out (Kd.zdm HO_13.out) (by decide))) hkp (fun k_ hk_ hs_ => (hk_.2) hs_)) (fun k_ hk_ => ⟨hk_.1.1.1, hk_.1.1.2⟩)); replace HO_8 := zaa.mk (Kd.zd6 (ok' := fun k_ => some k_ ≠ (u7 : Value).ownBlock ∧ k_ ≠ gb245) (Kd.Q_keptB ((Kd.Q_apart' HO_8.out (Kd.zdm HO_13.out) (by decide))) hkp (fun k_ hk_ hs_ => (hk_.2) hs_)) (fun k_ hk_ => ⟨hk_.1.1.1, hk_.1.1.2⟩)); replace BK234 := zaa.mk (ze3 (Yg BK234) hkp (fun hs_ => (fun e_ => (Kd.R_ne HO_13.out BK234.out (by decide)) e_) hs_)); replace BK245 := zaa.mk (ze3 (Yg BK245) hkp (fun hs_ => (fun e_ => (Kd.R_ne HO_13.out BK245.out (by decide)) e_) hs_)); have HO275 := zaa.mk (Kd.zba (ok' := fun k_ => some k_ ≠ (.slice Ao74 y270.length co74 : Value).ownBlock) ho0 (fun k_ hk_ => Or.elim hk_ (fun hs_ => fun e_ => (((HO272.out).1 k_ e_.symm).2) hs_) (fun hn_ => (Kd.fresh' (Kd.R_lt (Yr HO272)) k_ hn_)))); replace HO272 := zaa.mk (Kd.zba (ok' := fun k_ => some k_ ≠ (v274 : Value).ownBlock) (Kd.zee (HO272.out) hkp (fun k_ hk_ hs_ => (hk_.2) hs_)) (fun k_ hk_ => fun e_ => Or.elim (ho0.1 k_ e_.symm) (fun hs_ => hk_.2.1 hs_) (fun hn_ => Nat.not_le.2 hk_.2.2 hn_))); replace HB := zaa.mk (hb); clear HO_13; (try clear hb); (try clear hkp); (try clear ho0)))
                  go_meet
                  case rel => exact ⟨_, (t273), H', ⟨by have := HK1.out; have := HJ15.out; have := HJ32.out; have := HJ49.out; first | omega | exact Nat.le_refl _⟩, ⟨by (with_reducible repeat (first | apply Kd.R_alloc | apply Kd.zb0 | apply Kd.zbn)); exact Kd.zba HO_5.out (fun _ hk => hk.2)⟩, ⟨Yr HO_6⟩, ⟨Yr HO_7⟩, ⟨by (with_reducible repeat (first | apply Kd.Q_alloc | apply Kd.Q_drewN | apply Kd.zb8)); exact HO_8.out⟩, ⟨by (with_reducible repeat (first | apply Kd.R_alloc | apply Kd.zb0 | apply Kd.zbn)); exact Kd.zba HO275.out (fun _ hk => trivial)⟩, ⟨Yg BK234⟩, ⟨Yg BK245⟩, ⟨Yb_PItemTellsx9_1⟩⟩
                 ·replace c67 := Bool.eq_false_iff.mpr c67
                  subst c67
                  have H1 : (zac.j5 kj49 t235 t238 x7_15 y246 t253 x13_49 l0_0 l0_1 l0_2) = some r := by rw [if_neg (show ¬ (false = true) by decide)] at H; exact H
                  clear H;have H := H1;clear H1
                  have H' := zaa.mk H
                  clear H;go_wp2
                  go_meet
                  case rel => exact ⟨_, (x13_49), H', ⟨by have := HK1.out; have := HJ15.out; have := HJ32.out; have := HJ49.out; first | omega | exact Nat.le_refl _⟩, ⟨Yr HO_5⟩, ⟨Yr HO_6⟩, ⟨Yr HO_7⟩, ⟨by (with_reducible repeat (first | apply Kd.Q_alloc | apply Kd.Q_drewN | apply Kd.zb8)); exact HO_8.out⟩, ⟨Yr HO_13⟩, ⟨Yg BK234⟩, ⟨Yg BK245⟩, ⟨Yb_PItemTellsx9_1⟩⟩
                case rest =>
                 clear HC66
                 obtain ⟨kq, x13_65, HA, HJ65, HO_5, HO_6, HO_7, HO_8, HO_13, BK234, BK245, HB⟩ := hcut
                 cases kq with
                 | zero => exact absurd HA.out (by simp [zac.j5])
                 | succ kj65 =>
                  have H := HA.out;clear HA
                  simp only [zac.j5] at H
                  replace H := Option.bind_eq_some_iff.mp H
                  obtain ⟨t276, A760, H⟩ := H
                  replace H : (zac.l2 kj65 t235 t238 x7_15 y246 x13_65 t276 0 l0_0 l0_1 l0_2) = some r := H
                  have A76 := zaa.mk A760;clear A760
                  have H' := zaa.mk H
                  clear H
                  have hnb77 := NB234_245.out
                  have hnc77 := NB245_234.out
                  obtain ⟨hcz78_0, hfz78_0, hcz78_1, hfz78_1, hcz78_2, hfz78_2⟩ := Yc3 BK234.out
                  go_wp2_with (first | ((with_reducible refine zbm (f := 12) rfl ?_); refine Ygl (some 107) Tryz.func12 #[.agg #[.slice A0_0 l0_0.length c0_0, .slice A0_1 l0_1.length c0_1, .slice A0_2 l0_2.length c0_2], .int .i64 t253] ?_; (with_reducible refine (zbv.calls kj65 _ _ l0_0 _ _ l0_1 _ _ l0_2 t253 t276 _ (Kd.zak HR0_0.out Ybe) HC0_0.out (Kd.zak HR0_1.out Ybe) HC0_1.out (Kd.zak HR0_2.out Ybe) HC0_2.out A76.out).mono ?_); rintro e w79 ⟨v277, rfl, ho0, hb⟩; refine ⟨_, rfl, ?_⟩; replace HO_5 := zaa.mk (Kd.R_elder' (Yr HO_5) (Kd.zcj ho0) hb); replace HO_6 := zaa.mk (Kd.zbc (Yr HO_6) hb); replace HO_7 := zaa.mk (Kd.zbc (Yr HO_7) hb); replace HO_8 := zaa.mk (Kd.ze1 (by (with_reducible repeat (first | apply Kd.Q_alloc | apply Kd.Q_drewN | apply Kd.zb8)); exact HO_8.out) hb); have HO278 := zaa.mk (Kd.zbz (Kd.R_new' ho0 (Kd.R_lt (Yr HO_13))) (za8 Yb_PItemTellsx9_1)); replace HO_13 := zaa.mk (Kd.R_elder' (Yr HO_13) (Kd.zcj ho0) hb); replace BK234 := Ykb BK234 hb; replace BK245 := Ykb BK245 hb; replace HB := zaa.mk (zay Yb_PItemTellsx9_1 hb); (try clear hb); (try clear hb2); (try clear hk); (try clear hi); (try clear ho0)))
                  go_loopg [8, 18] kj65 (fun kq v8 v18 w' => ∃ (x8_6 : List (S50)) (x18_6 : Int), v18 = .int .i64 x18_6 ∧ zaa (zac.l2 kq t235 t238 x7_15 x8_6 x13_65 t276 x18_6 l0_0 l0_1 l0_2 = some r) ∧ zaa (kq ≤ kj65) ∧ zaa (Kd.R (Kd.slice 3 (Kd.int .i64)) 35 w' w.heap.size (fun k_ => some k_ ≠ (u13 : Value).ownBlock ∧ some k_ ≠ (v277 : Value).ownBlock) v236 t235) ∧ zaa (Kd.R Kd.bool 4 w' w.heap.size (fun _ => True) v239 t238) ∧ zaa (Kd.R k50 50 w' w.heap.size (fun k_ => some k_ ≠ (v8 : Value).ownBlock ∧ k_ ≠ gb245) u7 x7_15) ∧ zaa (Kd.Q k50 50 w' w.heap.size (fun k_ => some k_ ≠ (u7 : Value).ownBlock ∧ k_ ≠ gb245) v8 x8_6) ∧ zaa (Kd.R (Kd.int .i64) 3 w' w.heap.size (fun k_ => some k_ ≠ (v277 : Value).ownBlock) u13 x13_65) ∧ zaa (Kd.R (Kd.int .i64) 3 w' w.heap.size (fun k_ => some k_ ≠ (u13 : Value).ownBlock) v277 t276) ∧ zaa (w'.heap[gb234]? = some (.cells #[(.slice A0_0 l0_0.length c0_0), (.slice A0_1 l0_1.length c0_1), (.slice A0_2 l0_2.length c0_2)] 25 (0, 0))) ∧ zaa (w'.heap[gb245]? = some (.cells #[.int .i64 ((zae x8_1 0).f0), .int .i64 ((zae x8_1 0).f1), .int .i64 ((zae x8_1 0).f2)] 50 (0, 0))) ∧ zaa (Below w.heap.size w w'))
                  case atStart => exact ⟨(y246), (0), Yfs, H', ⟨Nat.le_refl _⟩, ⟨Yr HO_5⟩, ⟨Yr HO_6⟩, ⟨Yr HO_7⟩, ⟨by (with_reducible repeat (first | apply Kd.Q_alloc | apply Kd.Q_drewN | apply Kd.zb8)); exact HO_8.out⟩, ⟨by (with_reducible repeat (first | apply Kd.R_alloc | apply Kd.zb0 | apply Kd.zbn)); exact Kd.zba HO_13.out (fun _ hk => hk.2)⟩, ⟨by (with_reducible repeat (first | apply Kd.R_alloc | apply Kd.zb0 | apply Kd.zbn)); exact Kd.zba HO278.out (fun _ hk => hk.2)⟩, ⟨Yg BK234⟩, ⟨Yg BK245⟩, ⟨Yb_PItemTellsx9_1⟩⟩
                  case round =>
                   clear H'
                   obtain ⟨x8_6, x18_6, rfl, HA, HK6, HO_5, HO_6, HO_7, HO_8, HO_13, HO_17, BK234, BK245, HB⟩ := hrel
                   cases gk with
                   | zero => exact absurd HA.out (by simp [zac.l2])
                   | succ k6 =>
                    have H := HA.out;clear HA
                    simp only [zac.l2] at H
                    by_cases c80 : x18_6 < (t276.length : Int)
                    ·rw [if_pos c80] at H
                     have c80b0 := decide_eq_true c80
                     clear c80
                     have H' := zaa.mk H
                     clear H
                     obtain ⟨Ao81, co81, eo81⟩ := Kd.zbj HO_17.out
                     subst eo81;go_wp2
                     go_loopg [8, 19] k6 (fun kq v8 v19 w' => ∃ (x8_7 : List (S50)) (x19_7 : Int), v19 = .int .i64 x19_7 ∧ zaa (zac.l3 kq t235 t238 x7_15 x8_7 x13_65 t276 x18_6 x19_7 l0_0 l0_1 l0_2 = some r) ∧ zaa (kq ≤ k6) ∧ zaa (Kd.R (Kd.slice 3 (Kd.int .i64)) 35 w' w.heap.size (fun k_ => some k_ ≠ (u13 : Value).ownBlock ∧ some k_ ≠ ((.slice Ao81 t276.length co81) : Value).ownBlock) v236 t235) ∧ zaa (Kd.R Kd.bool 4 w' w.heap.size (fun _ => True) v239 t238) ∧ zaa (Kd.R k50 50 w' w.heap.size (fun k_ => some k_ ≠ (v8 : Value).ownBlock ∧ k_ ≠ gb245) u7 x7_15) ∧ zaa (Kd.Q k50 50 w' w.heap.size (fun k_ => some k_ ≠ (u7 : Value).ownBlock ∧ k_ ≠ gb245) v8 x8_7) ∧ zaa (Kd.R (Kd.int .i64) 3 w' w.heap.size (fun k_ => some k_ ≠ ((.slice Ao81 t276.length co81) : Value).ownBlock) u13 x13_65) ∧ zaa (Kd.R (Kd.int .i64) 3 w' w.heap.size (fun k_ => some k_ ≠ (u13 : Value).ownBlock) (.slice Ao81 t276.length co81) t276) ∧ zaa (w'.heap[gb234]? = some (.cells #[(.slice A0_0 l0_0.length c0_0), (.slice A0_1 l0_1.length c0_1), (.slice A0_2 l0_2.length c0_2)] 25 (0, 0))) ∧ zaa (w'.heap[gb245]? = some (.cells #[.int .i64 ((zae x8_1 0).f0), .int .i64 ((zae x8_1 0).f1), .int .i64 ((zae x8_1 0).f2)] 50 (0, 0))) ∧ zaa (Below w.heap.size w w'))
                     case atStart => exact ⟨(x8_6), (0), Yfs, H', ⟨Nat.le_refl _⟩, ⟨Yr HO_5⟩, ⟨Yr HO_6⟩, ⟨Yr HO_7⟩, ⟨by (with_reducible repeat (first | apply Kd.Q_alloc | apply Kd.Q_drewN | apply Kd.zb8)); exact HO_8.out⟩, ⟨Yr HO_13⟩, ⟨Yr HO_17⟩, ⟨Yg BK234⟩, ⟨Yg BK245⟩, ⟨Yb_PItemTellsx9_1⟩⟩
                     case round =>
                      clear H'
                      obtain ⟨x8_7, x19_7, rfl, HA, HK7, HO_5, HO_6, HO_7, HO_8, HO_13, HO_17, BK234, BK245, HB⟩ := hrel
                      cases gk with
                      | zero => exact absurd HA.out (by simp [zac.l3])
                      | succ k7 =>
                       have H := HA.out;clear HA
                       simp only [zac.l3] at H
                       by_cases c82 : x19_7 < (x13_65.length : Int)
                       ·rw [if_pos c82] at H
                        have c82b0 := decide_eq_true c82
                        clear c82
                        by_cases c83 : 0 ≤ x18_6
                        ·rw [if_pos c83] at H
                         have c83b0 := decide_eq_true c83
                         clear c83
                         by_cases c84 : x18_6 < (t276.length : Int)
                         ·rw [if_pos c84] at H
                          have c84b0 := decide_eq_true c84
                          clear c84
                          by_cases c85 : 0 ≤ x19_7
                          ·rw [if_pos c85] at H
                           have c85b0 := decide_eq_true c85
                           clear c85
                           by_cases c86 : x8_7.length < 5864062014805
                           ·rw [if_pos c86] at H
                            have LMc86 := zaa.mk c86;clear c86
                            obtain ⟨y281, hy281⟩ : ∃ y_ : List (S50), y_ = (x8_7 ++ [(⟨rd t276 x18_6, 0, rd x13_65 x19_7⟩ : S50)]) := ⟨_, rfl⟩
                            replace H : (zac.l3 k7 t235 t238 x7_15 y281 x13_65 t276 x18_6 (wrap64 (x19_7 + 1)) l0_0 l0_1 l0_2) = some r := by first | (rw [hy281]; with_reducible exact H) | (have H2_ := (Option.bind_some _ _).symm.trans H; rw [hy281]; with_reducible exact H2_) | (have H2_ := (Option.bind_some _ _).symm.trans H; with_reducible exact H2_) | with_reducible exact H | (rw [hy281]; exact H) | exact H
                            have Ny281 := zaa.mk hy281;clear hy281
                            have H' := zaa.mk H
                            clear H
                            obtain ⟨Ao87, co87, eo87⟩ := Kd.zbj HO_13.out
                            subst eo87
                            try go_wp2
                            replace HO_5 := zaa.mk (Kd.zbn HO_5.out)
                            replace HO_6 := zaa.mk (Kd.zbn HO_6.out)
                            replace HO_7 := zaa.mk (Kd.zbn HO_7.out)
                            replace HO_8 := zaa.mk (Kd.zb8 HO_8.out)
                            replace HO_13 := zaa.mk (Kd.zbn HO_13.out)
                            replace HO_17 := zaa.mk (Kd.zbn HO_17.out)
                            replace BK234 := zaa.mk (zah BK234.out)
                            replace BK245 := zaa.mk (zah BK245.out)
                            replace HB := zaa.mk (zas HB.out)
                            have p279 : 0 ≤ (x18_6 : Int) := Yod
                            have q279 : x18_6 < (t276.length : Int) := Yod
                            obtain ⟨ad279, e279, hx279_0⟩ := Kd.zek (Kd.R_reads' HO_17.out).2.2 x18_6 p279 q279
                            cases e279
                            replace p279 := eq_true p279
                            replace q279 := eq_true q279
                            have p280 : 0 ≤ (x19_7 : Int) := Yod
                            have q280 : x19_7 < (x13_65.length : Int) := Yod
                            obtain ⟨ad280, e280, hx280_0⟩ := Kd.zek (Kd.R_reads' HO_13.out).2.2 x19_7 p280 q280
                            cases e280
                            replace p280 := eq_true p280
                            replace q280 := eq_true q280
                            refine zbl (n := 13) (S := fun w' => w'.cell? (ad279.add (x18_6).toNat) = some (.int .i64 (rd t276 x18_6)) ∧ w'.cell? (ad280.add (x19_7).toNat) = some (.int .i64 (rd x13_65 x19_7))) (ds := [10, 11]) (Ymk 13 0) (by kernel_rfl) rfl rfl ⟨hx279_0, hx280_0⟩ (fun hHeld => ?_); refine zbw zac.tab31 zac.bits31 (fun HT_ HW_ => ?_)
                            generalize wr.drew = w88 at HO_5 HO_6 HO_7 HO_8 HO_13 HO_17 BK234 BK245 HB hx279_0 hx280_0 hHeld ⊢
                            refine Ypt 0 120 13 1 HT_ ?_
                            refine Ypt 1 121 13 3 HT_ ?_
                            refine Ypt 2 122 13 7 HT_ ?_
                            refine Ypt 3 123 13 15 HT_ ?_
                            refine Ypt 5 125 13 47 HT_ ?_
                            refine Ypt 6 126 13 111 HT_ ?_
                            refine Ypt 7 127 13 239 HT_ ?_
                            refine Ytt 4 124 13 255 HT_ HW_ hHeld ?_
                            refine Ytt 8 128 13 511 HT_ HW_ hHeld ?_
                            refine Ypt 9 129 13 1023 HT_ ?_
                            refine Ylt 10 130 13 2047 HT_ (fun K hK => ?_)
                            refine zcm (w1 := ?_) (v := ?_) (by rfl) rfl ?_ ?_
                            rotate_left 2
                            ·go_simp
                             constructor
                             ·rfl
                             ·rfl
                            refine hK.out _ _ ?_
                            clear hK K
                            refine Ynw 130 ?_
                            refine Ylt 11 131 13 4095 HT_ (fun K hK => ?_)
                            refine Kd.zj0 k50 (w0 := w) w.heap.size (by rfl) (.tmp 120) (.tmp 130) 45 50 (.agg #[(.int .i64 0), (.int .i64 0), (.int .i64 0)]) 24 rfl Tryz.underlying45 zdv rfl (by decide) (by omega) u8 x8_7 (⟨rd t276 x18_6, 0, rd x13_65 x19_7⟩ : S50) [.int .i64 (rd t276 x18_6), .int .i64 0, .int .i64 (rd x13_65 x19_7)] (fun k_ => some k_ ≠ (u7 : Value).ownBlock ∧ k_ ≠ gb245) (fun _ => False) rfl rfl ?aP (fun _ hk => hk.elim) ?aF ?aO ?aB ?aS ?aL ?_
                            (case aP => exact zg4 _ _ _ (⟨rd t276 x18_6, 0, rd x13_65 x19_7⟩ : S50))
                            (case aB => exact Yb_PItemTellsx9_1)
                            (case aF => exact (fun k_ hk => ⟨Kd.fresh' (Kd.R_lt (Yr HO_7)) k_ hk, Kd.zcl (g := gb245) (o := .cells #[.int .i64 ((zae x8_1 0).f0), .int .i64 ((zae x8_1 0).f1), .int .i64 ((zae x8_1 0).f2)] 50 (0, 0)) (Yg BK245) k_ hk⟩))
                            (case aO => exact (by (with_reducible repeat (first | apply Kd.Q_alloc | apply Kd.Q_drewN | apply Kd.zb8)); exact HO_8.out))
                            (case aS => exact (za8 Yb_PItemTellsx9_1))
                            (case aL => have := LMc86.out; omega)
                            intro v282 w89 ho hb hg hat
                            rw [← Ny281.out] at ho
                            replace HO_5 := zaa.mk (Kd.R_over' (Yr HO_5) (Kd.zh3 (by (with_reducible repeat (first | apply Kd.Q_alloc | apply Kd.Q_drewN | apply Kd.zb8)); exact HO_8.out)) (by decide) hg)
                            replace HO_6 := zaa.mk (Kd.R_over' (Yr HO_6) (Kd.zh3 (by (with_reducible repeat (first | apply Kd.Q_alloc | apply Kd.Q_drewN | apply Kd.zb8)); exact HO_8.out)) (by decide) hg)
                            replace HO_7 := zaa.mk (Kd.zby (ok := (fun k_ => k_ ≠ gb245)) (by (with_reducible repeat (first | apply Kd.R_alloc | apply Kd.zb0 | apply Kd.zbn)); exact Kd.zba HO_7.out (fun _ hk => ⟨hk.2, hk.1⟩)) hg hat)
                            replace HO_13 := zaa.mk (Kd.R_over' (Yr HO_13) (Kd.zh3 (by (with_reducible repeat (first | apply Kd.Q_alloc | apply Kd.Q_drewN | apply Kd.zb8)); exact HO_8.out)) (by decide) hg)
                            replace HO_17 := zaa.mk (Kd.R_over' (Yr HO_17) (Kd.zh3 (by (with_reducible repeat (first | apply Kd.Q_alloc | apply Kd.Q_drewN | apply Kd.zb8)); exact HO_8.out)) (by decide) hg)
                            replace BK234 := zaa.mk (zcc (g := gb234) (o := .cells #[.slice A0_0 l0_0.length c0_0, .slice A0_1 l0_1.length c0_1, .slice A0_2 l0_2.length c0_2] 25 (0, 0)) (Yg BK234) hg (Kd.Q_ne HO_8.out BK234.out (by decide)))
                            replace BK245 := zaa.mk (zcc (g := gb245) (o := .cells #[.int .i64 ((zae x8_1 0).f0), .int .i64 ((zae x8_1 0).f1), .int .i64 ((zae x8_1 0).f2)] 50 (0, 0)) (Yg BK245) hg (Kd.Q_away HO_8.out (fun _ hk => hk.2)))
                            replace HB := zaa.mk (hb)
                            have HO283 := zaa.mk (ho)
                            clear HO_8;clear ho hb hg hat
                            refine hK.out _ _ ?_
                            clear hK K
                            refine Ynw 131 ?_
                            refine Ypt 12 8 13 8191 HT_ ?_
                            refine zbq (zb4 HT_.out (by kernel_rfl)) ?_
                            try go_wp2
                            go_roundg k7
                            case measure => have := HK1.out; have := HJ15.out; have := HJ32.out; have := HJ49.out; have := HJ65.out; have := HK6.out; have := HK7.out; omega
                            case rel => exact ⟨(y281), (wrap64 (x19_7 + 1)), Yfs, H', ⟨by have := HK1.out; have := HJ15.out; have := HJ32.out; have := HJ49.out; have := HJ65.out; have := HK6.out; have := HK7.out; omega⟩, ⟨Yr HO_5⟩, ⟨Yr HO_6⟩, ⟨by (with_reducible repeat (first | apply Kd.R_alloc | apply Kd.zb0 | apply Kd.zbn)); exact Kd.zba HO_7.out (fun _ hk => ⟨hk.2, hk.1⟩)⟩, ⟨by (with_reducible repeat (first | apply Kd.Q_alloc | apply Kd.Q_drewN | apply Kd.zb8)); exact HO283.out⟩, ⟨Yr HO_13⟩, ⟨Yr HO_17⟩, ⟨Yg BK234⟩, ⟨Yg BK245⟩, ⟨Yb_PItemTellsx9_1⟩⟩
                           ·rw [if_neg c86] at H
                            exact absurd H (by simp)
                          ·rw [if_neg c85] at H
                           exact absurd H (by simp)
                         ·rw [if_neg c84] at H
                          exact absurd H (by simp)
                        ·rw [if_neg c83] at H
                         exact absurd H (by simp)
                       ·rw [if_neg c82] at H
                        have c82b0 := decide_eq_false c82
                        clear c82
                        have H' := zaa.mk H
                        clear H
                        obtain ⟨Ao90, co90, eo90⟩ := Kd.zbj HO_13.out
                        subst eo90;go_wp2
                        go_roundg k7
                        case measure => have := HK1.out; have := HJ15.out; have := HJ32.out; have := HJ49.out; have := HJ65.out; have := HK6.out; have := HK7.out; omega
                        case rel => exact ⟨(x8_7), (wrap64 (x18_6 + 1)), Yfs, H', ⟨by have := HK1.out; have := HJ15.out; have := HJ32.out; have := HJ49.out; have := HJ65.out; have := HK6.out; have := HK7.out; omega⟩, ⟨Yr HO_5⟩, ⟨Yr HO_6⟩, ⟨Yr HO_7⟩, ⟨by (with_reducible repeat (first | apply Kd.Q_alloc | apply Kd.Q_drewN | apply Kd.zb8)); exact HO_8.out⟩, ⟨Yr HO_13⟩, ⟨Yr HO_17⟩, ⟨Yg BK234⟩, ⟨Yg BK245⟩, ⟨Yb_PItemTellsx9_1⟩⟩
                    ·rw [if_neg c80] at H
                     have c80b0 := decide_eq_false c80
                     clear c80
                     have H' := zaa.mk H
                     clear H
                     obtain ⟨Ao91, co91, eo91⟩ := Kd.zbj HO_17.out
                     subst eo91;go_wp2
                     go_roundg k6
                     case measure => have := HK1.out; have := HJ15.out; have := HJ32.out; have := HJ49.out; have := HJ65.out; have := HK6.out; omega
                     case rel => exact ⟨(x7_15), (x8_6), H', ⟨by have := HK1.out; have := HJ15.out; have := HJ32.out; have := HJ49.out; have := HJ65.out; have := HK6.out; omega⟩, ⟨by (with_reducible repeat (first | apply Kd.R_alloc | apply Kd.zb0 | apply Kd.zbn)); exact Kd.zba HO_5.out (fun _ hk => trivial)⟩, ⟨Yr HO_6⟩, ⟨by (with_reducible repeat (first | apply Kd.R_alloc | apply Kd.zb0 | apply Kd.zbn)); exact Kd.zba HO_7.out (fun _ hk => hk.1)⟩, ⟨by (with_reducible repeat (first | apply Kd.Q_alloc | apply Kd.Q_drewN | apply Kd.zb8)); exact Kd.zd6 HO_8.out (fun _ hk => hk.1)⟩, ⟨Yg BK234⟩, ⟨Yb_PItemTellsx9_1⟩⟩
             ·rw [if_neg c49] at H
              exact absurd H (by simp)
            ·rw [if_neg c48] at H
             exact absurd H (by simp)
      ·rw [if_neg c14] at H
       exact absurd H (by simp)
     ·rw [if_neg c13] at H
      exact absurd H (by simp)
    ·rw [if_neg c12] at H
     have c12b0 := decide_eq_false c12
     have c12b1 : decide (0 < x8_1.length) = false := decide_eq_false (by omega)
     clear c12;obtain rfl := Option.some.inj H
     obtain ⟨Ao92, co92, eo92, _⟩ := Kd.Q_slice HO_8.out
     subst eo92;go_wp2;go_ret
     exact ⟨_, by first | rfl | (simp [errW_none, errW_some] <;> rfl) | (simp [*, errW_none, errW_some] <;> rfl), by (with_reducible repeat (first | apply Kd.R_alloc | apply Kd.zb0 | apply Kd.zbn)); exact Kd.zba HO_7.out (fun _ hk => trivial), Yb_PItemTellsx9_0⟩
 ·rw [if_neg c5] at H
  exact absurd H (by simp)
section
end
theorem Yb_PItemTellsx10_0 {n : Nat} {w w' : World} (h : Below n w w' := by repeat (first | (with_reducible first | exact HB.out | apply za2 | apply zav | apply zas | refine za6 ?_ GE284.out) | exact HB.out)) : Below n w w' := h
theorem Yb_PItemTellsx10_1 {n : Nat} {w w' : World} (h : Below n w w' := by repeat (first | (with_reducible first | exact HB.out | apply za2 | apply zav | apply zas | refine za6 ?_ GE297.out) | exact HB.out)) : Below n w w' := h
def zao.l0 : Nat → List (S50) → Int → List (S50) → Int → List ByteArray → List ByteArray → List (S42) → Option ((List (S50)))
 | 0, _, _, _, _, _, _, _ => none
 | k + 1, x1, x2, x7, x8, x285000, x285001, x285002 => if x8 < (x1.length : Int) then (if 0 ≤ x8 then ((zbr.f x285000 x285001 x285002 ((zae x1 x8).f0) ((zae x1 x8).f1) ((zae x1 x8).f2)).bind fun bt286 => (if bt286.2 = true then (if bt286.1 = x2 then (if x7.length < 5864062014805 then (zao.l0 k x1 x2 (x7 ++ [(⟨(zae x1 x8).f0, wrap64 (((zae x1 x8).f1) + 1), (zae x1 x8).f2⟩ : S50)]) (wrap64 (x8 + 1)) x285000 x285001 x285002) else (none)) else (zao.l0 k x1 x2 x7 (wrap64 (x8 + 1)) x285000 x285001 x285002)) else (zao.l0 k x1 x2 x7 (wrap64 (x8 + 1)) x285000 x285001 x285002))) else (none)) else ((zac.f k x285000 x285001 x285002 x7).bind fun t294 => (some t294))
def zao.f (k : Nat) (l0_0 : List ByteArray) (l0_1 : List ByteArray) (l0_2 : List (S42)) (l1 : List (S50)) (a2 : Int) : Option ((List (S50))) := zao.l0 k l1 a2 ([] : List (S50)) 0 l0_0 l0_1 l0_2
def zao.T5 : Bool × List (List Nat × List Nat) := (true, [([], []), ([], []), ([], []), ([1, 2], [1, 2]), ([3], [3]), ([0, 4], [0, 4]), ([5], [5]), ([6], [6]), ([6], [6]), ([7, 5, 0, 1, 2, 3, 4, 5, 6, 7], [7]), ([8, 9, 0, 1, 2, 3, 4, 5, 6, 7, 8, 9], [8])])
def zao.B5 : List Nat := [0, 0, 0, 6, 14, 31, 63, 127, 127, 255, 1023]
theorem zao.tab5 : rtab .any (opsOf Tryz.f22 5) = zao.T5 := by kernel_rfl
theorem zao.bits5 : zc6 zao.T5.2 zao.B5 = true := by kernel_rfl
def zao.T7 : Bool × List (List Nat × List Nat) := (true, [([], []), ([], []), ([], []), ([1, 2], [1, 2]), ([3], [3]), ([4], [4]), ([], []), ([], []), ([6, 7], [6, 7]), ([8], [8]), ([9], [9]), ([10], [10]), ([], []), ([], []), ([12, 13], [12, 13]), ([14], [14]), ([15], [15]), ([5, 11, 16], [5, 11, 16]), ([17], [17]), ([0, 18], [0, 18]), ([19, 19, 0, 1, 2, 3, 4, 5, 6, 7, 8, 9, 10, 11, 12, 13, 14, 15, 16, 17, 18, 19], [0, 19])])
def zao.B7 : List Nat := [0, 0, 0, 6, 14, 30, 0, 0, 192, 448, 960, 1984, 0, 0, 12288, 28672, 61440, 131070, 262142, 524287, 1048575]
theorem zao.tab7 : rtab .any (opsOf Tryz.f22 7) = zao.T7 := by kernel_rfl
theorem zao.bits7 : zc6 zao.T7.2 zao.B7 = true := by kernel_rfl
theorem zao.calls (k : Nat) (A0_0 : Option Addr) (c0_0 : Nat) (l0_0 : List ByteArray) (A0_1 : Option Addr) (c0_1 : Nat) (l0_1 : List ByteArray) (A0_2 : Option Addr) (c0_2 : Nat) (l0_2 : List (S42)) (A1 : Option Addr) (c1 : Nat) (l1 : List (S50)) (a2 : Int) (r : List (S50)) (w : World) (hr0_0 : Kd.C Kd.string w A0_0 l0_0.length l0_0) (hc0_0 : l0_0.length ≤ c0_0) (hr0_1 : Kd.C Kd.string w A0_1 l0_1.length l0_1) (hc0_1 : l0_1.length ≤ c0_1) (hr0_2 : Kd.C k42 w A0_2 l0_2.length l0_2) (hc0_2 : l0_2.length ≤ c0_2) (hr1 : Kd.C k50 w A1 l1.length l1) (hc1 : l1.length ≤ c1) (h : zao.f k l0_0 l0_1 l0_2 l1 a2 = some r) :
  Calls Tryz.prog 22 #[.agg #[.slice A0_0 l0_0.length c0_0, .slice A0_1 l0_1.length c0_1, .slice A0_2 l0_2.length c0_2], .slice A1 l1.length c1, .int .i64 a2] w fun e w' => ∃ v0_ : Value, e = .returned (v0_) ∧ Kd.R k50 50 w' w.heap.size (fun _ => True) v0_ r ∧ Below w.heap.size w w' := by
 have hu25 := Tryz.underlying25
 have hu50 := Tryz.underlying50
 have HR0_0 := zaa.mk hr0_0;have HC0_0 := zaa.mk hc0_0;clear hr0_0 hc0_0;have HR0_1 := zaa.mk hr0_1;have HC0_1 := zaa.mk hc0_1;clear hr0_1 hc0_1;have HR0_2 := zaa.mk hr0_2;have HC0_2 := zaa.mk hc0_2;clear hr0_2 hc0_2;have HR1 := zaa.mk hr1;have HC1 := zaa.mk hc1;clear hr1 hc1
 have HB := zaa.mk (Below.refl w.heap.size w)
 have H : (zao.l0 k l1 a2 ([] : List (S50)) 0 l0_0 l0_1 l0_2) = some r := h
 clear h
 have H' := zaa.mk H
 clear H
 go_enter Tryz.func22, Tryz.ntmps22
 go_wp2_with (first | ((with_reducible refine zau (N := 3) rfl ?_); refine Ybx 3 #[.slice A0_0 l0_0.length c0_0, .slice A0_1 l0_1.length c0_1, .slice A0_2 l0_2.length c0_2] 25 ?_; intro gb284 hg w4 hbox hb; obtain ⟨BK284, GW284, GE284, HB⟩ := Yb4 hbox hg hb Ybe; clear hb hbox hg))
 go_loopg [7, 8] k (fun kq v7 v8 w' => ∃ (x7_1 : List (S50)) (x8_1 : Int), v8 = .int .i64 x8_1 ∧ zaa (zao.l0 kq l1 a2 x7_1 x8_1 l0_0 l0_1 l0_2 = some r) ∧ zaa (kq ≤ k) ∧ zaa (Kd.R k50 50 w' w.heap.size (fun _ => True) v7 x7_1) ∧ zaa (w'.heap[gb284]? = some (.cells #[(.slice A0_0 l0_0.length c0_0), (.slice A0_1 l0_1.length c0_1), (.slice A0_2 l0_2.length c0_2)] 25 (0, 0))) ∧ zaa (Below w.heap.size w w'))
 case atStart => exact ⟨(([] : List (S50))), (0), Yfs, H', ⟨Nat.le_refl _⟩, ⟨by first | exact Kd.zdr _ _ _ _ _ | exact Kd.N_nil _ _ _ _ _ | exact Kd.V_nil _ _ _ _ _ | exact Kd.Q_nil _ _ _ _ _ | exact Kd.S_nil _ _ _ _ _⟩, ⟨Yg BK284⟩, ⟨Yb_PItemTellsx10_0⟩⟩
 case round =>
  clear H'
  obtain ⟨x7_1, x8_1, rfl, HA, HK1, HO_7, BK284, HB⟩ := hrel
  cases gk with
  | zero => exact absurd HA.out (by simp [zao.l0])
  | succ k1 =>
   have H := HA.out;clear HA
   simp only [zao.l0] at H
   by_cases c5 : x8_1 < (l1.length : Int)
   ·rw [if_pos c5] at H
    have c5b0 := decide_eq_true c5
    clear c5
    by_cases c6 : 0 ≤ x8_1
    ·rw [if_pos c6] at H
     have c6b0 := decide_eq_true c6
     clear c6;replace H := Option.bind_eq_some_iff.mp H
     obtain ⟨⟨t286, t287⟩, A70, H⟩ := H
     replace H : (if t287 = true then (if t286 = a2 then (if x7_1.length < 5864062014805 then (zao.l0 k1 l1 a2 (x7_1 ++ [(⟨(zae l1 x8_1).f0, wrap64 (((zae l1 x8_1).f1) + 1), (zae l1 x8_1).f2⟩ : S50)]) (wrap64 (x8_1 + 1)) l0_0 l0_1 l0_2) else (none)) else (zao.l0 k1 l1 a2 x7_1 (wrap64 (x8_1 + 1)) l0_0 l0_1 l0_2)) else (zao.l0 k1 l1 a2 x7_1 (wrap64 (x8_1 + 1)) l0_0 l0_1 l0_2)) = some r := H
     have A7 := zaa.mk A70;clear A70
     by_cases c8 : t287 = true
     ·subst c8
      have H1 : (if t286 = a2 then (if x7_1.length < 5864062014805 then (zao.l0 k1 l1 a2 (x7_1 ++ [(⟨(zae l1 x8_1).f0, wrap64 (((zae l1 x8_1).f1) + 1), (zae l1 x8_1).f2⟩ : S50)]) (wrap64 (x8_1 + 1)) l0_0 l0_1 l0_2) else (none)) else (zao.l0 k1 l1 a2 x7_1 (wrap64 (x8_1 + 1)) l0_0 l0_1 l0_2)) = some r := by rw [if_pos rfl] at H; exact H
      clear H;have H := H1;clear H1
      by_cases c9 : t286 = a2
      ·rw [if_pos c9] at H
       have c9b0 : (t286 == a2) = true := beq_iff_eq.mpr c9
       have c9b1 : (t286 != a2) = false := bne_eq_false_iff_eq.mpr c9
       clear c9
       by_cases c10 : x7_1.length < 5864062014805
       ·rw [if_pos c10] at H
        have LMc10 := zaa.mk c10;clear c10
        obtain ⟨y291, hy291⟩ : ∃ y_ : List (S50), y_ = (x7_1 ++ [(⟨(zae l1 x8_1).f0, wrap64 (((zae l1 x8_1).f1) + 1), (zae l1 x8_1).f2⟩ : S50)]) := ⟨_, rfl⟩
        replace H : (zao.l0 k1 l1 a2 y291 (wrap64 (x8_1 + 1)) l0_0 l0_1 l0_2) = some r := by first | (rw [hy291]; with_reducible exact H) | (have H2_ := (Option.bind_some _ _).symm.trans H; rw [hy291]; with_reducible exact H2_) | (have H2_ := (Option.bind_some _ _).symm.trans H; with_reducible exact H2_) | with_reducible exact H | (rw [hy291]; exact H) | exact H
        have Ny291 := zaa.mk hy291;clear hy291
        have H' := zaa.mk H
        clear H
        try go_wp2
        replace HO_7 := zaa.mk (Kd.zbn HO_7.out)
        replace BK284 := zaa.mk (zah BK284.out)
        replace HB := zaa.mk (zas HB.out)
        have p285 : 0 ≤ (x8_1 : Int) := Yod
        have q285 : x8_1 < (l1.length : Int) := Yod
        obtain ⟨ad285, e285, hx285_0, hx285_1, hx285_2⟩ := zcv HR1.out x8_1 p285 q285
        have hw285_2 := hx285_2;have hw285_1 := hx285_1;have hw285_0 := hx285_0
        cases e285
        replace hx285_0 := zad HB.out hx285_0
        replace hx285_1 := zad HB.out hx285_1
        replace hx285_2 := zad HB.out hx285_2
        replace p285 := eq_true p285
        replace q285 := eq_true q285
        refine zbl (n := 11) (S := fun w' => w'.cell? ⟨gb284, 0, none⟩ = some (.slice A0_0 l0_0.length c0_0) ∧ w'.cell? ⟨gb284, 1, none⟩ = some (.slice A0_1 l0_1.length c0_1) ∧ w'.cell? ⟨gb284, 2, none⟩ = some (.slice A0_2 l0_2.length c0_2) ∧ w'.cell? (ad285.add ((x8_1).toNat * 3)) = some (.int .i64 ((zae l1 x8_1).f0)) ∧ w'.cell? ⟨(ad285.add ((x8_1).toNat * 3)).block, (ad285.add ((x8_1).toNat * 3)).off + 1, none⟩ = some (.int .i64 ((zae l1 x8_1).f1)) ∧ w'.cell? ⟨(ad285.add ((x8_1).toNat * 3)).block, (ad285.add ((x8_1).toNat * 3)).off + 2, none⟩ = some (.int .i64 ((zae l1 x8_1).f2))) (ds := []) (Ymk 11 0) (by kernel_rfl) rfl rfl ⟨(zab BK284.out 0).trans rfl, (zab BK284.out 1).trans rfl, (zab BK284.out 2).trans rfl, ((HB.out.cell (World.block_lt_of_cell? w _ hw285_0)).trans hw285_0), ((HB.out.cell (World.block_lt_of_cell? w _ hw285_1)).trans hw285_1), ((HB.out.cell (World.block_lt_of_cell? w _ hw285_2)).trans hw285_2)⟩ (fun hHeld => ?_); refine zbw zao.tab5 zao.bits5 (fun HT_ HW_ => ?_)
        generalize wr.drew = w11 at HO_7 BK284 HB hx285_0 hx285_1 hx285_2 hHeld ⊢
        refine Ypt 1 19 11 2 HT_ ?_
        refine Ypt 2 20 11 6 HT_ ?_
        refine Ypt 3 21 11 14 HT_ ?_
        refine Ytt 0 18 11 15 HT_ HW_ hHeld ?_
        refine Ytt 4 22 11 31 HT_ HW_ hHeld ?_
        refine Yot 5 23 11 63 HT_ (fun K hK => ?_)
        refine Ygs Tryz.func16 #[.agg #[.slice A0_0 l0_0.length c0_0, .slice A0_1 l0_1.length c0_1, .slice A0_2 l0_2.length c0_2], .agg #[.int .i64 ((zae l1 x8_1).f0), .int .i64 ((zae l1 x8_1).f1), .int .i64 ((zae l1 x8_1).f2)]] ?_
        with_reducible refine (zbr.calls _ _ l0_0 _ _ l0_1 _ _ l0_2 ((zae l1 x8_1).f0) ((zae l1 x8_1).f1) ((zae l1 x8_1).f2) t286 true _ (Kd.zak HR0_0.out Ybe) HC0_0.out (Kd.zak HR0_1.out Ybe) HC0_1.out (Kd.zak HR0_2.out Ybe) HC0_2.out A7.out).mono ?_
        rintro e w12 ⟨rfl, hb⟩
        refine ⟨_, rfl, ?_⟩
        replace HO_7 := zaa.mk (Kd.zbc (Yr HO_7) hb)
        replace BK284 := Ykb BK284 hb
        replace HB := zaa.mk (zay Yb_PItemTellsx10_0 hb)
        (try clear hb)
        (try clear hb2)
        (try clear hk)
        (try clear hi)
        refine hK.out _ _ ⟨(zab BK284.out 0).trans rfl, (zab BK284.out 1).trans rfl, (zab BK284.out 2).trans rfl, ((HB.out.cell (World.block_lt_of_cell? w _ hw285_0)).trans hw285_0), ((HB.out.cell (World.block_lt_of_cell? w _ hw285_1)).trans hw285_1), ((HB.out.cell (World.block_lt_of_cell? w _ hw285_2)).trans hw285_2)⟩ (fun hHeld => ?_)
        clear hK K
        refine Ynw 23 ?_
        refine Ypt 6 17 11 127 HT_ ?_
        refine Ypt 7 24 11 255 HT_ ?_
        refine Ypt 8 25 11 511 HT_ ?_
        refine Ypt 9 9 11 1023 HT_ ?_
        refine Ypt 10 10 11 2047 HT_ ?_
        refine zbq (zb4 HT_.out (by kernel_rfl)) ?_
        try go_wp2
        replace HO_7 := zaa.mk (Kd.zbn HO_7.out)
        replace BK284 := zaa.mk (zah BK284.out)
        replace HB := zaa.mk (zas HB.out)
        have p288 : 0 ≤ (x8_1 : Int) := Yod
        have q288 : x8_1 < (l1.length : Int) := Yod
        obtain ⟨ad288, e288, hx288_0, hx288_1, hx288_2⟩ := zcv HR1.out x8_1 p288 q288
        have hw288_2 := hx288_2;have hw288_1 := hx288_1;have hw288_0 := hx288_0
        obtain rfl : ad285 = ad288 := (by injection e288)
        replace hx288_0 := zad HB.out hx288_0
        replace hx288_1 := zad HB.out hx288_1
        replace hx288_2 := zad HB.out hx288_2
        replace p288 := eq_true p288
        replace q288 := eq_true q288
        have p289 : 0 ≤ (x8_1 : Int) := Yod
        have q289 : x8_1 < (l1.length : Int) := Yod
        obtain ⟨ad289, e289, hx289_0, hx289_1, hx289_2⟩ := zcv HR1.out x8_1 p289 q289
        have hw289_2 := hx289_2;have hw289_1 := hx289_1;have hw289_0 := hx289_0
        obtain rfl : ad285 = ad289 := (by injection e289)
        replace hx289_0 := zad HB.out hx289_0
        replace hx289_1 := zad HB.out hx289_1
        replace hx289_2 := zad HB.out hx289_2
        replace p289 := eq_true p289
        replace q289 := eq_true q289
        have p290 : 0 ≤ (x8_1 : Int) := Yod
        have q290 : x8_1 < (l1.length : Int) := Yod
        obtain ⟨ad290, e290, hx290_0, hx290_1, hx290_2⟩ := zcv HR1.out x8_1 p290 q290
        have hw290_2 := hx290_2;have hw290_1 := hx290_1;have hw290_0 := hx290_0
        obtain rfl : ad285 = ad290 := (by injection e290)
        replace hx290_0 := zad HB.out hx290_0
        replace hx290_1 := zad HB.out hx290_1
        replace hx290_2 := zad HB.out hx290_2
        replace p290 := eq_true p290
        replace q290 := eq_true q290
        refine zbl (n := 21) (S := fun w' => w'.cell? (ad285.add ((x8_1).toNat * 3)) = some (.int .i64 ((zae l1 x8_1).f0)) ∧ w'.cell? ⟨(ad285.add ((x8_1).toNat * 3)).block, (ad285.add ((x8_1).toNat * 3)).off + 1, none⟩ = some (.int .i64 ((zae l1 x8_1).f1)) ∧ w'.cell? ⟨(ad285.add ((x8_1).toNat * 3)).block, (ad285.add ((x8_1).toNat * 3)).off + 2, none⟩ = some (.int .i64 ((zae l1 x8_1).f2)) ∧ w'.cell? (ad285.add ((x8_1).toNat * 3)) = some (.int .i64 ((zae l1 x8_1).f0)) ∧ w'.cell? ⟨(ad285.add ((x8_1).toNat * 3)).block, (ad285.add ((x8_1).toNat * 3)).off + 1, none⟩ = some (.int .i64 ((zae l1 x8_1).f1)) ∧ w'.cell? ⟨(ad285.add ((x8_1).toNat * 3)).block, (ad285.add ((x8_1).toNat * 3)).off + 2, none⟩ = some (.int .i64 ((zae l1 x8_1).f2)) ∧ w'.cell? (ad285.add ((x8_1).toNat * 3)) = some (.int .i64 ((zae l1 x8_1).f0)) ∧ w'.cell? ⟨(ad285.add ((x8_1).toNat * 3)).block, (ad285.add ((x8_1).toNat * 3)).off + 1, none⟩ = some (.int .i64 ((zae l1 x8_1).f1)) ∧ w'.cell? ⟨(ad285.add ((x8_1).toNat * 3)).block, (ad285.add ((x8_1).toNat * 3)).off + 2, none⟩ = some (.int .i64 ((zae l1 x8_1).f2))) (ds := []) (Ymk 21 0) (by kernel_rfl) rfl rfl ⟨((HB.out.cell (World.block_lt_of_cell? w _ hw288_0)).trans hw288_0), ((HB.out.cell (World.block_lt_of_cell? w _ hw288_1)).trans hw288_1), ((HB.out.cell (World.block_lt_of_cell? w _ hw288_2)).trans hw288_2), ((HB.out.cell (World.block_lt_of_cell? w _ hw289_0)).trans hw289_0), ((HB.out.cell (World.block_lt_of_cell? w _ hw289_1)).trans hw289_1), ((HB.out.cell (World.block_lt_of_cell? w _ hw289_2)).trans hw289_2), ((HB.out.cell (World.block_lt_of_cell? w _ hw290_0)).trans hw290_0), ((HB.out.cell (World.block_lt_of_cell? w _ hw290_1)).trans hw290_1), ((HB.out.cell (World.block_lt_of_cell? w _ hw290_2)).trans hw290_2)⟩ (fun hHeld => ?_); refine zbw zao.tab7 zao.bits7 (fun HT_ HW_ => ?_)
        generalize w12.drew = w13 at HO_7 BK284 HB hx288_0 hx288_1 hx288_2 hx289_0 hx289_1 hx289_2 hx290_0 hx290_1 hx290_2 hHeld ⊢
        refine Ypt 0 32 21 1 HT_ ?_
        refine Ypt 1 33 21 3 HT_ ?_
        refine Ypt 2 34 21 7 HT_ ?_
        refine Ypt 3 35 21 15 HT_ ?_
        refine Ypt 4 36 21 31 HT_ ?_
        refine Ypt 6 38 21 95 HT_ ?_
        refine Ypt 7 39 21 223 HT_ ?_
        refine Ypt 8 40 21 479 HT_ ?_
        refine Ypt 9 41 21 991 HT_ ?_
        refine Ypt 12 44 21 5087 HT_ ?_
        refine Ypt 13 45 21 13279 HT_ ?_
        refine Ypt 14 46 21 29663 HT_ ?_
        refine Ypt 15 47 21 62431 HT_ ?_
        refine Ytt 5 37 21 62463 HT_ HW_ hHeld ?_
        refine Ytt 10 42 21 63487 HT_ HW_ hHeld ?_
        refine Ypt 11 43 21 65535 HT_ ?_
        refine Ytt 16 48 21 131071 HT_ HW_ hHeld ?_
        refine Ypt 17 49 21 262143 HT_ ?_
        refine Yot 18 50 21 524287 HT_ (fun K hK => ?_)
        refine zcm (w1 := ?_) (v := ?_) (by rfl) rfl ?_ ?_
        rotate_left 2
        ·go_simp
         constructor
         ·rfl
         ·rfl
        refine hK.out _ _ ⟨(World.cell?_alloc_lt _ _ _ (World.block_lt_of_cell? _ _ (((HB.out.cell (World.block_lt_of_cell? w _ hw288_0)).trans hw288_0)))).trans (((HB.out.cell (World.block_lt_of_cell? w _ hw288_0)).trans hw288_0)), (World.cell?_alloc_lt _ _ _ (World.block_lt_of_cell? _ _ (((HB.out.cell (World.block_lt_of_cell? w _ hw288_1)).trans hw288_1)))).trans (((HB.out.cell (World.block_lt_of_cell? w _ hw288_1)).trans hw288_1)), (World.cell?_alloc_lt _ _ _ (World.block_lt_of_cell? _ _ (((HB.out.cell (World.block_lt_of_cell? w _ hw288_2)).trans hw288_2)))).trans (((HB.out.cell (World.block_lt_of_cell? w _ hw288_2)).trans hw288_2)), (World.cell?_alloc_lt _ _ _ (World.block_lt_of_cell? _ _ (((HB.out.cell (World.block_lt_of_cell? w _ hw289_0)).trans hw289_0)))).trans (((HB.out.cell (World.block_lt_of_cell? w _ hw289_0)).trans hw289_0)), (World.cell?_alloc_lt _ _ _ (World.block_lt_of_cell? _ _ (((HB.out.cell (World.block_lt_of_cell? w _ hw289_1)).trans hw289_1)))).trans (((HB.out.cell (World.block_lt_of_cell? w _ hw289_1)).trans hw289_1)), (World.cell?_alloc_lt _ _ _ (World.block_lt_of_cell? _ _ (((HB.out.cell (World.block_lt_of_cell? w _ hw289_2)).trans hw289_2)))).trans (((HB.out.cell (World.block_lt_of_cell? w _ hw289_2)).trans hw289_2)), (World.cell?_alloc_lt _ _ _ (World.block_lt_of_cell? _ _ (((HB.out.cell (World.block_lt_of_cell? w _ hw290_0)).trans hw290_0)))).trans (((HB.out.cell (World.block_lt_of_cell? w _ hw290_0)).trans hw290_0)), (World.cell?_alloc_lt _ _ _ (World.block_lt_of_cell? _ _ (((HB.out.cell (World.block_lt_of_cell? w _ hw290_1)).trans hw290_1)))).trans (((HB.out.cell (World.block_lt_of_cell? w _ hw290_1)).trans hw290_1)), (World.cell?_alloc_lt _ _ _ (World.block_lt_of_cell? _ _ (((HB.out.cell (World.block_lt_of_cell? w _ hw290_2)).trans hw290_2)))).trans (((HB.out.cell (World.block_lt_of_cell? w _ hw290_2)).trans hw290_2))⟩ (fun hHeld => ?_)
        clear hK K
        refine Ynw 50 ?_
        refine Yot 19 51 21 1048575 HT_ (fun K hK => ?_)
        refine Kd.zj1 k50 (w0 := w) w.heap.size (by rfl) (.tmp 32) (.tmp 50) 45 50 (.agg #[(.int .i64 0), (.int .i64 0), (.int .i64 0)]) 24 rfl Tryz.underlying45 zdv rfl (by decide) (by omega) u7 x7_1 (⟨(zae l1 x8_1).f0, wrap64 (((zae l1 x8_1).f1) + 1), (zae l1 x8_1).f2⟩ : S50) [.int .i64 ((zae l1 x8_1).f0), .int .i64 (wrap64 (((zae l1 x8_1).f1) + 1)), .int .i64 ((zae l1 x8_1).f2)] (fun _ => True) (fun _ => False) rfl rfl ?aP (fun _ hk => hk.elim) ?aF ?aO ?aB ?aS ?aL ?_
        (case aP => exact zg4 _ _ _ (⟨(zae l1 x8_1).f0, wrap64 (((zae l1 x8_1).f1) + 1), (zae l1 x8_1).f2⟩ : S50))
        (case aB => exact Yb_PItemTellsx10_0)
        (case aF => exact (fun _ _ => trivial))
        (case aO => exact (Yr HO_7))
        (case aS => exact (za8 Yb_PItemTellsx10_0))
        (case aL => have := LMc10.out; omega)
        intro v292 w14 ho hb hg hat
        rw [← Ny291.out] at ho
        replace BK284 := zaa.mk (zcc (g := gb284) (o := .cells #[.slice A0_0 l0_0.length c0_0, .slice A0_1 l0_1.length c0_1, .slice A0_2 l0_2.length c0_2] 25 (0, 0)) (Yg BK284) hg (Kd.R_ne HO_7.out BK284.out (by decide)))
        replace HB := zaa.mk (hb)
        have HO293 := zaa.mk (ho)
        clear HO_7;clear ho hb hg hat
        refine hK.out _ _ ⟨((HB.out.cell (World.block_lt_of_cell? w _ hw288_0)).trans hw288_0), ((HB.out.cell (World.block_lt_of_cell? w _ hw288_1)).trans hw288_1), ((HB.out.cell (World.block_lt_of_cell? w _ hw288_2)).trans hw288_2), ((HB.out.cell (World.block_lt_of_cell? w _ hw289_0)).trans hw289_0), ((HB.out.cell (World.block_lt_of_cell? w _ hw289_1)).trans hw289_1), ((HB.out.cell (World.block_lt_of_cell? w _ hw289_2)).trans hw289_2), ((HB.out.cell (World.block_lt_of_cell? w _ hw290_0)).trans hw290_0), ((HB.out.cell (World.block_lt_of_cell? w _ hw290_1)).trans hw290_1), ((HB.out.cell (World.block_lt_of_cell? w _ hw290_2)).trans hw290_2)⟩ (fun hHeld => ?_)
        clear hK K
        refine Ynw 51 ?_
        refine Ypt 20 7 21 2097151 HT_ ?_
        refine zbq (zb4 HT_.out (by kernel_rfl)) ?_
        try go_wp2
        go_roundg k1
        case measure => have := HK1.out; omega
        case rel => exact ⟨(y291), (wrap64 (x8_1 + 1)), Yfs, H', ⟨by have := HK1.out; omega⟩, ⟨Yr HO293⟩, ⟨Yg BK284⟩, ⟨Yb_PItemTellsx10_0⟩⟩
       ·rw [if_neg c10] at H
        exact absurd H (by simp)
      ·rw [if_neg c9] at H
       have c9b0 : (t286 == a2) = false := beq_eq_false_iff_ne.mpr c9
       have c9b1 : (t286 != a2) = true := bne_iff_ne.mpr c9
       have H' := zaa.mk H
       clear H
       try go_wp2
       replace HO_7 := zaa.mk (Kd.zbn HO_7.out)
       replace BK284 := zaa.mk (zah BK284.out)
       replace HB := zaa.mk (zas HB.out)
       have p285 : 0 ≤ (x8_1 : Int) := Yod
       have q285 : x8_1 < (l1.length : Int) := Yod
       obtain ⟨ad285, e285, hx285_0, hx285_1, hx285_2⟩ := zcv HR1.out x8_1 p285 q285
       have hw285_2 := hx285_2;have hw285_1 := hx285_1;have hw285_0 := hx285_0
       cases e285
       replace hx285_0 := zad HB.out hx285_0
       replace hx285_1 := zad HB.out hx285_1
       replace hx285_2 := zad HB.out hx285_2
       replace p285 := eq_true p285
       replace q285 := eq_true q285
       refine zbl (n := 11) (S := fun w' => w'.cell? ⟨gb284, 0, none⟩ = some (.slice A0_0 l0_0.length c0_0) ∧ w'.cell? ⟨gb284, 1, none⟩ = some (.slice A0_1 l0_1.length c0_1) ∧ w'.cell? ⟨gb284, 2, none⟩ = some (.slice A0_2 l0_2.length c0_2) ∧ w'.cell? (ad285.add ((x8_1).toNat * 3)) = some (.int .i64 ((zae l1 x8_1).f0)) ∧ w'.cell? ⟨(ad285.add ((x8_1).toNat * 3)).block, (ad285.add ((x8_1).toNat * 3)).off + 1, none⟩ = some (.int .i64 ((zae l1 x8_1).f1)) ∧ w'.cell? ⟨(ad285.add ((x8_1).toNat * 3)).block, (ad285.add ((x8_1).toNat * 3)).off + 2, none⟩ = some (.int .i64 ((zae l1 x8_1).f2))) (ds := []) (Ymk 11 0) (by kernel_rfl) rfl rfl ⟨(zab BK284.out 0).trans rfl, (zab BK284.out 1).trans rfl, (zab BK284.out 2).trans rfl, ((HB.out.cell (World.block_lt_of_cell? w _ hw285_0)).trans hw285_0), ((HB.out.cell (World.block_lt_of_cell? w _ hw285_1)).trans hw285_1), ((HB.out.cell (World.block_lt_of_cell? w _ hw285_2)).trans hw285_2)⟩ (fun hHeld => ?_); refine zbw zao.tab5 zao.bits5 (fun HT_ HW_ => ?_)
       generalize wr.drew = w15 at HO_7 BK284 HB hx285_0 hx285_1 hx285_2 hHeld ⊢
       refine Ypt 1 19 11 2 HT_ ?_
       refine Ypt 2 20 11 6 HT_ ?_
       refine Ypt 3 21 11 14 HT_ ?_
       refine Ytt 0 18 11 15 HT_ HW_ hHeld ?_
       refine Ytt 4 22 11 31 HT_ HW_ hHeld ?_
       refine Yot 5 23 11 63 HT_ (fun K hK => ?_)
       refine Ygs Tryz.func16 #[.agg #[.slice A0_0 l0_0.length c0_0, .slice A0_1 l0_1.length c0_1, .slice A0_2 l0_2.length c0_2], .agg #[.int .i64 ((zae l1 x8_1).f0), .int .i64 ((zae l1 x8_1).f1), .int .i64 ((zae l1 x8_1).f2)]] ?_
       with_reducible refine (zbr.calls _ _ l0_0 _ _ l0_1 _ _ l0_2 ((zae l1 x8_1).f0) ((zae l1 x8_1).f1) ((zae l1 x8_1).f2) t286 true _ (Kd.zak HR0_0.out Ybe) HC0_0.out (Kd.zak HR0_1.out Ybe) HC0_1.out (Kd.zak HR0_2.out Ybe) HC0_2.out A7.out).mono ?_
       rintro e w16 ⟨rfl, hb⟩
       refine ⟨_, rfl, ?_⟩
       replace HO_7 := zaa.mk (Kd.zbc (Yr HO_7) hb)
       replace BK284 := Ykb BK284 hb
       replace HB := zaa.mk (zay Yb_PItemTellsx10_0 hb)
       (try clear hb)
       (try clear hb2)
       (try clear hk)
       (try clear hi)
       refine hK.out _ _ ⟨(zab BK284.out 0).trans rfl, (zab BK284.out 1).trans rfl, (zab BK284.out 2).trans rfl, ((HB.out.cell (World.block_lt_of_cell? w _ hw285_0)).trans hw285_0), ((HB.out.cell (World.block_lt_of_cell? w _ hw285_1)).trans hw285_1), ((HB.out.cell (World.block_lt_of_cell? w _ hw285_2)).trans hw285_2)⟩ (fun hHeld => ?_)
       clear hK K
       refine Ynw 23 ?_
       refine Ypt 6 17 11 127 HT_ ?_
       refine Ypt 7 24 11 255 HT_ ?_
       refine Ypt 8 25 11 511 HT_ ?_
       refine Ypt 9 9 11 1023 HT_ ?_
       refine Ypt 10 10 11 2047 HT_ ?_
       refine zbq (zb4 HT_.out (by kernel_rfl)) ?_
       try go_wp2
       go_roundg k1
       case measure => have := HK1.out; omega
       case rel => exact ⟨(x7_1), (wrap64 (x8_1 + 1)), Yfs, H', ⟨by have := HK1.out; omega⟩, ⟨Yr HO_7⟩, ⟨Yg BK284⟩, ⟨Yb_PItemTellsx10_0⟩⟩
     ·replace c8 := Bool.eq_false_iff.mpr c8
      subst c8
      have H1 : (zao.l0 k1 l1 a2 x7_1 (wrap64 (x8_1 + 1)) l0_0 l0_1 l0_2) = some r := by rw [if_neg (show ¬ (false = true) by decide)] at H; exact H
      clear H;have H := H1;clear H1
      have H' := zaa.mk H
      clear H
      try go_wp2
      replace HO_7 := zaa.mk (Kd.zbn HO_7.out)
      replace BK284 := zaa.mk (zah BK284.out)
      replace HB := zaa.mk (zas HB.out)
      have p285 : 0 ≤ (x8_1 : Int) := Yod
      have q285 : x8_1 < (l1.length : Int) := Yod
      obtain ⟨ad285, e285, hx285_0, hx285_1, hx285_2⟩ := zcv HR1.out x8_1 p285 q285
      have hw285_2 := hx285_2;have hw285_1 := hx285_1;have hw285_0 := hx285_0
      cases e285
      replace hx285_0 := zad HB.out hx285_0
      replace hx285_1 := zad HB.out hx285_1
      replace hx285_2 := zad HB.out hx285_2
      replace p285 := eq_true p285
      replace q285 := eq_true q285
      refine zbl (n := 11) (S := fun w' => w'.cell? ⟨gb284, 0, none⟩ = some (.slice A0_0 l0_0.length c0_0) ∧ w'.cell? ⟨gb284, 1, none⟩ = some (.slice A0_1 l0_1.length c0_1) ∧ w'.cell? ⟨gb284, 2, none⟩ = some (.slice A0_2 l0_2.length c0_2) ∧ w'.cell? (ad285.add ((x8_1).toNat * 3)) = some (.int .i64 ((zae l1 x8_1).f0)) ∧ w'.cell? ⟨(ad285.add ((x8_1).toNat * 3)).block, (ad285.add ((x8_1).toNat * 3)).off + 1, none⟩ = some (.int .i64 ((zae l1 x8_1).f1)) ∧ w'.cell? ⟨(ad285.add ((x8_1).toNat * 3)).block, (ad285.add ((x8_1).toNat * 3)).off + 2, none⟩ = some (.int .i64 ((zae l1 x8_1).f2))) (ds := []) (Ymk 11 0) (by kernel_rfl) rfl rfl ⟨(zab BK284.out 0).trans rfl, (zab BK284.out 1).trans rfl, (zab BK284.out 2).trans rfl, ((HB.out.cell (World.block_lt_of_cell? w _ hw285_0)).trans hw285_0), ((HB.out.cell (World.block_lt_of_cell? w _ hw285_1)).trans hw285_1), ((HB.out.cell (World.block_lt_of_cell? w _ hw285_2)).trans hw285_2)⟩ (fun hHeld => ?_); refine zbw zao.tab5 zao.bits5 (fun HT_ HW_ => ?_)
      generalize wr.drew = w17 at HO_7 BK284 HB hx285_0 hx285_1 hx285_2 hHeld ⊢
      refine Ypt 1 19 11 2 HT_ ?_
      refine Ypt 2 20 11 6 HT_ ?_
      refine Ypt 3 21 11 14 HT_ ?_
      refine Ytt 0 18 11 15 HT_ HW_ hHeld ?_
      refine Ytt 4 22 11 31 HT_ HW_ hHeld ?_
      refine Yot 5 23 11 63 HT_ (fun K hK => ?_)
      refine Ygs Tryz.func16 #[.agg #[.slice A0_0 l0_0.length c0_0, .slice A0_1 l0_1.length c0_1, .slice A0_2 l0_2.length c0_2], .agg #[.int .i64 ((zae l1 x8_1).f0), .int .i64 ((zae l1 x8_1).f1), .int .i64 ((zae l1 x8_1).f2)]] ?_
      with_reducible refine (zbr.calls _ _ l0_0 _ _ l0_1 _ _ l0_2 ((zae l1 x8_1).f0) ((zae l1 x8_1).f1) ((zae l1 x8_1).f2) t286 false _ (Kd.zak HR0_0.out Ybe) HC0_0.out (Kd.zak HR0_1.out Ybe) HC0_1.out (Kd.zak HR0_2.out Ybe) HC0_2.out A7.out).mono ?_
      rintro e w18 ⟨rfl, hb⟩
      refine ⟨_, rfl, ?_⟩
      replace HO_7 := zaa.mk (Kd.zbc (Yr HO_7) hb)
      replace BK284 := Ykb BK284 hb
      replace HB := zaa.mk (zay Yb_PItemTellsx10_0 hb)
      (try clear hb)
      (try clear hb2)
      (try clear hk)
      (try clear hi)
      refine hK.out _ _ ⟨(zab BK284.out 0).trans rfl, (zab BK284.out 1).trans rfl, (zab BK284.out 2).trans rfl, ((HB.out.cell (World.block_lt_of_cell? w _ hw285_0)).trans hw285_0), ((HB.out.cell (World.block_lt_of_cell? w _ hw285_1)).trans hw285_1), ((HB.out.cell (World.block_lt_of_cell? w _ hw285_2)).trans hw285_2)⟩ (fun hHeld => ?_)
      clear hK K
      refine Ynw 23 ?_
      refine Ypt 6 17 11 127 HT_ ?_
      refine Ypt 7 24 11 255 HT_ ?_
      refine Ypt 8 25 11 511 HT_ ?_
      refine Ypt 9 9 11 1023 HT_ ?_
      refine Ypt 10 10 11 2047 HT_ ?_
      refine zbq (zb4 HT_.out (by kernel_rfl)) ?_
      try go_wp2
      go_roundg k1
      case measure => have := HK1.out; omega
      case rel => exact ⟨(x7_1), (wrap64 (x8_1 + 1)), Yfs, H', ⟨by have := HK1.out; omega⟩, ⟨Yr HO_7⟩, ⟨Yg BK284⟩, ⟨Yb_PItemTellsx10_0⟩⟩
    ·rw [if_neg c6] at H
     exact absurd H (by simp)
   ·rw [if_neg c5] at H
    have c5b0 := decide_eq_false c5
    clear c5;replace H := Option.bind_eq_some_iff.mp H
    obtain ⟨t294, A190, H⟩ := H
    replace H : (some t294) = some r := H
    have A19 := zaa.mk A190;clear A190;obtain rfl := Option.some.inj H
    obtain ⟨hcz20_0, hfz20_0, hcz20_1, hfz20_1, hcz20_2, hfz20_2⟩ := Yc3 BK284.out
    obtain ⟨Ao21, co21, eo21⟩ := Kd.zbj HO_7.out
    subst eo21
    go_wp2_with (first | ((with_reducible refine zbm (f := 21) rfl ?_); refine Ygl (some 54) Tryz.func21 #[.agg #[.slice A0_0 l0_0.length c0_0, .slice A0_1 l0_1.length c0_1, .slice A0_2 l0_2.length c0_2], .slice Ao21 x7_1.length co21] ?_; (with_reducible refine (zac.calls k1 _ _ l0_0 _ _ l0_1 _ _ l0_2 _ _ x7_1 t294 _ (Kd.zak HR0_0.out Ybe) HC0_0.out (Kd.zak HR0_1.out Ybe) HC0_1.out (Kd.zak HR0_2.out Ybe) HC0_2.out ?side7 ?side8 A19.out).mono ?_); (case side7 => repeat (first | exact (Kd.R_reads' HO_7.out).2.2 | (with_reducible refine Kd.C_alloc ?_ _) | (with_reducible refine Kd.C_drewN ?_ _) | (with_reducible refine Kd.C_drew ?_))); (case side8 => exact (Kd.R_reads' HO_7.out).2.1); rintro e w22 ⟨v295, rfl, ho0, hb⟩; refine ⟨_, rfl, ?_⟩; have HO296 := zaa.mk (Kd.zbz (Kd.R_new' ho0 (Kd.R_lt (Yr HO_7))) (za8 Yb_PItemTellsx10_0)); replace HO_7 := zaa.mk (Kd.R_elder' (Yr HO_7) (Kd.zcj ho0) hb); replace BK284 := Ykb BK284 hb; replace HB := zaa.mk (zay Yb_PItemTellsx10_0 hb); (try clear hb); (try clear hb2); (try clear hk); (try clear hi); (try clear ho0)))
    go_ret
    exact ⟨_, by first | rfl | (simp [errW_none, errW_some] <;> rfl) | (simp [*, errW_none, errW_some] <;> rfl), by (with_reducible repeat (first | apply Kd.R_alloc | apply Kd.zb0 | apply Kd.zbn)); exact Kd.zba HO296.out (fun _ hk => trivial), Yb_PItemTellsx10_0⟩
def zbt.f (k : Nat) (l0_0 : List ByteArray) (l0_1 : List ByteArray) (l0_2 : List (S42)) : Option ((List (S50))) := (zac.f k l0_0 l0_1 l0_2 (([(⟨(-1), 0, (l0_0.length : Int)⟩ : S50)] : List (S50)))).bind fun t301 => (some t301)
theorem zbt.calls (k : Nat) (A0_0 : Option Addr) (c0_0 : Nat) (l0_0 : List ByteArray) (A0_1 : Option Addr) (c0_1 : Nat) (l0_1 : List ByteArray) (A0_2 : Option Addr) (c0_2 : Nat) (l0_2 : List (S42)) (r : List (S50)) (w : World) (hr0_0 : Kd.C Kd.string w A0_0 l0_0.length l0_0) (hc0_0 : l0_0.length ≤ c0_0) (hr0_1 : Kd.C Kd.string w A0_1 l0_1.length l0_1) (hc0_1 : l0_1.length ≤ c0_1) (hr0_2 : Kd.C k42 w A0_2 l0_2.length l0_2) (hc0_2 : l0_2.length ≤ c0_2) (h : zbt.f k l0_0 l0_1 l0_2 = some r) :
  Calls Tryz.prog 23 #[.agg #[.slice A0_0 l0_0.length c0_0, .slice A0_1 l0_1.length c0_1, .slice A0_2 l0_2.length c0_2]] w fun e w' => ∃ v0_ : Value, e = .returned (v0_) ∧ Kd.R k50 50 w' w.heap.size (fun _ => True) v0_ r ∧ Below w.heap.size w w' := by
 have hu25 := Tryz.underlying25
 have hu50 := Tryz.underlying50
 have HR0_0 := zaa.mk hr0_0;have HC0_0 := zaa.mk hc0_0;clear hr0_0 hc0_0;have HR0_1 := zaa.mk hr0_1;have HC0_1 := zaa.mk hc0_1;clear hr0_1 hc0_1;have HR0_2 := zaa.mk hr0_2;have HC0_2 := zaa.mk hc0_2;clear hr0_2 hc0_2
 have HB := zaa.mk (Below.refl w.heap.size w)
 have H : ((zac.f k l0_0 l0_1 l0_2 (([(⟨(-1), 0, (l0_0.length : Int)⟩ : S50)] : List (S50)))).bind fun t301 => (some t301)) = some r := h
 clear h
 obtain ⟨y298, hy298⟩ : ∃ y_ : List (S50), y_ = (([(⟨(-1), 0, (l0_0.length : Int)⟩ : S50)] : List (S50))) := ⟨_, rfl⟩
 replace H : ((zac.f k l0_0 l0_1 l0_2 y298).bind fun t301 => (some t301)) = some r := by first | (rw [hy298]; with_reducible exact H) | (have H2_ := (Option.bind_some _ _).symm.trans H; rw [hy298]; with_reducible exact H2_) | (have H2_ := (Option.bind_some _ _).symm.trans H; with_reducible exact H2_) | with_reducible exact H | (rw [hy298]; exact H) | exact H
 have Ny298 := zaa.mk hy298;clear hy298;replace H := Option.bind_eq_some_iff.mp H
 obtain ⟨t301, A20, H⟩ := H
 replace H : (some t301) = some r := H
 have A2 := zaa.mk A20;clear A20;obtain rfl := Option.some.inj H
 go_enter Tryz.func23, Tryz.ntmps23
 go_wp2_with (first | ((with_reducible refine zau (N := 1) rfl ?_); refine Ybx 1 #[.slice A0_0 l0_0.length c0_0, .slice A0_1 l0_1.length c0_1, .slice A0_2 l0_2.length c0_2] 25 ?_; intro gb297 hg w3 hbox hb; obtain ⟨BK297, GW297, GE297, HB⟩ := Yb4 hbox hg hb Ybe; clear hb hbox hg; obtain ⟨hcz4_0, hfz4_0, hcz4_1, hfz4_1, hcz4_2, hfz4_2⟩ := Yc3 BK297.out) | ((with_reducible refine zau (N := 8) rfl ?_); refine Kd.R_lit k50 _ 50 ?hg (N := 8) ?hd (xs := ([(⟨(-1), 0, (l0_0.length : Int)⟩ : S50)] : List (S50))) (inner := [.int .i64 (-1), .int .i64 0, .int .i64 (l0_0.length : Int)]) (ok := fun _ => True) (okp := fun _ => True) ?hr ?hp (fun _ hk => hk) trivial (Below.refl _ _) (Nat.le_refl _) (by simp) ?_; (case hd => rfl); (case hg => rfl); (case hr => first | (go_simp; done) | (go_simp; rfl)); (case hp => exact (Reps.c3 (show Kd.M k50 _ _ _ (⟨(-1), 0, (l0_0.length : Int)⟩ : S50) [.int .i64 (-1), .int .i64 0, .int .i64 (l0_0.length : Int)] from (zg4 _ _ _ (⟨(-1), 0, (l0_0.length : Int)⟩ : S50) )) (Reps.none _ _))); intro v299 w5 ho6 hb hg_ hnew_; clear hg_ hnew_; (first | rw [← Ny298.out] at ho6 | (simp only [Int.reduceToNat] at ho6; rw [← Ny298.out] at ho6)); have HO300 := zaa.mk (Kd.zbz ho6 (za8 Yb_PItemTellsx10_1)); replace BK297 := Ykb BK297 hb; replace HB := zaa.mk (zay Yb_PItemTellsx10_1 hb); clear hb ho6; obtain ⟨Ao7, co7, eo7⟩ := Kd.zbj HO300.out; subst eo7) | ((with_reducible refine zbm (f := 21) rfl ?_); refine Ygl (some 9) Tryz.func21 #[.agg #[.slice A0_0 l0_0.length c0_0, .slice A0_1 l0_1.length c0_1, .slice A0_2 l0_2.length c0_2], .slice Ao7 y298.length co7] ?_; (with_reducible refine (zac.calls k _ _ l0_0 _ _ l0_1 _ _ l0_2 _ _ y298 t301 _ (Kd.zak HR0_0.out Ybe) HC0_0.out (Kd.zak HR0_1.out Ybe) HC0_1.out (Kd.zak HR0_2.out Ybe) HC0_2.out ?side7 ?side8 A2.out).mono ?_); (case side7 => repeat (first | exact (Kd.R_reads' HO300.out).2.2 | (with_reducible refine Kd.C_alloc ?_ _) | (with_reducible refine Kd.C_drewN ?_ _) | (with_reducible refine Kd.C_drew ?_))); (case side8 => exact (Kd.R_reads' HO300.out).2.1); rintro e w8 ⟨v302, rfl, ho0, hb⟩; refine ⟨_, rfl, ?_⟩; have HO303 := zaa.mk (Kd.zbz (Kd.R_new' ho0 (Kd.R_lt (Yr HO300))) (za8 Yb_PItemTellsx10_1)); replace HO300 := zaa.mk (Kd.R_elder' (Yr HO300) (Kd.zcj ho0) hb); replace BK297 := Ykb BK297 hb; replace HB := zaa.mk (zay Yb_PItemTellsx10_1 hb); (try clear hb); (try clear hb2); (try clear hk); (try clear hi); (try clear ho0)))
 go_ret
 exact ⟨_, by first | rfl | (simp [errW_none, errW_some] <;> rfl) | (simp [*, errW_none, errW_some] <;> rfl), by (with_reducible repeat (first | apply Kd.R_alloc | apply Kd.zb0 | apply Kd.zbn)); exact Kd.zba HO303.out (fun _ hk => trivial), Yb_PItemTellsx10_1⟩
section
end
theorem Yb_PItemTellsx11_0 {n : Nat} {w w' : World} (h : Below n w w' := by repeat (first | (with_reducible first | exact HB.out | apply za2 | apply zav | apply zas | refine za6 ?_ GE304.out) | exact HB.out)) : Below n w w' := h
theorem Yb_PItemTellsx11_1 {n : Nat} {w w' : World} (h : Below n w w' := by repeat (first | (with_reducible first | exact HB.out | apply za2 | apply zav | apply zas | refine za6 ?_ GE304.out | refine za6 ?_ GE308.out) | exact HB.out)) : Below n w w' := h
mutual
def zal.j0 : Nat → List (S50) → Int → Bool → List ByteArray → List ByteArray → List (S42) → Option (Bool)
 | 0, _, _, _, _, _, _ => none
 | k + 1, x1, x2, x20, x305000, x305001, x305002 => if x20 = true then ((zbh.f).bind fun t306 => (some t306)) else (zal.l0 k x1 x2 x1 (x1.length : Int) 0 x305000 x305001 x305002)
def zal.l0 : Nat → List (S50) → Int → List (S50) → Int → Int → List ByteArray → List ByteArray → List (S42) → Option (Bool)
 | 0, _, _, _, _, _, _, _, _ => none
 | k + 1, x1, x2, x22, x23, x24, x305000, x305001, x305002 => if x24 < x23 then (if 0 ≤ x24 then (if x24 < (x22.length : Int) then ((zb6.f x305000 x305001 x305002 ((zae x22 x24).f0) ((zae x22 x24).f1) ((zae x22 x24).f2)).bind fun bt309 => ((zbr.f x305000 x305001 x305002 ((zae x22 x24).f0) ((zae x22 x24).f1) ((zae x22 x24).f2)).bind fun bt311 => ((zbp.f x305000 x305001 x305002 ((zae x22 x24).f0) ((zae x22 x24).f1) ((zae x22 x24).f2)).bind fun t313 => ((zax.f x305000 x305001 x305002 ((zae x22 x24).f0) ((zae x22 x24).f1) ((zae x22 x24).f2)).bind fun t314 => (if (t313 != t314) = true then (some false) else (if bt309.1 = bt311.1 then (if (bt309.2 != bt311.2) = true then (some false) else (zal.l0 k x1 x2 x22 x23 (wrap64 (x24 + 1)) x305000 x305001 x305002)) else (some false))))))) else (none)) else (none)) else ((zdp.f k x305000 x305001 x305002 x1).bind fun t315 => ((zac.f k x305000 x305001 x305002 x1).bind fun t318 => ((zaq.f k t315 t318).bind fun t321 => (if t321 = true then ((zdc.f k x305000 x305001 x305002 x1 x2).bind fun t322 => ((zao.f k x305000 x305001 x305002 x1 x2).bind fun t325 => ((zaq.f k t322 t325).bind fun t328 => (if t328 = true then ((zco.f k x305000 x305001 x305002).bind fun t329 => ((zbt.f k x305000 x305001 x305002).bind fun t332 => ((zaq.f k t329 t332).bind fun t335 => (if t335 = true then ((zbh.f).bind fun t336 => (some t336)) else (some false))))) else (some false))))) else (some false)))))
end
def zal.f (k : Nat) (l0_0 : List ByteArray) (l0_1 : List ByteArray) (l0_2 : List (S42)) (l1 : List (S50)) (a2 : Int) : Option (Bool) := (zct.f k l0_0 l0_1 l0_2).bind fun t305 => (if t305 = true then (zal.j0 k l1 a2 (decide ((l1.length : Int) > 50)) l0_0 l0_1 l0_2) else (zal.j0 k l1 a2 true l0_0 l0_1 l0_2))
def zal.T8 : Bool × List (List Nat × List Nat) := (true, [([], []), ([], []), ([0, 1], [0, 1]), ([], []), ([], []), ([3, 4, 2], [3, 4]), ([2, 5], [2, 5]), ([6, 5], [6]), ([7], [7]), ([7], [7]), ([8, 9, 7], [7, 8, 9]), ([7, 10], [7, 10]), ([11, 7], [11]), ([12], [12]), ([12], [12]), ([13, 14, 12], [12, 13, 14]), ([12, 15], [12, 15])])
def zal.B8 : List Nat := [0, 0, 3, 0, 0, 31, 63, 127, 255, 255, 1023, 2047, 4095, 8191, 8191, 32767, 65535]
theorem zal.tab8 : rtab .any (opsOf Tryz.f5 8) = zal.T8 := by kernel_rfl
theorem zal.bits8 : zc6 zal.T8.2 zal.B8 = true := by kernel_rfl
def zal.T11 : Bool × List (List Nat × List Nat) := (true, [([], []), ([], []), ([0, 1], [0, 1]), ([], []), ([], []), ([3, 4, 2], [3, 4]), ([2, 5, 5], [2, 5]), ([6, 6], [6]), ([7], [7]), ([7], [7]), ([7], [7]), ([8, 9, 10, 7, 7], [7, 8, 9, 10]), ([7], [7]), ([7], [7]), ([7], [7]), ([12, 13, 14, 11, 7], [7, 12, 13, 14]), ([11, 15, 15, 7], [7, 11, 15]), ([7, 16], [7, 16]), ([17, 16], [17]), ([18], [18]), ([19, 18, 18], [18, 19]), ([18], [18]), ([21, 20, 18], [18, 21]), ([20, 22, 22, 18], [18, 20, 22]), ([18, 23], [18, 23]), ([24, 23], [24]), ([25, 25], [25]), ([25, 26], [25, 26]), ([27, 26, 0, 1, 2, 3, 4, 5, 6, 7, 8, 9, 10, 11, 12, 13, 14, 15, 16, 17, 18, 19, 20, 21, 22, 23, 24, 25, 26, 27], [27])])
def zal.B11 : List Nat := [0, 0, 3, 0, 0, 31, 63, 127, 255, 255, 255, 2047, 255, 255, 255, 32767, 65535, 131071, 262143, 524287, 1048575, 524287, 4194303, 8388607, 16777215, 33554431, 67108863, 134217727, 268435455]
theorem zal.tab11 : rtab .any (opsOf Tryz.f5 11) = zal.T11 := by kernel_rfl
theorem zal.bits11 : zc6 zal.T11.2 zal.B11 = true := by kernel_rfl
theorem zal.calls (k : Nat) (A0_0 : Option Addr) (c0_0 : Nat) (l0_0 : List ByteArray) (A0_1 : Option Addr) (c0_1 : Nat) (l0_1 : List ByteArray) (A0_2 : Option Addr) (c0_2 : Nat) (l0_2 : List (S42)) (A1 : Option Addr) (c1 : Nat) (l1 : List (S50)) (a2 : Int) (r : Bool) (w : World) (hr0_0 : Kd.C Kd.string w A0_0 l0_0.length l0_0) (hc0_0 : l0_0.length ≤ c0_0) (hr0_1 : Kd.C Kd.string w A0_1 l0_1.length l0_1) (hc0_1 : l0_1.length ≤ c0_1) (hr0_2 : Kd.C k42 w A0_2 l0_2.length l0_2) (hc0_2 : l0_2.length ≤ c0_2) (hr1 : Kd.C k50 w A1 l1.length l1) (hc1 : l1.length ≤ c1) (h : zal.f k l0_0 l0_1 l0_2 l1 a2 = some r) (hT_ : r = true) :
  Calls Tryz.prog 5 #[.agg #[.slice A0_0 l0_0.length c0_0, .slice A0_1 l0_1.length c0_1, .slice A0_2 l0_2.length c0_2], .slice A1 l1.length c1, .int .i64 a2] w fun e w' => e = .returned (.bool r) ∧ Below w.heap.size w w' := by
 subst hT_
 have hu25 := Tryz.underlying25
 have hu50 := Tryz.underlying50
 have HR0_0 := zaa.mk hr0_0;have HC0_0 := zaa.mk hc0_0;clear hr0_0 hc0_0;have HR0_1 := zaa.mk hr0_1;have HC0_1 := zaa.mk hc0_1;clear hr0_1 hc0_1;have HR0_2 := zaa.mk hr0_2;have HC0_2 := zaa.mk hc0_2;clear hr0_2 hc0_2;have HR1 := zaa.mk hr1;have HC1 := zaa.mk hc1;clear hr1 hc1
 have HB := zaa.mk (Below.refl w.heap.size w)
 have H : ((zct.f k l0_0 l0_1 l0_2).bind fun t305 => (if t305 = true then (zal.j0 k l1 a2 (decide ((l1.length : Int) > 50)) l0_0 l0_1 l0_2) else (zal.j0 k l1 a2 true l0_0 l0_1 l0_2))) = some true := h
 clear h;have HC4 := zaa.mk H;clear H
 go_enter Tryz.func5, Tryz.ntmps5
 go_upto_region 1 with (first | ((with_reducible refine zau (N := 3) rfl ?_); (try (refine zaz (by rfl) ?_; dsimp only)); refine Ybx 3 #[.slice A0_0 l0_0.length c0_0, .slice A0_1 l0_1.length c0_1, .slice A0_2 l0_2.length c0_2] 25 ?_; intro gb304 hg w5 hbox hb; obtain ⟨BK304, GW304, GE304, HB⟩ := Yb4 hbox hg hb Ybe; clear hb hbox hg))
 (try simp only [Act.put, Y1, Y2, Y3])
 go_cut [20] (fun v20 wc => ∃ (kq : Nat) (x20_3 : Bool), v20 = .bool x20_3 ∧ zaa (zal.j0 kq l1 a2 x20_3 l0_0 l0_1 l0_2 = some true) ∧ zaa (kq ≤ k) ∧ zaa (wc.heap[gb304]? = some (.cells #[(.slice A0_0 l0_0.length c0_0), (.slice A0_1 l0_1.length c0_1), (.slice A0_2 l0_2.length c0_2)] 25 (0, 0))) ∧ zaa (Below w.heap.size w wc))
 case first =>
  have H := HC4.out;clear HC4;replace H := Option.bind_eq_some_iff.mp H
  obtain ⟨t305, A60, H⟩ := H
  replace H : (if t305 = true then (zal.j0 k l1 a2 (decide ((l1.length : Int) > 50)) l0_0 l0_1 l0_2) else (zal.j0 k l1 a2 true l0_0 l0_1 l0_2)) = some true := H
  have A6 := zaa.mk A60;clear A60
  by_cases c7 : t305 = true
  ·subst c7
   have H1 : (zal.j0 k l1 a2 (decide ((l1.length : Int) > 50)) l0_0 l0_1 l0_2) = some true := by rw [if_pos rfl] at H; exact H
   clear H;have H := H1;clear H1
   have H' := zaa.mk H
   clear H
   obtain ⟨hcz8_0, hfz8_0, hcz8_1, hfz8_1, hcz8_2, hfz8_2⟩ := Yc3 BK304.out
   go_wp2_with (first | ((with_reducible refine zbm (f := 6) rfl ?_); refine Ygl (some 14) Tryz.func6 #[.agg #[.slice A0_0 l0_0.length c0_0, .slice A0_1 l0_1.length c0_1, .slice A0_2 l0_2.length c0_2]] ?_; (with_reducible refine (zct.calls k _ _ l0_0 _ _ l0_1 _ _ l0_2 true _ (Kd.zak HR0_0.out Ybe) HC0_0.out (Kd.zak HR0_1.out Ybe) HC0_1.out (Kd.zak HR0_2.out Ybe) HC0_2.out A6.out).mono ?_); rintro e w9 ⟨rfl, hb⟩; refine ⟨_, rfl, ?_⟩; replace BK304 := Ykb BK304 hb; replace HB := zaa.mk (zay Yb_PItemTellsx11_0 hb); (try clear hb); (try clear hb2); (try clear hk); (try clear hi)))
   go_meet
   case rel => exact ⟨_, (decide ((l1.length : Int) > 50)), Yfs, H', ⟨by first | omega | exact Nat.le_refl _⟩, ⟨Yg BK304⟩, ⟨Yb_PItemTellsx11_0⟩⟩
  ·replace c7 := Bool.eq_false_iff.mpr c7
   subst c7
   have H1 : (zal.j0 k l1 a2 true l0_0 l0_1 l0_2) = some true := by rw [if_neg (show ¬ (false = true) by decide)] at H; exact H
   clear H;have H := H1;clear H1
   have H' := zaa.mk H
   clear H
   obtain ⟨hcz10_0, hfz10_0, hcz10_1, hfz10_1, hcz10_2, hfz10_2⟩ := Yc3 BK304.out
   go_wp2_with (first | ((with_reducible refine zbm (f := 6) rfl ?_); refine Ygl (some 14) Tryz.func6 #[.agg #[.slice A0_0 l0_0.length c0_0, .slice A0_1 l0_1.length c0_1, .slice A0_2 l0_2.length c0_2]] ?_; (with_reducible refine (zct.calls k _ _ l0_0 _ _ l0_1 _ _ l0_2 false _ (Kd.zak HR0_0.out Ybe) HC0_0.out (Kd.zak HR0_1.out Ybe) HC0_1.out (Kd.zak HR0_2.out Ybe) HC0_2.out A6.out).mono ?_); rintro e w11 ⟨rfl, hb⟩; refine ⟨_, rfl, ?_⟩; replace BK304 := Ykb BK304 hb; replace HB := zaa.mk (zay Yb_PItemTellsx11_0 hb); (try clear hb); (try clear hb2); (try clear hk); (try clear hi)))
   go_meet
   case rel => exact ⟨_, (true), Yfs, H', ⟨by first | omega | exact Nat.le_refl _⟩, ⟨Yg BK304⟩, ⟨Yb_PItemTellsx11_0⟩⟩
 case rest =>
  clear HC4
  obtain ⟨kq, x20_3, rfl, HA, HJ3, BK304, HB⟩ := hcut
  cases kq with
  | zero => exact absurd HA.out (by simp [zal.j0])
  | succ kj3 =>
   have H := HA.out;clear HA
   simp only [zal.j0] at H
   by_cases c12 : x20_3 = true
   ·subst c12
    have H1 : ((zbh.f).bind fun t306 => (some t306)) = some true := by rw [if_pos rfl] at H; exact H
    clear H;have H := H1;clear H1;replace H := Option.bind_eq_some_iff.mp H
    obtain ⟨t306, A130, H⟩ := H
    replace H : (some t306) = some true := H
    have A13 := zaa.mk A130;clear A130;obtain rfl := Option.some.inj H
    go_wp2_with (first | ((with_reducible refine zbm (f := 7) rfl ?_); refine Ygl (some 21) Tryz.func7 #[] ?_; (with_reducible refine (zbh.calls  true _ A13.out).mono ?_); rintro e w14 ⟨rfl, hb⟩; refine ⟨_, rfl, ?_⟩; replace BK304 := Ykb BK304 hb; replace HB := zaa.mk (zay Yb_PItemTellsx11_0 hb); (try clear hb); (try clear hb2); (try clear hk); (try clear hi)))
    go_ret
    exact ⟨Yfi, Yb_PItemTellsx11_0⟩
   ·replace c12 := Bool.eq_false_iff.mpr c12
    subst c12
    have H1 : (zal.l0 kj3 l1 a2 l1 (l1.length : Int) 0 l0_0 l0_1 l0_2) = some true := by rw [if_neg (show ¬ (false = true) by decide)] at H; exact H
    clear H;have H := H1;clear H1
    have H' := zaa.mk H
    clear H;go_wp2
    go_loopg [24] kj3 (fun kq v24 w' => ∃ (x24_2 : Int), v24 = .int .i64 x24_2 ∧ zaa (zal.l0 kq l1 a2 l1 (l1.length : Int) x24_2 l0_0 l0_1 l0_2 = some true) ∧ zaa (kq ≤ kj3) ∧ zaa (w'.heap[gb304]? = some (.cells #[(.slice A0_0 l0_0.length c0_0), (.slice A0_1 l0_1.length c0_1), (.slice A0_2 l0_2.length c0_2)] 25 (0, 0))) ∧ zaa (Below w.heap.size w w'))
    case atStart => exact ⟨(0), Yfs, H', ⟨Nat.le_refl _⟩, ⟨Yg BK304⟩, ⟨Yb_PItemTellsx11_0⟩⟩
    case round =>
     clear H'
     obtain ⟨x24_2, rfl, HA, HK2, BK304, HB⟩ := hrel
     cases gk with
     | zero => exact absurd HA.out (by simp [zal.l0])
     | succ k2 =>
      have H := HA.out;clear HA
      simp only [zal.l0] at H
      by_cases c15 : x24_2 < (l1.length : Int)
      ·rw [if_pos c15] at H
       have c15b0 := decide_eq_true c15
       clear c15
       by_cases c16 : 0 ≤ x24_2
       ·rw [if_pos c16] at H
        have c16b0 := decide_eq_true c16
        clear c16
        by_cases c17 : x24_2 < (l1.length : Int)
        ·rw [if_pos c17] at H
         have c17b0 := decide_eq_true c17
         clear c17;replace H := Option.bind_eq_some_iff.mp H
         obtain ⟨⟨t309, t310⟩, A180, H⟩ := H
         replace H : ((zbr.f l0_0 l0_1 l0_2 ((zae l1 x24_2).f0) ((zae l1 x24_2).f1) ((zae l1 x24_2).f2)).bind fun bt311 => ((zbp.f l0_0 l0_1 l0_2 ((zae l1 x24_2).f0) ((zae l1 x24_2).f1) ((zae l1 x24_2).f2)).bind fun t313 => ((zax.f l0_0 l0_1 l0_2 ((zae l1 x24_2).f0) ((zae l1 x24_2).f1) ((zae l1 x24_2).f2)).bind fun t314 => (if (t313 != t314) = true then (some false) else (if t309 = bt311.1 then (if (t310 != bt311.2) = true then (some false) else (zal.l0 k2 l1 a2 l1 (l1.length : Int) (wrap64 (x24_2 + 1)) l0_0 l0_1 l0_2)) else (some false)))))) = some true := H
         have A18 := zaa.mk A180;clear A180;replace H := Option.bind_eq_some_iff.mp H
         obtain ⟨⟨t311, t312⟩, A190, H⟩ := H
         replace H : ((zbp.f l0_0 l0_1 l0_2 ((zae l1 x24_2).f0) ((zae l1 x24_2).f1) ((zae l1 x24_2).f2)).bind fun t313 => ((zax.f l0_0 l0_1 l0_2 ((zae l1 x24_2).f0) ((zae l1 x24_2).f1) ((zae l1 x24_2).f2)).bind fun t314 => (if (t313 != t314) = true then (some false) else (if t309 = t311 then (if (t310 != t312) = true then (some false) else (zal.l0 k2 l1 a2 l1 (l1.length : Int) (wrap64 (x24_2 + 1)) l0_0 l0_1 l0_2)) else (some false))))) = some true := H
         have A19 := zaa.mk A190;clear A190;replace H := Option.bind_eq_some_iff.mp H
         obtain ⟨t313, A200, H⟩ := H
         replace H : ((zax.f l0_0 l0_1 l0_2 ((zae l1 x24_2).f0) ((zae l1 x24_2).f1) ((zae l1 x24_2).f2)).bind fun t314 => (if (t313 != t314) = true then (some false) else (if t309 = t311 then (if (t310 != t312) = true then (some false) else (zal.l0 k2 l1 a2 l1 (l1.length : Int) (wrap64 (x24_2 + 1)) l0_0 l0_1 l0_2)) else (some false)))) = some true := H
         have A20 := zaa.mk A200;clear A200;replace H := Option.bind_eq_some_iff.mp H
         obtain ⟨t314, A210, H⟩ := H
         replace H : (if (t313 != t314) = true then (some false) else (if t309 = t311 then (if (t310 != t312) = true then (some false) else (zal.l0 k2 l1 a2 l1 (l1.length : Int) (wrap64 (x24_2 + 1)) l0_0 l0_1 l0_2)) else (some false))) = some true := H
         have A21 := zaa.mk A210;clear A210
         by_cases c22 : (t313 != t314) = true
         ·rw [if_pos c22] at H
          have c22b0 : (t313 != t314) = true := c22
          (try (have c22b1 : decide (t313 = t314) = false := by simpa using c22))
          (try (have c22b2 : (t313 == t314) = false := by simpa using c22))
          (try (have c22b3 : ¬ (t313 = t314) := by simpa using c22))
          clear c22
          cases Option.some.inj H
         ·rw [if_neg c22] at H
          have c22b0 : (t313 != t314) = false := by simpa using c22
          (try (have c22b1 : decide (t313 = t314) = true := by simpa using c22))
          (try (have c22b2 : (t313 == t314) = true := by simpa using c22))
          clear c22
          by_cases c34 : t309 = t311
          ·rw [if_pos c34] at H
           have c34b0 : (t309 == t311) = true := beq_iff_eq.mpr c34
           have c34b1 : (t309 != t311) = false := bne_eq_false_iff_eq.mpr c34
           clear c34
           by_cases c35 : (t310 != t312) = true
           ·rw [if_pos c35] at H
            have c35b0 : (t310 != t312) = true := c35
            (try (have c35b1 : decide (t310 = t312) = false := by simpa using c35))
            (try (have c35b2 : (t310 == t312) = false := by simpa using c35))
            (try (have c35b3 : ¬ (t310 = t312) := by simpa using c35))
            clear c35
            cases Option.some.inj H
           ·rw [if_neg c35] at H
            have c35b0 : (t310 != t312) = false := by simpa using c35
            (try (have c35b1 : decide (t310 = t312) = true := by simpa using c35))
            (try (have c35b2 : (t310 == t312) = true := by simpa using c35))
            clear c35
            have H' := zaa.mk H
            clear H
            have p307 : 0 ≤ (x24_2 : Int) := Yod
            have q307 : x24_2 < (l1.length : Int) := Yod
            obtain ⟨ad307, e307, hx307_0, hx307_1, hx307_2⟩ := zcv HR1.out x24_2 p307 q307
            cases e307
            replace hx307_0 := zad HB.out hx307_0
            replace hx307_1 := zad HB.out hx307_1
            replace hx307_2 := zad HB.out hx307_2
            replace p307 := eq_true p307
            replace q307 := eq_true q307
            try go_wp2_with (first | ((with_reducible refine zau (N := 8) rfl ?_); (try (refine zaz (by rfl) ?_; dsimp only)); refine Ybx 8 #[.int .i64 0, .int .i64 0, .int .i64 0] 50 ?_; intro gb308 hg w47 hbox hb; obtain ⟨BK308, GW308, GE308, HB⟩ := Yb4 hbox hg hb Yb_PItemTellsx11_0; have NB304_308 := Ynl BK304 hg; have NB308_304 := Yng BK304 hg; replace BK304 := Ykb BK304 hb; clear hb hbox hg; have hnb48 := NB308_304.out; have hnc48 := NB304_308.out; obtain ⟨hcz49_0, hfz49_0, hcz49_1, hfz49_1, hcz49_2, hfz49_2⟩ := Yc3 BK308.out; obtain ⟨hcz50_0, hfz50_0, hcz50_1, hfz50_1, hcz50_2, hfz50_2⟩ := Yc3 BK304.out) | ((with_reducible refine zbm (f := 15) rfl ?_); refine Ygl (some 31) Tryz.func15 #[.agg #[.slice A0_0 l0_0.length c0_0, .slice A0_1 l0_1.length c0_1, .slice A0_2 l0_2.length c0_2], .agg #[.int .i64 ((zae l1 x24_2).f0), .int .i64 ((zae l1 x24_2).f1), .int .i64 ((zae l1 x24_2).f2)]] ?_; (with_reducible refine (zb6.calls _ _ l0_0 _ _ l0_1 _ _ l0_2 ((zae l1 x24_2).f0) ((zae l1 x24_2).f1) ((zae l1 x24_2).f2) t309 t310 _ (Kd.zak HR0_0.out Yb_PItemTellsx11_1) HC0_0.out (Kd.zak HR0_1.out Yb_PItemTellsx11_1) HC0_1.out (Kd.zak HR0_2.out Yb_PItemTellsx11_1) HC0_2.out A18.out).mono ?_); rintro e w51 ⟨rfl, hb⟩; refine ⟨_, rfl, ?_⟩; replace BK304 := zaa.mk (zat (g := gb304) (o := .cells #[.slice A0_0 l0_0.length c0_0, .slice A0_1 l0_1.length c0_1, .slice A0_2 l0_2.length c0_2] 25 (0, 0)) (by (with_reducible repeat (first | refine zam ?_ _ | refine zah ?_ | refine zaj ?_ _)); refine zbg ?_ NB304_308.out _; (with_reducible repeat (first | refine zam ?_ _ | refine zah ?_ | refine zaj ?_ _)); refine zbg ?_ NB304_308.out _; (with_reducible repeat (first | refine zam ?_ _ | refine zah ?_ | refine zaj ?_ _)); refine zbg ?_ NB304_308.out _; (with_reducible repeat (first | refine zam ?_ _ | refine zah ?_ | refine zaj ?_ _)); exact BK304.out) hb); replace BK308 := zaa.mk (zat (g := gb308) (o := .cells #[.int .i64 ((zae l1 x24_2).f0), .int .i64 ((zae l1 x24_2).f1), .int .i64 ((zae l1 x24_2).f2)] 50 (0, 0)) (by (with_reducible repeat (first | refine zam ?_ _ | refine zah ?_ | refine zaj ?_ _)); refine zbu (cs := #[.int .i64 ((zae l1 x24_2).f0), .int .i64 ((zae l1 x24_2).f1), .int .i64 0]) ?_ 2 _ rfl; (with_reducible repeat (first | refine zam ?_ _ | refine zah ?_ | refine zaj ?_ _)); refine zbu (cs := #[.int .i64 ((zae l1 x24_2).f0), .int .i64 0, .int .i64 0]) ?_ 1 _ rfl; (with_reducible repeat (first | refine zam ?_ _ | refine zah ?_ | refine zaj ?_ _)); refine zbu (cs := #[.int .i64 0, .int .i64 0, .int .i64 0]) ?_ 0 _ rfl; (with_reducible repeat (first | refine zam ?_ _ | refine zah ?_ | refine zaj ?_ _)); exact BK308.out) hb); replace HB := zaa.mk (zay Yb_PItemTellsx11_1 hb); (try clear hb); (try clear hb2); (try clear hk); (try clear hi); obtain ⟨hcz52_0, hfz52_0, hcz52_1, hfz52_1, hcz52_2, hfz52_2⟩ := Yc3 BK304.out; obtain ⟨hcz53_0, hfz53_0, hcz53_1, hfz53_1, hcz53_2, hfz53_2⟩ := Yc3 BK308.out) | ((with_reducible refine zbm (f := 16) rfl ?_); refine Ygl (some 37) Tryz.func16 #[.agg #[.slice A0_0 l0_0.length c0_0, .slice A0_1 l0_1.length c0_1, .slice A0_2 l0_2.length c0_2], .agg #[.int .i64 ((zae l1 x24_2).f0), .int .i64 ((zae l1 x24_2).f1), .int .i64 ((zae l1 x24_2).f2)]] ?_; (with_reducible refine (zbr.calls _ _ l0_0 _ _ l0_1 _ _ l0_2 ((zae l1 x24_2).f0) ((zae l1 x24_2).f1) ((zae l1 x24_2).f2) t311 t312 _ (Kd.zak HR0_0.out Ybe) HC0_0.out (Kd.zak HR0_1.out Ybe) HC0_1.out (Kd.zak HR0_2.out Ybe) HC0_2.out A19.out).mono ?_); rintro e w54 ⟨rfl, hb⟩; refine ⟨_, rfl, ?_⟩; replace BK304 := Ykb BK304 hb; replace BK308 := Ykb BK308 hb; replace HB := zaa.mk (zay Yb_PItemTellsx11_1 hb); (try clear hb); (try clear hb2); (try clear hk); (try clear hi)))
            replace BK304 := zaa.mk (zah BK304.out)
            replace BK308 := zaa.mk (zah BK308.out)
            replace HB := zaa.mk (zas HB.out)
            refine zbl (n := 17) (S := fun w' => w'.cell? ⟨gb304, 0, none⟩ = some (.slice A0_0 l0_0.length c0_0) ∧ w'.cell? ⟨gb304, 1, none⟩ = some (.slice A0_1 l0_1.length c0_1) ∧ w'.cell? ⟨gb304, 2, none⟩ = some (.slice A0_2 l0_2.length c0_2) ∧ w'.cell? ⟨gb308, 0, none⟩ = some (.int .i64 ((zae l1 x24_2).f0)) ∧ w'.cell? ⟨gb308, 1, none⟩ = some (.int .i64 ((zae l1 x24_2).f1)) ∧ w'.cell? ⟨gb308, 2, none⟩ = some (.int .i64 ((zae l1 x24_2).f2))) (ds := []) (Ymk 17 0) (by kernel_rfl) rfl rfl ⟨(zab BK304.out 0).trans rfl, (zab BK304.out 1).trans rfl, (zab BK304.out 2).trans rfl, (zab BK308.out 0).trans rfl, (zab BK308.out 1).trans rfl, (zab BK308.out 2).trans rfl⟩ (fun hHeld => ?_); refine zbw zal.tab8 zal.bits8 (fun HT_ HW_ => ?_)
            generalize w54.drew = w55 at BK304 BK308 HB hHeld ⊢
            refine Ytt 0 40 17 1 HT_ HW_ hHeld ?_
            refine Ytt 1 41 17 3 HT_ HW_ hHeld ?_
            refine Ytt 3 43 17 11 HT_ HW_ hHeld ?_
            refine Ytt 4 44 17 27 HT_ HW_ hHeld ?_
            refine Yot 2 42 17 31 HT_ (fun K hK => ?_)
            refine Ygs Tryz.func17 #[.agg #[.slice A0_0 l0_0.length c0_0, .slice A0_1 l0_1.length c0_1, .slice A0_2 l0_2.length c0_2], .agg #[.int .i64 ((zae l1 x24_2).f0), .int .i64 ((zae l1 x24_2).f1), .int .i64 ((zae l1 x24_2).f2)]] ?_
            with_reducible refine (zbp.calls _ _ l0_0 _ _ l0_1 _ _ l0_2 ((zae l1 x24_2).f0) ((zae l1 x24_2).f1) ((zae l1 x24_2).f2) t313 _ (Kd.zak HR0_0.out Ybe) HC0_0.out (Kd.zak HR0_1.out Ybe) HC0_1.out (Kd.zak HR0_2.out Ybe) HC0_2.out A20.out).mono ?_
            rintro e w56 ⟨rfl, hb⟩
            refine ⟨_, rfl, ?_⟩
            replace BK304 := Ykb BK304 hb
            replace BK308 := Ykb BK308 hb
            replace HB := zaa.mk (zay Yb_PItemTellsx11_1 hb)
            (try clear hb)
            (try clear hb2)
            (try clear hk)
            (try clear hi)
            refine hK.out _ _ ⟨(zab BK304.out 0).trans rfl, (zab BK304.out 1).trans rfl, (zab BK304.out 2).trans rfl, (zab BK308.out 0).trans rfl, (zab BK308.out 1).trans rfl, (zab BK308.out 2).trans rfl⟩ (fun hHeld => ?_)
            clear hK K
            refine Ynw 42 ?_
            refine Yot 5 45 17 63 HT_ (fun K hK => ?_)
            refine Ygs Tryz.func18 #[.agg #[.slice A0_0 l0_0.length c0_0, .slice A0_1 l0_1.length c0_1, .slice A0_2 l0_2.length c0_2], .agg #[.int .i64 ((zae l1 x24_2).f0), .int .i64 ((zae l1 x24_2).f1), .int .i64 ((zae l1 x24_2).f2)]] ?_
            with_reducible refine (zax.calls _ _ l0_0 _ _ l0_1 _ _ l0_2 ((zae l1 x24_2).f0) ((zae l1 x24_2).f1) ((zae l1 x24_2).f2) t314 _ (Kd.zak HR0_0.out Ybe) HC0_0.out (Kd.zak HR0_1.out Ybe) HC0_1.out (Kd.zak HR0_2.out Ybe) HC0_2.out A21.out).mono ?_
            rintro e w57 ⟨rfl, hb⟩
            refine ⟨_, rfl, ?_⟩
            replace BK304 := Ykb BK304 hb
            replace BK308 := Ykb BK308 hb
            replace HB := zaa.mk (zay Yb_PItemTellsx11_1 hb)
            (try clear hb)
            (try clear hb2)
            (try clear hk)
            (try clear hi)
            refine hK.out _ _ ⟨(zab BK304.out 0).trans rfl, (zab BK304.out 1).trans rfl, (zab BK304.out 2).trans rfl, (zab BK308.out 0).trans rfl, (zab BK308.out 1).trans rfl, (zab BK308.out 2).trans rfl⟩ (fun hHeld => ?_)
            clear hK K
            refine Ynw 45 ?_
            refine Ypt 6 46 17 127 HT_ ?_
            refine Ypt 7 47 17 255 HT_ ?_
            refine Ypt 8 48 17 511 HT_ ?_
            refine Ypt 9 49 17 1023 HT_ ?_
            refine Ypt 10 50 17 2047 HT_ ?_
            refine Ypt 11 51 17 4095 HT_ ?_
            refine Ypt 12 52 17 8191 HT_ ?_
            refine Ypt 13 53 17 16383 HT_ ?_
            refine Ypt 14 54 17 32767 HT_ ?_
            refine Ypt 15 55 17 65535 HT_ ?_
            refine Ypt 16 56 17 131071 HT_ ?_
            refine zbq (zb4 HT_.out (by kernel_rfl)) ?_
            try go_wp2
            go_roundg k2
            case measure => have := HJ3.out; have := HK2.out; omega
            case rel => exact ⟨(wrap64 (x24_2 + 1)), Yfs, H', ⟨by have := HJ3.out; have := HK2.out; omega⟩, ⟨Yg BK304⟩, ⟨Yb_PItemTellsx11_1⟩⟩
          ·rw [if_neg c34] at H
           have c34b0 : (t309 == t311) = false := beq_eq_false_iff_ne.mpr c34
           have c34b1 : (t309 != t311) = true := bne_iff_ne.mpr c34
           cases Option.some.inj H
        ·rw [if_neg c17] at H
         exact absurd H (by simp)
       ·rw [if_neg c16] at H
        exact absurd H (by simp)
      ·rw [if_neg c15] at H
       have c15b0 := decide_eq_false c15
       clear c15;replace H := Option.bind_eq_some_iff.mp H
       obtain ⟨t315, A690, H⟩ := H
       replace H : ((zac.f k2 l0_0 l0_1 l0_2 l1).bind fun t318 => ((zaq.f k2 t315 t318).bind fun t321 => (if t321 = true then ((zdc.f k2 l0_0 l0_1 l0_2 l1 a2).bind fun t322 => ((zao.f k2 l0_0 l0_1 l0_2 l1 a2).bind fun t325 => ((zaq.f k2 t322 t325).bind fun t328 => (if t328 = true then ((zco.f k2 l0_0 l0_1 l0_2).bind fun t329 => ((zbt.f k2 l0_0 l0_1 l0_2).bind fun t332 => ((zaq.f k2 t329 t332).bind fun t335 => (if t335 = true then ((zbh.f).bind fun t336 => (some t336)) else (some false))))) else (some false))))) else (some false)))) = some true := H
       have A69 := zaa.mk A690;clear A690;replace H := Option.bind_eq_some_iff.mp H
       obtain ⟨t318, A700, H⟩ := H
       replace H : ((zaq.f k2 t315 t318).bind fun t321 => (if t321 = true then ((zdc.f k2 l0_0 l0_1 l0_2 l1 a2).bind fun t322 => ((zao.f k2 l0_0 l0_1 l0_2 l1 a2).bind fun t325 => ((zaq.f k2 t322 t325).bind fun t328 => (if t328 = true then ((zco.f k2 l0_0 l0_1 l0_2).bind fun t329 => ((zbt.f k2 l0_0 l0_1 l0_2).bind fun t332 => ((zaq.f k2 t329 t332).bind fun t335 => (if t335 = true then ((zbh.f).bind fun t336 => (some t336)) else (some false))))) else (some false))))) else (some false))) = some true := H
       have A70 := zaa.mk A700;clear A700;replace H := Option.bind_eq_some_iff.mp H
       obtain ⟨t321, A710, H⟩ := H
       replace H : (if t321 = true then ((zdc.f k2 l0_0 l0_1 l0_2 l1 a2).bind fun t322 => ((zao.f k2 l0_0 l0_1 l0_2 l1 a2).bind fun t325 => ((zaq.f k2 t322 t325).bind fun t328 => (if t328 = true then ((zco.f k2 l0_0 l0_1 l0_2).bind fun t329 => ((zbt.f k2 l0_0 l0_1 l0_2).bind fun t332 => ((zaq.f k2 t329 t332).bind fun t335 => (if t335 = true then ((zbh.f).bind fun t336 => (some t336)) else (some false))))) else (some false))))) else (some false)) = some true := H
       have A71 := zaa.mk A710;clear A710
       by_cases c72 : t321 = true
       ·subst c72
        have H1 : ((zdc.f k2 l0_0 l0_1 l0_2 l1 a2).bind fun t322 => ((zao.f k2 l0_0 l0_1 l0_2 l1 a2).bind fun t325 => ((zaq.f k2 t322 t325).bind fun t328 => (if t328 = true then ((zco.f k2 l0_0 l0_1 l0_2).bind fun t329 => ((zbt.f k2 l0_0 l0_1 l0_2).bind fun t332 => ((zaq.f k2 t329 t332).bind fun t335 => (if t335 = true then ((zbh.f).bind fun t336 => (some t336)) else (some false))))) else (some false))))) = some true := by rw [if_pos rfl] at H; exact H
        clear H;have H := H1;clear H1;replace H := Option.bind_eq_some_iff.mp H
        obtain ⟨t322, A730, H⟩ := H
        replace H : ((zao.f k2 l0_0 l0_1 l0_2 l1 a2).bind fun t325 => ((zaq.f k2 t322 t325).bind fun t328 => (if t328 = true then ((zco.f k2 l0_0 l0_1 l0_2).bind fun t329 => ((zbt.f k2 l0_0 l0_1 l0_2).bind fun t332 => ((zaq.f k2 t329 t332).bind fun t335 => (if t335 = true then ((zbh.f).bind fun t336 => (some t336)) else (some false))))) else (some false)))) = some true := H
        have A73 := zaa.mk A730;clear A730;replace H := Option.bind_eq_some_iff.mp H
        obtain ⟨t325, A740, H⟩ := H
        replace H : ((zaq.f k2 t322 t325).bind fun t328 => (if t328 = true then ((zco.f k2 l0_0 l0_1 l0_2).bind fun t329 => ((zbt.f k2 l0_0 l0_1 l0_2).bind fun t332 => ((zaq.f k2 t329 t332).bind fun t335 => (if t335 = true then ((zbh.f).bind fun t336 => (some t336)) else (some false))))) else (some false))) = some true := H
        have A74 := zaa.mk A740;clear A740;replace H := Option.bind_eq_some_iff.mp H
        obtain ⟨t328, A750, H⟩ := H
        replace H : (if t328 = true then ((zco.f k2 l0_0 l0_1 l0_2).bind fun t329 => ((zbt.f k2 l0_0 l0_1 l0_2).bind fun t332 => ((zaq.f k2 t329 t332).bind fun t335 => (if t335 = true then ((zbh.f).bind fun t336 => (some t336)) else (some false))))) else (some false)) = some true := H
        have A75 := zaa.mk A750;clear A750
        by_cases c76 : t328 = true
        ·subst c76
         have H1 : ((zco.f k2 l0_0 l0_1 l0_2).bind fun t329 => ((zbt.f k2 l0_0 l0_1 l0_2).bind fun t332 => ((zaq.f k2 t329 t332).bind fun t335 => (if t335 = true then ((zbh.f).bind fun t336 => (some t336)) else (some false))))) = some true := by rw [if_pos rfl] at H; exact H
         clear H;have H := H1;clear H1;replace H := Option.bind_eq_some_iff.mp H
         obtain ⟨t329, A770, H⟩ := H
         replace H : ((zbt.f k2 l0_0 l0_1 l0_2).bind fun t332 => ((zaq.f k2 t329 t332).bind fun t335 => (if t335 = true then ((zbh.f).bind fun t336 => (some t336)) else (some false)))) = some true := H
         have A77 := zaa.mk A770;clear A770;replace H := Option.bind_eq_some_iff.mp H
         obtain ⟨t332, A780, H⟩ := H
         replace H : ((zaq.f k2 t329 t332).bind fun t335 => (if t335 = true then ((zbh.f).bind fun t336 => (some t336)) else (some false))) = some true := H
         have A78 := zaa.mk A780;clear A780;replace H := Option.bind_eq_some_iff.mp H
         obtain ⟨t335, A790, H⟩ := H
         replace H : (if t335 = true then ((zbh.f).bind fun t336 => (some t336)) else (some false)) = some true := H
         have A79 := zaa.mk A790;clear A790
         by_cases c80 : t335 = true
         ·subst c80
          have H1 : ((zbh.f).bind fun t336 => (some t336)) = some true := by rw [if_pos rfl] at H; exact H
          clear H;have H := H1;clear H1;replace H := Option.bind_eq_some_iff.mp H
          obtain ⟨t336, A810, H⟩ := H
          replace H : (some t336) = some true := H
          have A81 := zaa.mk A810;clear A810;obtain rfl := Option.some.inj H
          try go_wp2
          replace BK304 := zaa.mk (zah BK304.out)
          replace HB := zaa.mk (zas HB.out)
          refine zbl (n := 29) (S := fun w' => w'.cell? ⟨gb304, 0, none⟩ = some (.slice A0_0 l0_0.length c0_0) ∧ w'.cell? ⟨gb304, 1, none⟩ = some (.slice A0_1 l0_1.length c0_1) ∧ w'.cell? ⟨gb304, 2, none⟩ = some (.slice A0_2 l0_2.length c0_2)) (ds := []) (Ymk 29 0) (by kernel_rfl) rfl rfl ⟨(zab BK304.out 0).trans rfl, (zab BK304.out 1).trans rfl, (zab BK304.out 2).trans rfl⟩ (fun hHeld => ?_); refine zbw zal.tab11 zal.bits11 (fun HT_ HW_ => ?_)
          generalize wr.drew = w82 at BK304 HB hHeld ⊢
          refine Ypt 1 59 29 2 HT_ ?_
          refine Ypt 4 62 29 18 HT_ ?_
          refine Ytt 0 58 29 19 HT_ HW_ hHeld ?_
          refine Ytt 3 61 29 27 HT_ HW_ hHeld ?_
          refine Yot 2 60 29 31 HT_ (fun K hK => ?_)
          refine Ygs Tryz.func20 #[.agg #[.slice A0_0 l0_0.length c0_0, .slice A0_1 l0_1.length c0_1, .slice A0_2 l0_2.length c0_2], .slice A1 l1.length c1] ?_
          with_reducible refine (zdp.calls k2 _ _ l0_0 _ _ l0_1 _ _ l0_2 _ _ l1 t315 _ (Kd.zak HR0_0.out Ybe) HC0_0.out (Kd.zak HR0_1.out Ybe) HC0_1.out (Kd.zak HR0_2.out Ybe) HC0_2.out (Kd.zak HR1.out Ybe) HC1.out A69.out).mono ?_
          rintro e w83 ⟨v316, rfl, ho0, hb⟩
          refine ⟨_, rfl, ?_⟩
          have HO317 := zaa.mk (Kd.zbz ho0 (za8 Yb_PItemTellsx11_0))
          replace BK304 := Ykb BK304 hb
          replace HB := zaa.mk (zay Yb_PItemTellsx11_0 hb)
          (try clear hb)
          (try clear hb2)
          (try clear hk)
          (try clear hi)
          (try clear ho0)
          refine hK.out _ _ ⟨(zab BK304.out 0).trans rfl, (zab BK304.out 1).trans rfl, (zab BK304.out 2).trans rfl⟩ (fun hHeld => ?_)
          clear hK K
          refine Ynw 60 ?_
          refine Yot 5 63 29 63 HT_ (fun K hK => ?_)
          refine Ygs Tryz.func21 #[.agg #[.slice A0_0 l0_0.length c0_0, .slice A0_1 l0_1.length c0_1, .slice A0_2 l0_2.length c0_2], .slice A1 l1.length c1] ?_
          with_reducible refine (zac.calls k2 _ _ l0_0 _ _ l0_1 _ _ l0_2 _ _ l1 t318 _ (Kd.zak HR0_0.out Ybe) HC0_0.out (Kd.zak HR0_1.out Ybe) HC0_1.out (Kd.zak HR0_2.out Ybe) HC0_2.out (Kd.zak HR1.out Ybe) HC1.out A70.out).mono ?_
          rintro e w84 ⟨v319, rfl, ho0, hb⟩
          refine ⟨_, rfl, ?_⟩
          have HO320 := zaa.mk (Kd.zbz (Kd.R_new' ho0 (Kd.R_lt (Yr HO317))) (za8 Yb_PItemTellsx11_0))
          replace HO317 := zaa.mk (Kd.R_elder' (Yr HO317) (Kd.zcj ho0) hb)
          replace BK304 := Ykb BK304 hb
          replace HB := zaa.mk (zay Yb_PItemTellsx11_0 hb)
          (try clear hb)
          (try clear hb2)
          (try clear hk)
          (try clear hi)
          (try clear ho0)
          obtain ⟨Ao85, co85, eo85⟩ := Kd.zbj HO317.out
          (first | subst eo85 | (injection eo85 with f1_ f2_ f3_; have f4_ := f1_.symm; have f5_ := f3_.symm; clear f1_ f2_ f3_; subst f4_; subst f5_))
          obtain ⟨Ao86, co86, eo86⟩ := Kd.zbj HO320.out
          (first | subst eo86 | (injection eo86 with f1_ f2_ f3_; have f4_ := f1_.symm; have f5_ := f3_.symm; clear f1_ f2_ f3_; subst f4_; subst f5_))
          refine hK.out _ _ ⟨(zab BK304.out 0).trans rfl, (zab BK304.out 1).trans rfl, (zab BK304.out 2).trans rfl⟩ (fun hHeld => ?_)
          clear hK K
          refine Ynw 63 ?_
          refine Yot 6 64 29 127 HT_ (fun K hK => ?_)
          refine Ygs Tryz.func19 #[.slice Ao85 t315.length co85, .slice Ao86 t318.length co86] ?_
          with_reducible refine (zaq.calls k2 _ _ t315 _ _ t318 true _ ?side1 ?side2 ?side3 ?side4 A71.out).mono ?_
          (case side1 => repeat (first | exact (Kd.R_reads' HO317.out).2.2 | (with_reducible refine Kd.C_alloc ?_ _) | (with_reducible refine Kd.C_drewN ?_ _) | (with_reducible refine Kd.C_drew ?_)))
          (case side2 => exact (Kd.R_reads' HO317.out).2.1)
          (case side3 => repeat (first | exact (Kd.R_reads' HO320.out).2.2 | (with_reducible refine Kd.C_alloc ?_ _) | (with_reducible refine Kd.C_drewN ?_ _) | (with_reducible refine Kd.C_drew ?_)))
          (case side4 => exact (Kd.R_reads' HO320.out).2.1)
          rintro e w' ⟨rfl, ⟨nd, rfl⟩⟩
          refine ⟨_, rfl, ?_⟩
          refine hK.out _ _ ⟨(zab BK304.out 0).trans rfl, (zab BK304.out 1).trans rfl, (zab BK304.out 2).trans rfl⟩ (fun hHeld => ?_)
          clear hK K
          refine Ynw 64 ?_
          refine Ypt 7 65 29 255 HT_ ?_
          refine Ypt 9 67 29 767 HT_ ?_
          refine Ypt 10 68 29 1791 HT_ ?_
          refine Ypt 13 71 29 9983 HT_ ?_
          refine Ypt 14 72 29 26367 HT_ ?_
          refine Ytt 8 66 29 26623 HT_ HW_ hHeld ?_
          refine Ytt 12 70 29 30719 HT_ HW_ hHeld ?_
          refine Yot 11 69 29 32767 HT_ (fun K hK => ?_)
          refine Ygs Tryz.func14 #[.agg #[.slice A0_0 l0_0.length c0_0, .slice A0_1 l0_1.length c0_1, .slice A0_2 l0_2.length c0_2], .slice A1 l1.length c1, .int .i64 a2] ?_
          with_reducible refine (zdc.calls k2 _ _ l0_0 _ _ l0_1 _ _ l0_2 _ _ l1 a2 t322 _ (Kd.zak HR0_0.out Yb_PItemTellsx11_0) HC0_0.out (Kd.zak HR0_1.out Yb_PItemTellsx11_0) HC0_1.out (Kd.zak HR0_2.out Yb_PItemTellsx11_0) HC0_2.out (Kd.zak HR1.out Yb_PItemTellsx11_0) HC1.out A73.out).mono ?_
          rintro e w87 ⟨v323, rfl, ho0, hb⟩
          refine ⟨_, rfl, ?_⟩
          have HO324 := zaa.mk (Kd.zbz (Kd.R_new' (Kd.R_new' ho0 (Kd.R_lt (Yr HO317))) (Kd.R_lt (Yr HO320))) (za8 Yb_PItemTellsx11_0))
          replace HO317 := zaa.mk (Kd.R_elder' (Yr HO317) (Kd.zcj ho0) hb)
          replace HO320 := zaa.mk (Kd.R_elder' (Yr HO320) (Kd.zcj ho0) hb)
          replace BK304 := Ykb BK304 hb
          replace HB := zaa.mk (zay Yb_PItemTellsx11_0 hb)
          (try clear hb)
          (try clear hb2)
          (try clear hk)
          (try clear hi)
          (try clear ho0)
          refine hK.out _ _ ⟨(zab BK304.out 0).trans rfl, (zab BK304.out 1).trans rfl, (zab BK304.out 2).trans rfl⟩ (fun hHeld => ?_)
          clear hK K
          refine Ynw 69 ?_
          refine Yot 15 73 29 65535 HT_ (fun K hK => ?_)
          refine Ygs Tryz.func22 #[.agg #[.slice A0_0 l0_0.length c0_0, .slice A0_1 l0_1.length c0_1, .slice A0_2 l0_2.length c0_2], .slice A1 l1.length c1, .int .i64 a2] ?_
          with_reducible refine (zao.calls k2 _ _ l0_0 _ _ l0_1 _ _ l0_2 _ _ l1 a2 t325 _ (Kd.zak HR0_0.out Ybe) HC0_0.out (Kd.zak HR0_1.out Ybe) HC0_1.out (Kd.zak HR0_2.out Ybe) HC0_2.out (Kd.zak HR1.out Ybe) HC1.out A74.out).mono ?_
          rintro e w88 ⟨v326, rfl, ho0, hb⟩
          refine ⟨_, rfl, ?_⟩
          have HO327 := zaa.mk (Kd.zbz (Kd.R_new' (Kd.R_new' (Kd.R_new' ho0 (Kd.R_lt (Yr HO317))) (Kd.R_lt (Yr HO320))) (Kd.R_lt (Yr HO324))) (za8 Yb_PItemTellsx11_0))
          replace HO317 := zaa.mk (Kd.R_elder' (Yr HO317) (Kd.zcj ho0) hb)
          replace HO320 := zaa.mk (Kd.R_elder' (Yr HO320) (Kd.zcj ho0) hb)
          replace HO324 := zaa.mk (Kd.R_elder' (Yr HO324) (Kd.zcj ho0) hb)
          replace BK304 := Ykb BK304 hb
          replace HB := zaa.mk (zay Yb_PItemTellsx11_0 hb)
          (try clear hb)
          (try clear hb2)
          (try clear hk)
          (try clear hi)
          (try clear ho0)
          obtain ⟨Ao89, co89, eo89⟩ := Kd.zbj HO324.out
          (first | subst eo89 | (injection eo89 with f1_ f2_ f3_; have f4_ := f1_.symm; have f5_ := f3_.symm; clear f1_ f2_ f3_; subst f4_; subst f5_))
          obtain ⟨Ao90, co90, eo90⟩ := Kd.zbj HO327.out
          (first | subst eo90 | (injection eo90 with f1_ f2_ f3_; have f4_ := f1_.symm; have f5_ := f3_.symm; clear f1_ f2_ f3_; subst f4_; subst f5_))
          refine hK.out _ _ ⟨(zab BK304.out 0).trans rfl, (zab BK304.out 1).trans rfl, (zab BK304.out 2).trans rfl⟩ (fun hHeld => ?_)
          clear hK K
          refine Ynw 73 ?_
          refine Yot 16 74 29 131071 HT_ (fun K hK => ?_)
          refine Ygs Tryz.func19 #[.slice Ao89 t322.length co89, .slice Ao90 t325.length co90] ?_
          with_reducible refine (zaq.calls k2 _ _ t322 _ _ t325 true _ ?side1 ?side2 ?side3 ?side4 A75.out).mono ?_
          (case side1 => repeat (first | exact (Kd.R_reads' HO324.out).2.2 | (with_reducible refine Kd.C_alloc ?_ _) | (with_reducible refine Kd.C_drewN ?_ _) | (with_reducible refine Kd.C_drew ?_)))
          (case side2 => exact (Kd.R_reads' HO324.out).2.1)
          (case side3 => repeat (first | exact (Kd.R_reads' HO327.out).2.2 | (with_reducible refine Kd.C_alloc ?_ _) | (with_reducible refine Kd.C_drewN ?_ _) | (with_reducible refine Kd.C_drew ?_)))
          (case side4 => exact (Kd.R_reads' HO327.out).2.1)
          rintro e w' ⟨rfl, ⟨nd, rfl⟩⟩
          refine ⟨_, rfl, ?_⟩
          refine hK.out _ _ ⟨(zab BK304.out 0).trans rfl, (zab BK304.out 1).trans rfl, (zab BK304.out 2).trans rfl⟩ (fun hHeld => ?_)
          clear hK K
          refine Ynw 74 ?_
          refine Ypt 17 75 29 262143 HT_ ?_
          refine Ypt 18 76 29 524287 HT_ ?_
          refine Ytt 19 77 29 1048575 HT_ HW_ hHeld ?_
          refine Ytt 21 79 29 3145727 HT_ HW_ hHeld ?_
          refine Yot 20 78 29 4194303 HT_ (fun K hK => ?_)
          refine Ygs Tryz.func13 #[.agg #[.slice A0_0 l0_0.length c0_0, .slice A0_1 l0_1.length c0_1, .slice A0_2 l0_2.length c0_2]] ?_
          with_reducible refine (zco.calls k2 _ _ l0_0 _ _ l0_1 _ _ l0_2 t329 _ (Kd.zak HR0_0.out Yb_PItemTellsx11_0) HC0_0.out (Kd.zak HR0_1.out Yb_PItemTellsx11_0) HC0_1.out (Kd.zak HR0_2.out Yb_PItemTellsx11_0) HC0_2.out A77.out).mono ?_
          rintro e w91 ⟨v330, rfl, ho0, hb⟩
          refine ⟨_, rfl, ?_⟩
          have HO331 := zaa.mk (Kd.zbz (Kd.R_new' (Kd.R_new' (Kd.R_new' (Kd.R_new' ho0 (Kd.R_lt (Yr HO317))) (Kd.R_lt (Yr HO320))) (Kd.R_lt (Yr HO324))) (Kd.R_lt (Yr HO327))) (za8 Yb_PItemTellsx11_0))
          replace HO317 := zaa.mk (Kd.R_elder' (Yr HO317) (Kd.zcj ho0) hb)
          replace HO320 := zaa.mk (Kd.R_elder' (Yr HO320) (Kd.zcj ho0) hb)
          replace HO324 := zaa.mk (Kd.R_elder' (Yr HO324) (Kd.zcj ho0) hb)
          replace HO327 := zaa.mk (Kd.R_elder' (Yr HO327) (Kd.zcj ho0) hb)
          replace BK304 := Ykb BK304 hb
          replace HB := zaa.mk (zay Yb_PItemTellsx11_0 hb)
          (try clear hb)
          (try clear hb2)
          (try clear hk)
          (try clear hi)
          (try clear ho0)
          refine hK.out _ _ ⟨(zab BK304.out 0).trans rfl, (zab BK304.out 1).trans rfl, (zab BK304.out 2).trans rfl⟩ (fun hHeld => ?_)
          clear hK K
          refine Ynw 78 ?_
          refine Yot 22 80 29 8388607 HT_ (fun K hK => ?_)
          refine Ygs Tryz.func23 #[.agg #[.slice A0_0 l0_0.length c0_0, .slice A0_1 l0_1.length c0_1, .slice A0_2 l0_2.length c0_2]] ?_
          with_reducible refine (zbt.calls k2 _ _ l0_0 _ _ l0_1 _ _ l0_2 t332 _ (Kd.zak HR0_0.out Ybe) HC0_0.out (Kd.zak HR0_1.out Ybe) HC0_1.out (Kd.zak HR0_2.out Ybe) HC0_2.out A78.out).mono ?_
          rintro e w92 ⟨v333, rfl, ho0, hb⟩
          refine ⟨_, rfl, ?_⟩
          have HO334 := zaa.mk (Kd.zbz (Kd.R_new' (Kd.R_new' (Kd.R_new' (Kd.R_new' (Kd.R_new' ho0 (Kd.R_lt (Yr HO317))) (Kd.R_lt (Yr HO320))) (Kd.R_lt (Yr HO324))) (Kd.R_lt (Yr HO327))) (Kd.R_lt (Yr HO331))) (za8 Yb_PItemTellsx11_0))
          replace HO317 := zaa.mk (Kd.R_elder' (Yr HO317) (Kd.zcj ho0) hb)
          replace HO320 := zaa.mk (Kd.R_elder' (Yr HO320) (Kd.zcj ho0) hb)
          replace HO324 := zaa.mk (Kd.R_elder' (Yr HO324) (Kd.zcj ho0) hb)
          replace HO327 := zaa.mk (Kd.R_elder' (Yr HO327) (Kd.zcj ho0) hb)
          replace HO331 := zaa.mk (Kd.R_elder' (Yr HO331) (Kd.zcj ho0) hb)
          replace BK304 := Ykb BK304 hb
          replace HB := zaa.mk (zay Yb_PItemTellsx11_0 hb)
          (try clear hb)
          (try clear hb2)
          (try clear hk)
          (try clear hi)
          (try clear ho0)
          obtain ⟨Ao93, co93, eo93⟩ := Kd.zbj HO331.out
          (first | subst eo93 | (injection eo93 with f1_ f2_ f3_; have f4_ := f1_.symm; have f5_ := f3_.symm; clear f1_ f2_ f3_; subst f4_; subst f5_))
          obtain ⟨Ao94, co94, eo94⟩ := Kd.zbj HO334.out
          (first | subst eo94 | (injection eo94 with f1_ f2_ f3_; have f4_ := f1_.symm; have f5_ := f3_.symm; clear f1_ f2_ f3_; subst f4_; subst f5_))
          refine hK.out _ _ ⟨(zab BK304.out 0).trans rfl, (zab BK304.out 1).trans rfl, (zab BK304.out 2).trans rfl⟩ (fun hHeld => ?_)
          clear hK K
          refine Ynw 80 ?_
          refine Yot 23 81 29 16777215 HT_ (fun K hK => ?_)
          refine Ygs Tryz.func19 #[.slice Ao93 t329.length co93, .slice Ao94 t332.length co94] ?_
          with_reducible refine (zaq.calls k2 _ _ t329 _ _ t332 true _ ?side1 ?side2 ?side3 ?side4 A79.out).mono ?_
          (case side1 => repeat (first | exact (Kd.R_reads' HO331.out).2.2 | (with_reducible refine Kd.C_alloc ?_ _) | (with_reducible refine Kd.C_drewN ?_ _) | (with_reducible refine Kd.C_drew ?_)))
          (case side2 => exact (Kd.R_reads' HO331.out).2.1)
          (case side3 => repeat (first | exact (Kd.R_reads' HO334.out).2.2 | (with_reducible refine Kd.C_alloc ?_ _) | (with_reducible refine Kd.C_drewN ?_ _) | (with_reducible refine Kd.C_drew ?_)))
          (case side4 => exact (Kd.R_reads' HO334.out).2.1)
          rintro e w' ⟨rfl, ⟨nd, rfl⟩⟩
          refine ⟨_, rfl, ?_⟩
          refine hK.out _ _ ⟨(zab BK304.out 0).trans rfl, (zab BK304.out 1).trans rfl, (zab BK304.out 2).trans rfl⟩ (fun hHeld => ?_)
          clear hK K
          refine Ynw 81 ?_
          refine Ypt 24 82 29 33554431 HT_ ?_
          refine Ypt 25 83 29 67108863 HT_ ?_
          refine Yot 26 84 29 134217727 HT_ (fun K hK => ?_)
          refine Ygs Tryz.func7 #[] ?_
          with_reducible refine (zbh.calls  true _ A81.out).mono ?_
          rintro e w95 ⟨rfl, hb⟩
          refine ⟨_, rfl, ?_⟩
          replace HO317 := zaa.mk (Kd.zbc (Yr HO317) hb)
          replace HO320 := zaa.mk (Kd.zbc (Yr HO320) hb)
          replace HO324 := zaa.mk (Kd.zbc (Yr HO324) hb)
          replace HO327 := zaa.mk (Kd.zbc (Yr HO327) hb)
          replace HO331 := zaa.mk (Kd.zbc (Yr HO331) hb)
          replace HO334 := zaa.mk (Kd.zbc (Yr HO334) hb)
          replace BK304 := Ykb BK304 hb
          replace HB := zaa.mk (zay Yb_PItemTellsx11_0 hb)
          (try clear hb)
          (try clear hb2)
          (try clear hk)
          (try clear hi)
          refine hK.out _ _ ⟨(zab BK304.out 0).trans rfl, (zab BK304.out 1).trans rfl, (zab BK304.out 2).trans rfl⟩ (fun hHeld => ?_)
          clear hK K
          refine Ynw 84 ?_
          refine Ypt 27 85 29 268435455 HT_ ?_
          refine Ypt 28 6 29 536870911 HT_ ?_
          refine zbq (zb4 HT_.out (by kernel_rfl)) ?_
          try go_wp2
          go_ret
          exact ⟨Yfi, Yb_PItemTellsx11_0⟩
         ·replace c80 := Bool.eq_false_iff.mpr c80
          subst c80
          have H1 : (some false) = some true := by rw [if_neg (show ¬ (false = true) by decide)] at H; exact H
          clear H;have H := H1;clear H1
          cases Option.some.inj H
        ·replace c76 := Bool.eq_false_iff.mpr c76
         subst c76
         have H1 : (some false) = some true := by rw [if_neg (show ¬ (false = true) by decide)] at H; exact H
         clear H;have H := H1;clear H1
         cases Option.some.inj H
       ·replace c72 := Bool.eq_false_iff.mpr c72
        subst c72
        have H1 : (some false) = some true := by rw [if_neg (show ¬ (false = true) by decide)] at H; exact H
        clear H;have H := H1;clear H1
        cases Option.some.inj H
end Go.Proofs.ZZ.PItemTells
end
section
namespace Go.Proofs.ZZ.PItemTells
open Go.RowKit Go.Proofs.ZW.PrintWords Go.Proofs.ZW.PrintLast
def ok44 (s : S44) : Prop := ((Lit.int .i64 s.f0).wf = true) ∧ (s.f1.size ≤ 140737488351232) ∧ (s.f2.size ≤ 140737488351232)
def ok42 (s : S42) : Prop := ((Lit.int .i64 s.f0).wf = true) ∧ (s.f1.length * 40 ≤ 140737488351232 ∧ ∀ y ∈ s.f1, ok44 y) ∧ ((Lit.int .i64 s.f2).wf = true)
def ok25 (s : S25) : Prop := (s.f0.length * 16 ≤ 140737488351232 ∧ ∀ y ∈ s.f0, (y.size ≤ 140737488351232)) ∧ (s.f1.length * 16 ≤ 140737488351232 ∧ ∀ y ∈ s.f1, (y.size ≤ 140737488351232)) ∧ (s.f2.length * 40 ≤ 140737488351232 ∧ ∀ y ∈ s.f2, ok42 y)
def ok50 (s : S50) : Prop := ((Lit.int .i64 s.f0).wf = true) ∧ ((Lit.int .i64 s.f1).wf = true) ∧ ((Lit.int .i64 s.f2).wf = true)
def zal.Pure : Prop := ∀ (s0 : S25) (l1 : List (S50)) (a2 : Int), ok25 s0 → (l1.length * 24 ≤ 140737488351232 ∧ ∀ y ∈ l1, ok50 y) → ((Lit.int .i64 a2).wf = true) → ∃ k, zal.f k s0.f0 s0.f1 s0.f2 l1 a2 = some true
end Go.Proofs.ZZ.PItemTells
end
section
namespace Go.Proofs.ZZ.LReach
open Go Go.RowKit Go.Proofs.ZW.PrintWords Go.Proofs.ZZ.Fl Go.Proofs.ZZ.Deri Go.Proofs.ZZ.LrK Go.Proofs.ZZ.LLex Go.Proofs.ZZ.LFlat Go.Proofs.ZZ.LLooks Go.Proofs.ZZ.LClos Go.Proofs.ZZ.LStep Go.Proofs.ZZ.LAll
variable {n0 : Nat} {ps : List P} {em : List Bool} {Ss : List (List Int)}
def nxtV (n0 : Nat) (ps : List P) (em : List Bool) (Ss : List (List Int)) (x : Lr) : List Lr :=
 match zbx n0 ps x with
 | none => []
 | some s => if s < n0 then [] else zdw ps s (zda em Ss x.2.2 ((za1 n0 ps x.1).drop (x.2.1.toNat + 1)))
theorem push_eq (S : List Lr) (x : Lr) : pushV n0 ps em Ss S x = if newV n0 ps S x = true then nxtV n0 ps em Ss x else [] := rfl
theorem zgd {α : Type} [DecidableEq α] : ∀ (S F : List α), S.Nodup → (∀ x ∈ S, x ∈ F) → S.length ≤ F.length
 | [], _, _, _ => Nat.zero_le _
 | a :: t, F, h, hs => by
  obtain ⟨h1, h2⟩ := List.nodup_cons.1 h
  have ha := hs a (by simp)
  have := zgd t (F.erase a) h2 (fun x hx => (List.mem_erase_of_ne (fun e => h1 (by subst e; exact hx))).2 (hs x (by simp [hx])))
  rw [List.length_erase_of_mem ha] at this
  have := List.length_pos_of_mem ha
  rw [List.length_cons]
  omega
def boxV (a b c : Nat) : List Lr := (List.range a).flatMap fun (i : Nat) => (List.range b).flatMap fun (j : Nat) => (List.range c).map fun (k : Nat) => ((i : Int) - 1, (j : Int), (k : Int))
theorem zel {α β : Type} (f : α → List β) (n : Nat) : ∀ l : List α, (∀ x ∈ l, (f x).length = n) → (l.flatMap f).length = l.length * n
 | [], _ => by simp
 | x :: t, h => by rw [List.flatMap_cons, List.length_append, h x (by simp), zel f n t (fun y hy => h y (by simp [hy])), List.length_cons, Nat.add_mul, Nat.one_mul]; omega
theorem zg1 (a b c : Nat) : (boxV a b c).length = a * (b * c) := by
 unfold boxV
 rw [zel _ (b * c), List.length_range]
 intro i _
 rw [zel _ c, List.length_range]
 intro j _
 simp
theorem zey {B : Nat} (hB : 1 ≤ B) (hps : ∀ p ∈ ps, p.2.1.length ≤ B) (i : Int) : (za1 n0 ps i).length ≤ B := by
 unfold za1
 split
 ·simpa using hB
 ·rw [List.getD_eq_getElem?_getD]
  cases e : ps[i.toNat]? with
  | none => exact Nat.zero_le _
  | some p => exact hps p (List.mem_of_getElem? e)
theorem zh7 {B : Nat} (hB : 1 ≤ B) (hps : ∀ p ∈ ps, p.2.1.length ≤ B) {x : Lr} (h : fitV n0 ps x = true) : x ∈ boxV (ps.length + 1) (B + 1) (n0 + 1) := by
 obtain ⟨h1, h2, h3, h4, h5, h6⟩ := zc4.1 h
 have := zey (n0 := n0) hB hps x.1
 simp only [boxV, List.mem_flatMap, List.mem_map, List.mem_range]
 refine ⟨(x.1 + 1).toNat, by omega, x.2.1.toNat, by omega, x.2.2.toNat, by omega, ?_⟩
 obtain ⟨a, b, c⟩ := x
 simp only at h1 h3 h5 ⊢
 rw [show ((a + 1).toNat : Int) - 1 = a by omega, show ((b.toNat : Nat) : Int) = b by omega, show ((c.toNat : Nat) : Int) = c by omega]
theorem looks_len {L : Nat} (hL : ∀ i, (Ss.getD i []).length ≤ L) (lk : Int) : ∀ l : List I, (zda em Ss lk l).length ≤ l.length * L + 1
 | [] => by simp [zda]
 | i :: t => by
  have h1 := hL i.1.toNat
  have h2 := looks_len hL lk t
  simp only [zda, List.length_append, List.length_cons, Nat.add_mul, Nat.one_mul]
  split
  ·omega
  ·rw [List.length_nil]; omega
theorem zg6 (s : Int) : ∀ (i : Nat) (l : List P), (ofF s i l).length ≤ l.length
 | _, [] => by simp [ofF]
 | i, p :: t => by
  have := zg6 s (i + 1) t
  unfold ofF
  split <;> simp <;> omega
theorem nxt_len {B L : Nat} (hB : 1 ≤ B) (hps : ∀ p ∈ ps, p.2.1.length ≤ B) (hL : ∀ i, (Ss.getD i []).length ≤ L) (x : Lr) : (nxtV n0 ps em Ss x).length ≤ (B * L + 1) * ps.length := by
 unfold nxtV
 split
 ·exact Nat.zero_le _
 ·split
  ·exact Nat.zero_le _
  ·rename_i s _ _
   unfold zdw
   rw [zel _ (ofV ps s).length _ (fun t _ => List.length_map _)]
   refine Nat.mul_le_mul ?_ (zg6 s 0 ps)
   refine Nat.le_trans (looks_len hL _ _) (Nat.add_le_add_right (Nat.mul_le_mul_right _ ?_) 1)
   have := zey (n0 := n0) hB hps x.1
   rw [List.length_drop]
   omega
theorem zjl {S : List Lr} (h : S.Nodup) (x : Lr) : (putS n0 ps S x).Nodup := by
 unfold putS
 split
 ·rename_i c
  simp only [newV, Bool.and_eq_true, Bool.not_eq_true', decide_eq_false_iff_not] at c
  exact List.nodup_append.2 ⟨h, by simp, fun a ha b hb => by rw [List.mem_singleton] at hb; subst hb; exact fun e => c.1 (e ▸ ha)⟩
 ·exact h
theorem putS_fit {S : List Lr} (h : ∀ y ∈ S, fitV n0 ps y = true) (x : Lr) : ∀ y ∈ putS n0 ps S x, fitV n0 ps y = true := by
 unfold putS
 split
 ·rename_i c
  simp only [newV, Bool.and_eq_true] at c
  intro y hy
  rcases List.mem_append.1 hy with hy | hy
  ·exact h y hy
  ·rw [List.mem_singleton] at hy; subst hy; exact c.2
 ·exact h
theorem zht {B C : Nat} (hB : 1 ≤ B) (hps : ∀ p ∈ ps, p.2.1.length ≤ B) (hC : ∀ x, (nxtV n0 ps em Ss x).length ≤ C) : ∀ (d : Nat) (S T : List Lr), S.Nodup → (∀ x ∈ S, fitV n0 ps x = true) →
  ((boxV (ps.length + 1) (B + 1) (n0 + 1)).length - S.length) * (C + 1) + T.length < d → ((boxV (ps.length + 1) (B + 1) (n0 + 1)).length - S.length) * (C + 1) + (T.length + S.length) ≤ 1000000000 → ∃ r, zb1 n0 ps em Ss d S T = some r
 | 0, _, _, _, _, h, _ => absurd h (Nat.not_lt_zero _)
 | d + 1, S, T, hn, hf, hd, hm => by
  have hb := zgd S _ hn (fun x hx => zh7 hB hps (hf x hx))
  rcases snoc T with rfl | ⟨T0, x, rfl⟩
  ·exact ⟨S, by simp only [zb1]; rw [if_pos (by simp at hm ⊢; omega)]; rfl⟩
  ·have e : zb1 n0 ps em Ss (d + 1) S (T0 ++ [x]) = zb1 n0 ps em Ss d (putS n0 ps S x) (T0 ++ pushV n0 ps em Ss S x) := by
    rw [zb1, if_pos (by omega)]
    simp only [List.getLast?_concat, List.dropLast_concat]
   rw [e]
   have hn' := zjl (n0 := n0) (ps := ps) hn x
   have hf' := putS_fit hf x
   have hb' := zgd _ _ hn' (fun x hx => zh7 hB hps (hf' x hx))
   have hx := hC x
   refine zht hB hps hC d _ _ hn' hf' ?_ ?_ <;> generalize (boxV (ps.length + 1) (B + 1) (n0 + 1)).length = b at * <;> rw [push_eq] <;> unfold putS at hb' ⊢ <;> rw [List.length_append, List.length_singleton] at hd hm <;> split
   ·rename_i c
    rw [if_pos c, List.length_append, List.length_singleton] at hb'
    obtain ⟨m, hm'⟩ : ∃ m, b - S.length = m + 1 := ⟨b - S.length - 1, by omega⟩
    rw [hm', Nat.add_mul, Nat.one_mul] at hd
    rw [List.length_append, List.length_singleton, List.length_append, show b - (S.length + 1) = m by omega]
    generalize m * (C + 1) = q at *
    omega
   ·simp only [List.append_nil]
    omega
   ·rename_i c
    rw [if_pos c, List.length_append, List.length_singleton] at hb'
    obtain ⟨m, hm'⟩ : ∃ m, b - S.length = m + 1 := ⟨b - S.length - 1, by omega⟩
    rw [hm', Nat.add_mul, Nat.one_mul] at hm
    rw [List.length_append, List.length_append, List.length_singleton, show b - (S.length + 1) = m by omega]
    generalize m * (C + 1) = q at *
    omega
   ·simp only [List.append_nil]
    omega
inductive Rch (n0 : Nat) (ps : List P) (em : List Bool) (Ss : List (List Int)) (T : List Lr) : Lr → Prop
 | base (x : Lr) : x ∈ T → fitV n0 ps x = true → Rch n0 ps em Ss T x
 | step (x y : Lr) : Rch n0 ps em Ss T x → y ∈ nxtV n0 ps em Ss x → fitV n0 ps y = true → Rch n0 ps em Ss T y
theorem Rch.fit {T : List Lr} {x : Lr} (h : Rch n0 ps em Ss T x) : fitV n0 ps x = true := by
 cases h with
 | base _ _ h => exact h
 | step _ _ _ _ h => exact h
theorem ze7 {S : List Lr} {x y : Lr} : y ∈ putS n0 ps S x ↔ y ∈ S ∨ (y = x ∧ fitV n0 ps x = true) := by
 unfold putS
 split
 ·rename_i c
  simp only [newV, Bool.and_eq_true, Bool.not_eq_true', decide_eq_false_iff_not] at c
  rw [List.mem_append, List.mem_singleton]
  exact ⟨fun h => h.imp id fun h => ⟨h, c.2⟩, fun h => h.imp id (·.1)⟩
 ·rename_i c
  refine ⟨.inl, fun h => h.elim id fun ⟨h1, h2⟩ => ?_⟩
  subst h1
  simp only [newV, Bool.and_eq_true, Bool.not_eq_true', decide_eq_false_iff_not] at c
  exact Decidable.not_not.1 fun g => c ⟨g, h2⟩
theorem clos_spec : ∀ (k : Nat) (S T r : List Lr), zb1 n0 ps em Ss k S T = some r → S.Nodup → (∀ x ∈ S, ∀ y ∈ nxtV n0 ps em Ss x, fitV n0 ps y = true → y ∈ S ∨ y ∈ T) →
  r.Nodup ∧ (∀ x ∈ S, x ∈ r) ∧ (∀ x ∈ T, fitV n0 ps x = true → x ∈ r) ∧ (∀ x ∈ r, ∀ y ∈ nxtV n0 ps em Ss x, fitV n0 ps y = true → y ∈ r) ∧
  (∀ Q : Lr → Prop, (∀ x ∈ S, Q x) → (∀ x ∈ T, fitV n0 ps x = true → Q x) → (∀ x y, Q x → y ∈ nxtV n0 ps em Ss x → fitV n0 ps y = true → Q y) → ∀ x ∈ r, Q x)
 | k, S, T, r, h, hn, hc => by
  rcases snoc T with rfl | ⟨T0, x, rfl⟩
  ·obtain ⟨rfl, _⟩ := zfh h
   exact ⟨hn, fun x hx => hx, fun x hx => (nomatch hx), fun x hx y hy hf => (hc x hx y hy hf).elim id (fun h => nomatch h), fun Q h1 _ _ => h1⟩
  ·obtain ⟨m, rfl, _, h'⟩ := zev h
   have hc' : ∀ z ∈ putS n0 ps S x, ∀ y ∈ nxtV n0 ps em Ss z, fitV n0 ps y = true → y ∈ putS n0 ps S x ∨ y ∈ T0 ++ pushV n0 ps em Ss S x := by
    intro z hz y hy hf
    by_cases hzS : z ∈ S
    ·rcases hc z hzS y hy hf with g | g
     ·exact .inl (ze7.2 (.inl g))
     ·rcases List.mem_append.1 g with g | g
      ·exact .inr (List.mem_append.2 (.inl g))
      ·rw [List.mem_singleton] at g
       subst g
       exact .inl (ze7.2 (.inr ⟨rfl, hf⟩))
    ·rcases ze7.1 hz with g | ⟨g, g2⟩
     ·exact absurd g hzS
     ·subst g
      refine .inr (List.mem_append.2 (.inr ?_))
      rw [push_eq, if_pos (by simp only [newV, Bool.and_eq_true, Bool.not_eq_true', decide_eq_false_iff_not]; exact ⟨hzS, g2⟩)]
      exact hy
   obtain ⟨q1, q2, q3, q4, q5⟩ := clos_spec m _ _ r h' (zjl hn x) hc'
   refine ⟨q1, fun y hy => q2 y (ze7.2 (.inl hy)), fun y hy hf => ?_, q4, fun Q h1 h2 h3 => q5 Q ?_ ?_ h3⟩
   ·rcases List.mem_append.1 hy with hy | hy
    ·exact q3 y (List.mem_append.2 (.inl hy)) hf
    ·rw [List.mem_singleton] at hy
     subst hy
     exact q2 y (ze7.2 (.inr ⟨rfl, hf⟩))
   ·intro y hy
    rcases ze7.1 hy with g | ⟨rfl, g⟩
    ·exact h1 y g
    ·exact h2 y (by simp) g
   ·intro y hy hf
    rcases List.mem_append.1 hy with hy | hy
    ·exact h2 y (by simp [hy]) hf
    ·rw [push_eq] at hy
     split at hy
     ·rename_i c
      simp only [newV, Bool.and_eq_true] at c
      exact h3 x y (h2 x (by simp) c.2) hy hf
     ·exact nomatch hy
def zea (n0 : Nat) (ps : List P) (em : List Bool) (Ss : List (List Int)) (T c : List Lr) : Prop := zdb c ∧ ∀ x, x ∈ c ↔ Rch n0 ps em Ss T x
theorem zf6 {k : Nat} {T r : List Lr} (h : zb1 n0 ps em Ss k [] T = some r) : zea n0 ps em Ss T (srtL r) := by
 obtain ⟨q1, _, q3, q4, q5⟩ := clos_spec k [] T r h List.nodup_nil (fun _ hx => nomatch hx)
 refine ⟨zho q1, fun x => ?_⟩
 rw [zfa]
 constructor
 ·exact q5 (Rch n0 ps em Ss T) (fun _ hx => nomatch hx) (fun x hx hf => .base x hx hf) (fun x y hx hy hf => .step x y hx hy hf) x
 ·intro hx
  induction hx with
  | base x h1 h2 => exact q3 x h1 h2
  | step x y _ h2 h3 ih => exact q4 x ih y h2 h3
theorem zea.one {T U c d : List Lr} (h1 : zea n0 ps em Ss T c) (h2 : zea n0 ps em Ss U d) (h : ∀ x, Rch n0 ps em Ss T x ↔ Rch n0 ps em Ss U x) : c = d :=
 zhm h1.1 h2.1 fun x => by rw [h1.2, h2.2, h]
theorem zis {c : List Lr} (h : zdb c) : c.Nodup := List.Pairwise.imp (fun {a b} h e => by subst e; exact zdh _ h) h
theorem zea.len {B : Nat} (hB : 1 ≤ B) (hps : ∀ p ∈ ps, p.2.1.length ≤ B) {T c : List Lr} (h : zea n0 ps em Ss T c) : c.length ≤ (ps.length + 1) * ((B + 1) * (n0 + 1)) := by
 have := zgd c _ (zis h.1) (fun x hx => zh7 hB hps ((h.2 x).1 hx).fit)
 rwa [zg1] at this
end Go.Proofs.ZZ.LReach
end
namespace Go.Proofs.ZZ.LSets
end Go.Proofs.ZZ.LSets
