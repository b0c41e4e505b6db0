import Derived.Test.YtkfjhkkbbcpjjaaPackGssPushes4
set_option linter.unusedVariables false
set_option linter.unusedSimpArgs false
set_option maxRecDepth 100000
set_option maxHeartbeats 8000000
section
namespace Go.Proofs.ZZ.PGssPushes
open Go.RowKit Go.Proofs.ZW.PrintWords Go.Proofs.ZW.PrintLast Go.Proofs.ZW.PrintMore
attribute [local go_sem] zch zct
theorem Yb_PGssPushesx6_0 {n : Nat} {w w' : World} (h : Below n w w' := by repeat (first | (with_reducible first | exact HB.out | apply za8 | apply za2 | apply zav | refine zau ?_ GE182.out) | exact HB.out)) : Below n w w' := h
theorem Yb_PGssPushesx6_1 {n : Nat} {w w' : World} (h : Below n w w' := by repeat (first | (with_reducible first | exact HB.out | apply za8 | apply za2 | apply zav | refine zau ?_ GE182.out | refine zau ?_ GE183.out) | exact HB.out)) : Below n w w' := h
theorem Yb_PGssPushesx6_2 {n : Nat} {w w' : World} (h : Below n w w' := by repeat (first | (with_reducible first | exact HB.out | apply za8 | apply za2 | apply zav | refine zau ?_ GE182.out | refine zau ?_ GE183.out | refine zau ?_ GE188.out) | exact HB.out)) : Below n w w' := h
mutual
def zaq.j0 : Nat → Int → Int → Int → Bool → List (S38) → Option ((List (S38)) × Int × Bool)
 | 0, _, _, _, _, _ => none
 | k + 1, x1, x2, x3, x45, x183000 => if x45 = true then (some (x183000, (-1), false)) else (if 0 ≤ x1 then (if x1 < (x183000.length : Int) then ((zaw.f k x183000 x2 x3).bind fun t189 => (if t189 < 0 then (zaq.j1 k x2 x3 (decide (t189 < 0)) (decide ((x183000.length : Int) ≥ 4096)) x183000 ((zaa x183000 x1).f0) ((zaa x183000 x1).f1) ((zaa x183000 x1).f2)) else (zaq.j1 k x2 x3 (decide (t189 < 0)) false x183000 ((zaa x183000 x1).f0) ((zaa x183000 x1).f1) ((zaa x183000 x1).f2)))) else (none)) else (none))
def zaq.j1 : Nat → Int → Int → Bool → Bool → List (S38) → Int → Int → List Int → Option ((List (S38)) × Int × Bool)
 | 0, _, _, _, _, _, _, _, _ => none
 | k + 1, x2, x3, x12, x63, x183000, x189000, x189001, x189002 => if x63 = true then (some (x183000, (-1), false)) else (if x12 = true then ((zal.f k x183000 x2 x3 ([] : List Int)).bind fun t190 => (zaq.j2 k x2 x3 x12 t190 x189000 x189001 x189002)) else (zaq.j2 k x2 x3 x12 x183000 x189000 x189001 x189002))
def zaq.j2 : Nat → Int → Int → Bool → List (S38) → Int → Int → List Int → Option ((List (S38)) × Int × Bool)
 | 0, _, _, _, _, _, _, _ => none
 | k + 1, x2, x3, x12, x183000, x189000, x189001, x189002 => (zaw.f k x183000 x2 x3).bind fun t193 => ((zaw.f k x183000 x189000 x189001).bind fun t194 => (if 0 ≤ t193 then (if t193 < (x183000.length : Int) then ((zbg.f k ((zaa x183000 t193).f2) t194).bind fun t196 => (if (t196.length : Int) > (((zaa x183000 t193).f2).length : Int) then (if ([] : List (S38)).length + x183000.length < 3518437208883 then ((some (([] : List (S38)) ++ x183000 : List (S38))).bind fun y200 => (if t193 < (y200.length : Int) then (some ((y200.set (t193 : Int).toNat (⟨(zaa y200 t193).f0, (zaa y200 t193).f1, t196⟩ : S38)), t193, true)) else (none))) else (none)) else (some (x183000, t193, x12)))) else (none)) else (none)))
end
def zaq.f (k : Nat) (l0_0 : List (S38)) (a1 : Int) (a2 : Int) (a3 : Int) : Option ((List (S38)) × Int × Bool) := if a1 < 0 then (zaq.j0 k a1 a2 a3 true l0_0) else (if a1 ≥ (l0_0.length : Int) then (zaq.j0 k a1 a2 a3 true l0_0) else (if 0 ≤ a1 then (if a1 < (l0_0.length : Int) then (if a3 < ((zaa l0_0 a1).f1) then (zaq.j0 k a1 a2 a3 true l0_0) else ((zba.f a2).bind fun t185 => (if t185 = true then ((zba.f a3).bind fun t186 => (zaq.j0 k a1 a2 a3 (!t186) l0_0)) else (zaq.j0 k a1 a2 a3 true l0_0)))) else (none)) else (none)))
theorem zaq.calls (k : Nat) (P0_0_ : Nat → Prop) (A0_0 : Option Addr) (c0_0 : Nat) (l0_0 : List (S38)) (a1 : Int) (a2 : Int) (a3 : Int) (r1 : List (S38)) (r2 : Int) (r3 : Bool) (w : World) (hs0_0 : Kd.V k38 38 w w.heap.size (fun k_ => P0_0_ k_) (.slice A0_0 l0_0.length c0_0) l0_0) (h : zaq.f k l0_0 a1 a2 a3 = some (r1, r2, r3)) :
  Calls Try.prog 15 #[.agg #[.slice A0_0 l0_0.length c0_0], .int .i64 a1, .int .i64 a2, .int .i64 a3] w fun e w' => ∃ v0_ : Value, e = .returned (.tuple #[.agg #[v0_], .int .i64 r2, .bool r3]) ∧ Kd.V k38 38 w' w.heap.size (fun k_ => (P0_0_ k_ ∨ w.heap.size ≤ k_)) v0_ r1 ∧ Below w.heap.size w w' := by
 have hu24 := Try.underlying24
 have hu38 := Try.underlying38
 have HO0_0 := zab.mk (show Kd.V k38 38 w w.heap.size (fun k_ => (P0_0_ k_ ∨ w.heap.size ≤ k_)) (.slice A0_0 l0_0.length c0_0) l0_0 from Kd.zar hs0_0 (fun k_ hk => .inl hk))
 have HB := zab.mk (Below.refl w.heap.size w)
 have H : (if a1 < 0 then (zaq.j0 k a1 a2 a3 true l0_0) else (if a1 ≥ (l0_0.length : Int) then (zaq.j0 k a1 a2 a3 true l0_0) else (if 0 ≤ a1 then (if a1 < (l0_0.length : Int) then (if a3 < ((zaa l0_0 a1).f1) then (zaq.j0 k a1 a2 a3 true l0_0) else ((zba.f a2).bind fun t185 => (if t185 = true then ((zba.f a3).bind fun t186 => (zaq.j0 k a1 a2 a3 (!t186) l0_0)) else (zaq.j0 k a1 a2 a3 true l0_0)))) else (none)) else (none)))) = some (r1, r2, r3) := h
 clear h;have HC5 := zab.mk H;clear H
 go_enter Try.func15, Try.ntmps15
 go_upto_region 1 with (first | ((with_reducible refine zbb (N := 4) rfl ?_); (try (refine zdk (by rfl) ?_; dsimp only)); refine Ybx 4 #[.slice A0_0 l0_0.length c0_0] 24 ?_; intro gb182 hg w6 hbox hb; replace HO0_0 := zab.mk (Kd.zat (Kd.zbi (by (with_reducible repeat (first | apply Kd.V_alloc | apply Kd.zak | apply Kd.zam)); exact HO0_0.out) gb182 (Nat.le_of_eq hg.symm)) hb); obtain ⟨BK182, GW182, GE182, HB⟩ := Yb4 hbox hg hb Ybe; clear hb hbox hg) | ((with_reducible refine zbb (N := 8) rfl ?_); (try (refine zdk (by rfl) ?_; dsimp only)); refine Ybx 8 #[.slice none 0 0] 24 ?_; intro gb183 hg w7 hbox hb; replace HO0_0 := zab.mk (Kd.zat (Kd.zbi (by (with_reducible repeat (first | apply Kd.V_alloc | apply Kd.zak | apply Kd.zam)); exact HO0_0.out) gb183 (Nat.le_of_eq hg.symm)) hb); obtain ⟨BK183, GW183, GE183, HB⟩ := Yb4 hbox hg hb Yb_PGssPushesx6_0; have NB182_183 := Ynl BK182 hg; have NB183_182 := Yng BK182 hg; replace BK182 := Ykb BK182 hb; clear hb hbox hg))
 (try simp only [Act.put, Y1, Y2, Y3])
 go_cut [45] (fun v45 wc => ∃ (kq : Nat) (x45_4 : Bool), v45 = .bool x45_4 ∧ zab (zaq.j0 kq a1 a2 a3 x45_4 l0_0 = some (r1, r2, r3)) ∧ zab (kq ≤ k) ∧ zab (Kd.V k38 38 wc w.heap.size (fun k_ => (P0_0_ k_ ∨ w.heap.size ≤ k_) ∧ k_ ≠ gb182 ∧ k_ ≠ gb183) (.slice A0_0 l0_0.length c0_0) l0_0) ∧ zab (wc.heap[gb182]? = some (.cells #[(.slice A0_0 l0_0.length c0_0)] 24 (0, 0))) ∧ zab (wc.heap[gb183]? = some (.cells #[(.slice none 0 0)] 24 (0, 0))) ∧ zab (Below w.heap.size w wc))
 case first =>
  have H := HC5.out;clear HC5
  by_cases c8 : a1 < 0
  ·rw [if_pos c8] at H
   have c8b0 := decide_eq_true c8
   clear c8
   (first | rw [c8b0] | (simp only [zcm, zcz]; rw [c8b0]) | skip)
   have H' := zab.mk H
   clear H;go_wp2
   (first | go_meet | (refine Met.intro ?_; go_step; (repeat apply Exists.intro); refine ⟨?rel, ?eq_⟩; (case eq_ => first | (rw [c8b0]; done))))
   case rel => exact ⟨_, (true), Yfs, H', ⟨by first | omega | exact Nat.le_refl _⟩, ⟨by (with_reducible repeat (first | apply Kd.V_alloc | apply Kd.zak | apply Kd.zam)); exact Kd.zar HO0_0.out (fun _ hk => ⟨hk.1.1, ⟨hk.1.2, hk.2⟩⟩)⟩, ⟨Yg BK182⟩, ⟨Yg BK183⟩, ⟨Yb_PGssPushesx6_1⟩⟩
  ·rw [if_neg c8] at H
   have c8b0 := decide_eq_false c8
   clear c8
   (first | rw [c8b0] | (simp only [zcm, zcz]; rw [c8b0]) | skip)
   by_cases c9 : a1 ≥ (l0_0.length : Int)
   ·rw [if_pos c9] at H
    have c9b0 := decide_eq_true c9
    clear c9
    have H' := zab.mk H
    clear H
    have hnb10 := NB182_183.out
    have hnc10 := NB183_182.out
    obtain ⟨hcz11_0, hfz11_0⟩ := Yc1 BK182.out
    go_wp2
    (first | go_meet | (refine Met.intro ?_; go_step; (repeat apply Exists.intro); refine ⟨?rel, ?eq_⟩; (case eq_ => first | (rw [c9b0]; done) | (rw [c8b0]; done))))
    case rel => exact ⟨_, (true), Yfs, H', ⟨by first | omega | exact Nat.le_refl _⟩, ⟨by (with_reducible repeat (first | apply Kd.V_alloc | apply Kd.zak | apply Kd.zam)); exact Kd.zar HO0_0.out (fun _ hk => ⟨hk.1.1, ⟨hk.1.2, hk.2⟩⟩)⟩, ⟨Yg BK182⟩, ⟨Yg BK183⟩, ⟨Yb_PGssPushesx6_1⟩⟩
   ·rw [if_neg c9] at H
    have c9b0 := decide_eq_false c9
    clear c9
    by_cases c12 : 0 ≤ a1
    ·rw [if_pos c12] at H
     have c12b0 := decide_eq_true c12
     clear c12
     by_cases c13 : a1 < (l0_0.length : Int)
     ·rw [if_pos c13] at H
      have c13b0 := decide_eq_true c13
      clear c13
      by_cases c14 : a3 < ((zaa l0_0 a1).f1)
      ·rw [if_pos c14] at H
       have c14b0 := decide_eq_true c14
       clear c14
       have H' := zab.mk H
       clear H
       have hnb15 := NB182_183.out
       have hnc15 := NB183_182.out
       obtain ⟨hcz16_0, hfz16_0⟩ := Yc1 BK182.out
       have p184 : 0 ≤ (a1 : Int) := Yod
       have q184 : a1 < (l0_0.length : Int) := Yod
       obtain ⟨ad184, A184_2, c184_2, e184, hx184_0, hx184_1, hx184_2, hl184_2, hi184_2⟩ := zbn (Kd.V_reads' HO0_0.out).2.2 a1 p184 q184
       cases e184
       obtain ⟨ce184, hce184, hMe184, hcc184⟩ := Kd.zec HO0_0.out z38 a1 p184 (by first | exact q184 | exact of_decide_eq_true (by first | (with_reducible assumption) | assumption) | (have e_ := (Kd.V_reads' HO0_0.out).1; omega))
       obtain ⟨ua184_2, uc184_2, rfl, ul184_2, ge184_2⟩ := zb5 hMe184
       have hv184_2 := hcc184 2 _ rfl
       rw [zb0 _ _ 2 (by omega)] at hv184_2
       replace hv184_2 := Option.some.inj (hv184_2.symm.trans hx184_2)
       injection hv184_2 with hva_ hvn_ hvc_
       rw [hva_] at ge184_2
       rw [hvc_] at ul184_2
       have HL184_2 := zab.mk (show Kd.V (Kd.int .i64) 3 _ w.heap.size _ _ ((zaa l0_0 a1).f2) from Kd.V_mk ul184_2 ge184_2)
       clear hva_ hvn_ hvc_ ge184_2 ul184_2;clear hcc184 hce184;have HR184_2 := zab.mk hi184_2;have HC184_2 := zab.mk hl184_2;clear hi184_2 hl184_2
       replace p184 := eq_true p184
       replace q184 := eq_true q184
       go_wp2
       (first | go_meet | (refine Met.intro ?_; go_step; (repeat apply Exists.intro); refine ⟨?rel, ?eq_⟩; (case eq_ => first | (rw [c14b0]; done) | (rw [c13b0]; done) | (rw [c12b0]; done) | (rw [c9b0]; done) | (rw [c8b0]; done))))
       case rel => exact ⟨_, (true), Yfs, H', ⟨by first | omega | exact Nat.le_refl _⟩, ⟨by (with_reducible repeat (first | apply Kd.V_alloc | apply Kd.zak | apply Kd.zam)); exact Kd.zar HO0_0.out (fun _ hk => ⟨hk.1.1, ⟨hk.1.2, hk.2⟩⟩)⟩, ⟨Yg BK182⟩, ⟨Yg BK183⟩, ⟨Yb_PGssPushesx6_1⟩⟩
      ·rw [if_neg c14] at H
       have c14b0 := decide_eq_false c14
       clear c14;replace H := Option.bind_eq_some_iff.mp H
       obtain ⟨t185, A170, H⟩ := H
       replace H : (if t185 = true then ((zba.f a3).bind fun t186 => (zaq.j0 k a1 a2 a3 (!t186) l0_0)) else (zaq.j0 k a1 a2 a3 true l0_0)) = some (r1, r2, r3) := H
       have A17 := zab.mk A170;clear A170
       by_cases c18 : t185 = true
       ·subst c18
        have H1 : ((zba.f a3).bind fun t186 => (zaq.j0 k a1 a2 a3 (!t186) l0_0)) = some (r1, r2, r3) := by rw [if_pos rfl] at H; exact H
        clear H;have H := H1;clear H1;replace H := Option.bind_eq_some_iff.mp H
        obtain ⟨t186, A190, H⟩ := H
        replace H : (zaq.j0 k a1 a2 a3 (!t186) l0_0) = some (r1, r2, r3) := H
        have A19 := zab.mk A190;clear A190
        have H' := zab.mk H
        clear H
        have hnb20 := NB182_183.out
        have hnc20 := NB183_182.out
        obtain ⟨hcz21_0, hfz21_0⟩ := Yc1 BK182.out
        have p184 : 0 ≤ (a1 : Int) := Yod
        have q184 : a1 < (l0_0.length : Int) := Yod
        obtain ⟨ad184, A184_2, c184_2, e184, hx184_0, hx184_1, hx184_2, hl184_2, hi184_2⟩ := zbn (Kd.V_reads' HO0_0.out).2.2 a1 p184 q184
        cases e184
        obtain ⟨ce184, hce184, hMe184, hcc184⟩ := Kd.zec HO0_0.out z38 a1 p184 (by first | exact q184 | exact of_decide_eq_true (by first | (with_reducible assumption) | assumption) | (have e_ := (Kd.V_reads' HO0_0.out).1; omega))
        obtain ⟨ua184_2, uc184_2, rfl, ul184_2, ge184_2⟩ := zb5 hMe184
        have hv184_2 := hcc184 2 _ rfl
        rw [zb0 _ _ 2 (by omega)] at hv184_2
        replace hv184_2 := Option.some.inj (hv184_2.symm.trans hx184_2)
        injection hv184_2 with hva_ hvn_ hvc_
        rw [hva_] at ge184_2
        rw [hvc_] at ul184_2
        have HL184_2 := zab.mk (show Kd.V (Kd.int .i64) 3 _ w.heap.size _ _ ((zaa l0_0 a1).f2) from Kd.V_mk ul184_2 ge184_2)
        clear hva_ hvn_ hvc_ ge184_2 ul184_2;clear hcc184 hce184;have HR184_2 := zab.mk hi184_2;have HC184_2 := zab.mk hl184_2;clear hi184_2 hl184_2
        replace p184 := eq_true p184
        replace q184 := eq_true q184
        go_wp2_with (first | (go_at_call 30; (with_reducible refine (zba.calls a2 true _ A17.out).mono ?_); rintro e w' ⟨rfl, ⟨nd, rfl⟩⟩) | (go_at_call 30; (with_reducible refine (zba.calls a3 t186 _ A19.out).mono ?_); rintro e w' ⟨rfl, ⟨nd, rfl⟩⟩))
        (first | go_meet | (refine Met.intro ?_; go_step; (repeat apply Exists.intro); refine ⟨?rel, ?eq_⟩; (case eq_ => first | (rw [c14b0]; done) | (rw [c13b0]; done) | (rw [c12b0]; done) | (rw [c9b0]; done) | (rw [c8b0]; done))))
        case rel => exact ⟨_, (!t186), Yfs, H', ⟨by first | omega | exact Nat.le_refl _⟩, ⟨by (with_reducible repeat (first | apply Kd.V_alloc | apply Kd.zak | apply Kd.zam)); exact Kd.zar HO0_0.out (fun _ hk => ⟨hk.1.1, ⟨hk.1.2, hk.2⟩⟩)⟩, ⟨Yg BK182⟩, ⟨Yg BK183⟩, ⟨Yb_PGssPushesx6_1⟩⟩
       ·replace c18 := Bool.eq_false_iff.mpr c18
        subst c18
        have H1 : (zaq.j0 k a1 a2 a3 true l0_0) = some (r1, r2, r3) := by rw [if_neg (show ¬ (false = true) by decide)] at H; exact H
        clear H;have H := H1;clear H1
        have H' := zab.mk H
        clear H
        have hnb22 := NB182_183.out
        have hnc22 := NB183_182.out
        obtain ⟨hcz23_0, hfz23_0⟩ := Yc1 BK182.out
        have p184 : 0 ≤ (a1 : Int) := Yod
        have q184 : a1 < (l0_0.length : Int) := Yod
        obtain ⟨ad184, A184_2, c184_2, e184, hx184_0, hx184_1, hx184_2, hl184_2, hi184_2⟩ := zbn (Kd.V_reads' HO0_0.out).2.2 a1 p184 q184
        cases e184
        obtain ⟨ce184, hce184, hMe184, hcc184⟩ := Kd.zec HO0_0.out z38 a1 p184 (by first | exact q184 | exact of_decide_eq_true (by first | (with_reducible assumption) | assumption) | (have e_ := (Kd.V_reads' HO0_0.out).1; omega))
        obtain ⟨ua184_2, uc184_2, rfl, ul184_2, ge184_2⟩ := zb5 hMe184
        have hv184_2 := hcc184 2 _ rfl
        rw [zb0 _ _ 2 (by omega)] at hv184_2
        replace hv184_2 := Option.some.inj (hv184_2.symm.trans hx184_2)
        injection hv184_2 with hva_ hvn_ hvc_
        rw [hva_] at ge184_2
        rw [hvc_] at ul184_2
        have HL184_2 := zab.mk (show Kd.V (Kd.int .i64) 3 _ w.heap.size _ _ ((zaa l0_0 a1).f2) from Kd.V_mk ul184_2 ge184_2)
        clear hva_ hvn_ hvc_ ge184_2 ul184_2;clear hcc184 hce184;have HR184_2 := zab.mk hi184_2;have HC184_2 := zab.mk hl184_2;clear hi184_2 hl184_2
        replace p184 := eq_true p184
        replace q184 := eq_true q184
        go_wp2_with (first | (go_at_call 30; (with_reducible refine (zba.calls a2 false _ A17.out).mono ?_); rintro e w' ⟨rfl, ⟨nd, rfl⟩⟩))
        (first | go_meet | (refine Met.intro ?_; go_step; (repeat apply Exists.intro); refine ⟨?rel, ?eq_⟩; (case eq_ => first | (rw [c14b0]; done) | (rw [c13b0]; done) | (rw [c12b0]; done) | (rw [c9b0]; done) | (rw [c8b0]; done))))
        case rel => exact ⟨_, (true), Yfs, H', ⟨by first | omega | exact Nat.le_refl _⟩, ⟨by (with_reducible repeat (first | apply Kd.V_alloc | apply Kd.zak | apply Kd.zam)); exact Kd.zar HO0_0.out (fun _ hk => ⟨hk.1.1, ⟨hk.1.2, hk.2⟩⟩)⟩, ⟨Yg BK182⟩, ⟨Yg BK183⟩, ⟨Yb_PGssPushesx6_1⟩⟩
     ·rw [if_neg c13] at H
      exact absurd H (by simp)
    ·rw [if_neg c12] at H
     exact absurd H (by simp)
 case rest =>
  clear HC5
  obtain ⟨kq, x45_4, rfl, HA, HJ4, HO_183000, BK182, BK183, HB⟩ := hcut
  cases kq with
  | zero => exact absurd HA.out (by simp [zaq.j0])
  | succ kj4 =>
   have H := HA.out;clear HA
   simp only [zaq.j0] at H
   by_cases c24 : x45_4 = true
   ·subst c24
    have H1 : (some (l0_0, (-1), false)) = some (r1, r2, r3) := by rw [if_pos rfl] at H; exact H
    clear H;have H := H1;clear H1
    simp only [Option.some.injEq, Prod.mk.injEq] at H
    obtain ⟨rfl, rfl, rfl⟩ := H
    have hnb25 := NB182_183.out
    have hnc25 := NB183_182.out
    obtain ⟨hcz26_0, hfz26_0⟩ := Yc1 BK182.out
    obtain ⟨hcz27_0, hfz27_0⟩ := Yc1 BK183.out
    go_wp2
    refine bodyPost_ret (zcc rfl _ _ gb183 24 #[.slice A0_0 l0_0.length c0_0] (0, 0) _ rfl (by (with_reducible repeat (first | refine zae ?_ _ | refine zac ?_ | refine zad ?_ _)); refine zas (cs := #[.slice none 0 0]) ?_ 0 _ rfl; (with_reducible repeat (first | refine zae ?_ _ | refine zac ?_ | refine zad ?_ _)); exact BK183.out) Try.underlying24 rfl (by kernel_rfl)) rfl ?_
    exact ⟨_, by first | rfl | (simp [errW_none, errW_some] <;> rfl) | (simp [*, errW_none, errW_some] <;> rfl), by (with_reducible repeat (first | apply Kd.V_alloc | apply Kd.zak | apply Kd.zam)); exact Kd.zar (Kd.za0 (p := ⟨gb183, 0, none⟩) (Kd.zar HO_183000.out (fun k_ hk => (⟨hk, hk.2.2⟩ : _ ∧ k_ ≠ gb183))) (fun _ hk => hk.2) (.slice A0_0 l0_0.length c0_0)) (fun _ hk => hk.1.1), Yb_PGssPushesx6_1⟩
   ·replace c24 := Bool.eq_false_iff.mpr c24
    subst c24
    have H1 : (if 0 ≤ a1 then (if a1 < (l0_0.length : Int) then ((zaw.f kj4 l0_0 a2 a3).bind fun t189 => (if t189 < 0 then (zaq.j1 kj4 a2 a3 (decide (t189 < 0)) (decide ((l0_0.length : Int) ≥ 4096)) l0_0 ((zaa l0_0 a1).f0) ((zaa l0_0 a1).f1) ((zaa l0_0 a1).f2)) else (zaq.j1 kj4 a2 a3 (decide (t189 < 0)) false l0_0 ((zaa l0_0 a1).f0) ((zaa l0_0 a1).f1) ((zaa l0_0 a1).f2)))) else (none)) else (none)) = some (r1, r2, r3) := by rw [if_neg (show ¬ (false = true) by decide)] at H; exact H
    clear H;have H := H1;clear H1
    by_cases c28 : 0 ≤ a1
    ·rw [if_pos c28] at H
     have c28b0 := decide_eq_true c28
     clear c28
     by_cases c29 : a1 < (l0_0.length : Int)
     ·rw [if_pos c29] at H
      have c29b0 := decide_eq_true c29
      clear c29;replace H := Option.bind_eq_some_iff.mp H
      obtain ⟨t189, A300, H⟩ := H
      replace H : (if t189 < 0 then (zaq.j1 kj4 a2 a3 (decide (t189 < 0)) (decide ((l0_0.length : Int) ≥ 4096)) l0_0 ((zaa l0_0 a1).f0) ((zaa l0_0 a1).f1) ((zaa l0_0 a1).f2)) else (zaq.j1 kj4 a2 a3 (decide (t189 < 0)) false l0_0 ((zaa l0_0 a1).f0) ((zaa l0_0 a1).f1) ((zaa l0_0 a1).f2))) = some (r1, r2, r3) := H
      have A30 := zab.mk A300;clear A300;have HC31 := zab.mk H;clear H
      have hnb32 := NB182_183.out
      have hnc32 := NB183_182.out
      obtain ⟨hcz33_0, hfz33_0⟩ := Yc1 BK182.out
      have p187 : 0 ≤ (a1 : Int) := Yod
      have q187 : a1 < (l0_0.length : Int) := Yod
      obtain ⟨ad187, A187_2, c187_2, e187, hx187_0, hx187_1, hx187_2, hl187_2, hi187_2⟩ := zbn (Kd.V_reads' HO_183000.out).2.2 a1 p187 q187
      cases e187
      obtain ⟨ce187, hce187, hMe187, hcc187⟩ := Kd.zec HO_183000.out z38 a1 p187 (by first | exact q187 | exact of_decide_eq_true (by first | (with_reducible assumption) | assumption) | (have e_ := (Kd.V_reads' HO_183000.out).1; omega))
      obtain ⟨ua187_2, uc187_2, rfl, ul187_2, ge187_2⟩ := zb5 hMe187
      have hv187_2 := hcc187 2 _ rfl
      rw [zb0 _ _ 2 (by omega)] at hv187_2
      replace hv187_2 := Option.some.inj (hv187_2.symm.trans hx187_2)
      injection hv187_2 with hva_ hvn_ hvc_
      rw [hva_] at ge187_2
      rw [hvc_] at ul187_2
      have HL187_2 := zab.mk (show Kd.V (Kd.int .i64) 3 _ w.heap.size _ _ ((zaa l0_0 a1).f2) from Kd.V_mk ul187_2 ge187_2)
      clear hva_ hvn_ hvc_ ge187_2 ul187_2;clear hcc187 hce187;have HR187_2 := zab.mk hi187_2;have HC187_2 := zab.mk hl187_2;clear hi187_2 hl187_2
      replace p187 := eq_true p187
      replace q187 := eq_true q187
      go_upto_region 5 with (first | ((with_reducible refine zbb (N := 11) rfl ?_); (try (refine zdk (by rfl) ?_; dsimp only)); refine Ybx 11 #[.int .i64 0, .int .i64 0, .slice none 0 0] 38 ?_; intro gb188 hg w34 hbox hb; replace HO_183000 := zab.mk (Kd.zat (Kd.zbi (by (with_reducible repeat (first | apply Kd.V_alloc | apply Kd.zak | apply Kd.zam)); exact HO_183000.out) gb188 (Nat.le_of_eq hg.symm)) hb); replace HL187_2 := zab.mk (Kd.zat (Kd.zbi (by (with_reducible repeat (first | apply Kd.V_alloc | apply Kd.zak | apply Kd.zam)); exact HL187_2.out) gb188 (Nat.le_of_eq hg.symm)) hb); replace HR187_2 := zab.mk (Kd.za4 (by repeat (first | (with_reducible exact HR187_2.out) | (with_reducible refine Kd.C_alloc ?_ _) | (with_reducible refine Kd.C_drewN ?_ _) | (with_reducible refine Kd.C_drew ?_) | exact HR187_2.out)) hb); obtain ⟨BK188, GW188, GE188, HB⟩ := Yb4 hbox hg hb Yb_PGssPushesx6_1; have NB182_188 := Ynl BK182 hg; have NB188_182 := Yng BK182 hg; replace BK182 := Ykb BK182 hb; have NB183_188 := Ynl BK183 hg; have NB188_183 := Yng BK183 hg; replace BK183 := Ykb BK183 hb; clear hb hbox hg; have hnb35 := NB188_182.out; have hnc35 := NB182_188.out; have hnb36 := NB188_183.out; have hnc36 := NB183_188.out; obtain ⟨hcz37_0, hfz37_0, hcz37_1, hfz37_1, hcz37_2, hfz37_2⟩ := Yc3 BK188.out; obtain ⟨hcz38_0, hfz38_0⟩ := Yc1 BK182.out) | ((with_reducible refine za6 (f := 14) rfl ?_); refine Ygl (some 55) Try.func14 #[.agg #[.slice (some ad187) l0_0.length c0_0], .int .i64 a2, .int .i64 a3] ?_; (with_reducible refine (zaw.calls kj4 _ _ l0_0 a2 a3 t189 _ ?side1 ?side2 A30.out).mono ?_); (case side1 => refine (Kd.V_reads' (e := 38) (base := w.heap.size) (ok := fun k_ => (((P0_0_ k_ ∨ w.heap.size ≤ k_) ∧ (k_ ≠ gb182 ∧ k_ ≠ gb183)) ∧ k_ ≠ gb188)) (n := l0_0.length) (c := c0_0) ?_).2.2; exact (by (with_reducible repeat (first | apply Kd.V_alloc | apply Kd.zak | apply Kd.zam)); exact (Kd.zar (Kd.za0 (p := ⟨gb188, 2, none⟩) (Kd.za0 (p := ⟨gb188, 1, none⟩) (Kd.za0 (p := ⟨gb188, 0, none⟩) (Kd.zar HO_183000.out (fun k_ hk => (⟨hk, hk.2⟩ : _ ∧ k_ ≠ gb188))) (fun _ hk => hk.2) (.int .i64 ((zaa l0_0 a1).f0))) (fun _ hk => hk.2) (.int .i64 ((zaa l0_0 a1).f1))) (fun _ hk => hk.2) (.slice A187_2 ((zaa l0_0 a1).f2).length c187_2)) (fun _ h_ => h_.1)))); (case side2 => exact (Kd.V_reads' HO_183000.out).2.1); rintro e w39 ⟨rfl, hb⟩; refine ⟨_, rfl, ?_⟩; replace HO_183000 := zab.mk (Kd.zat (by (with_reducible repeat (first | apply Kd.V_alloc | apply Kd.zak | apply Kd.zam)); exact (Kd.zar (Kd.za0 (p := ⟨gb188, 2, none⟩) (Kd.za0 (p := ⟨gb188, 1, none⟩) (Kd.za0 (p := ⟨gb188, 0, none⟩) (Kd.zar HO_183000.out (fun k_ hk => (⟨hk, hk.2⟩ : _ ∧ k_ ≠ gb188))) (fun _ hk => hk.2) (.int .i64 ((zaa l0_0 a1).f0))) (fun _ hk => hk.2) (.int .i64 ((zaa l0_0 a1).f1))) (fun _ hk => hk.2) (.slice A187_2 ((zaa l0_0 a1).f2).length c187_2)) (fun _ h_ => h_.1))) hb); replace BK182 := zab.mk (zax (g := gb182) (o := .cells #[.slice (some ad187) l0_0.length c0_0] 24 (0, 0)) (by (with_reducible repeat (first | refine zae ?_ _ | refine zac ?_ | refine zad ?_ _)); refine zaj ?_ NB182_188.out _; (with_reducible repeat (first | refine zae ?_ _ | refine zac ?_ | refine zad ?_ _)); refine zaj ?_ NB182_188.out _; (with_reducible repeat (first | refine zae ?_ _ | refine zac ?_ | refine zad ?_ _)); refine zaj ?_ NB182_188.out _; (with_reducible repeat (first | refine zae ?_ _ | refine zac ?_ | refine zad ?_ _)); exact BK182.out) hb); replace BK183 := zab.mk (zax (g := gb183) (o := .cells #[.slice none 0 0] 24 (0, 0)) (by (with_reducible repeat (first | refine zae ?_ _ | refine zac ?_ | refine zad ?_ _)); refine zaj ?_ NB183_188.out _; (with_reducible repeat (first | refine zae ?_ _ | refine zac ?_ | refine zad ?_ _)); refine zaj ?_ NB183_188.out _; (with_reducible repeat (first | refine zae ?_ _ | refine zac ?_ | refine zad ?_ _)); refine zaj ?_ NB183_188.out _; (with_reducible repeat (first | refine zae ?_ _ | refine zac ?_ | refine zad ?_ _)); exact BK183.out) hb); replace HR187_2 := zab.mk (Kd.za4 ((Kd.V_reads' (by (with_reducible repeat (first | apply Kd.V_alloc | apply Kd.zak | apply Kd.zam)); exact (Kd.zar (Kd.za0 (p := ⟨gb188, 2, none⟩) (Kd.za0 (p := ⟨gb188, 1, none⟩) (Kd.za0 (p := ⟨gb188, 0, none⟩) (Kd.zar HL187_2.out (fun k_ hk => (⟨hk, hk.2⟩ : _ ∧ k_ ≠ gb188))) (fun _ hk => hk.2) (.int .i64 ((zaa l0_0 a1).f0))) (fun _ hk => hk.2) (.int .i64 ((zaa l0_0 a1).f1))) (fun _ hk => hk.2) (.slice A187_2 ((zaa l0_0 a1).f2).length c187_2)) (fun _ h_ => h_.1)))).2.2) hb); replace HL187_2 := zab.mk (Kd.zat (by (with_reducible repeat (first | apply Kd.V_alloc | apply Kd.zak | apply Kd.zam)); exact (Kd.zar (Kd.za0 (p := ⟨gb188, 2, none⟩) (Kd.za0 (p := ⟨gb188, 1, none⟩) (Kd.za0 (p := ⟨gb188, 0, none⟩) (Kd.zar HL187_2.out (fun k_ hk => (⟨hk, hk.2⟩ : _ ∧ k_ ≠ gb188))) (fun _ hk => hk.2) (.int .i64 ((zaa l0_0 a1).f0))) (fun _ hk => hk.2) (.int .i64 ((zaa l0_0 a1).f1))) (fun _ hk => hk.2) (.slice A187_2 ((zaa l0_0 a1).f2).length c187_2)) (fun _ h_ => h_.1))) hb); replace BK188 := zab.mk (zax (g := gb188) (o := .cells #[.int .i64 ((zaa l0_0 a1).f0), .int .i64 ((zaa l0_0 a1).f1), .slice A187_2 ((zaa l0_0 a1).f2).length c187_2] 38 (0, 0)) (by (with_reducible repeat (first | refine zae ?_ _ | refine zac ?_ | refine zad ?_ _)); refine zas (cs := #[.int .i64 ((zaa l0_0 a1).f0), .int .i64 ((zaa l0_0 a1).f1), .slice none 0 0]) ?_ 2 _ rfl; (with_reducible repeat (first | refine zae ?_ _ | refine zac ?_ | refine zad ?_ _)); refine zas (cs := #[.int .i64 ((zaa l0_0 a1).f0), .int .i64 0, .slice none 0 0]) ?_ 1 _ rfl; (with_reducible repeat (first | refine zae ?_ _ | refine zac ?_ | refine zad ?_ _)); refine zas (cs := #[.int .i64 0, .int .i64 0, .slice none 0 0]) ?_ 0 _ rfl; (with_reducible repeat (first | refine zae ?_ _ | refine zac ?_ | refine zad ?_ _)); exact BK188.out) hb); replace HB := zab.mk (za1 Yb_PGssPushesx6_2 hb); (try clear hb); (try clear hb2); (try clear hk); (try clear hi)))
      (try simp only [Act.put, Y1, Y2, Y3])
      go_cut [63] (fun v63 wc => ∃ (kq : Nat) (x63_30 : Bool), v63 = .bool x63_30 ∧ zab (zaq.j1 kq a2 a3 (decide (t189 < 0)) x63_30 l0_0 ((zaa l0_0 a1).f0) ((zaa l0_0 a1).f1) ((zaa l0_0 a1).f2) = some (r1, r2, r3)) ∧ zab (kq ≤ kj4) ∧ zab (Kd.V k38 38 wc w.heap.size (fun k_ => (P0_0_ k_ ∨ w.heap.size ≤ k_) ∧ k_ ≠ gb182 ∧ k_ ≠ gb183 ∧ k_ ≠ gb188) (.slice (some ad187) l0_0.length c0_0) l0_0) ∧ zab (Kd.V (Kd.int .i64) 3 wc w.heap.size (fun k_ => (P0_0_ k_ ∨ w.heap.size ≤ k_) ∧ k_ ≠ gb182 ∧ k_ ≠ gb183 ∧ k_ ≠ gb188) (.slice A187_2 ((zaa l0_0 a1).f2).length c187_2) ((zaa l0_0 a1).f2)) ∧ zab (wc.heap[gb182]? = some (.cells #[(.slice (some ad187) l0_0.length c0_0)] 24 (0, 0))) ∧ zab (wc.heap[gb183]? = some (.cells #[(.slice none 0 0)] 24 (0, 0))) ∧ zab (wc.heap[gb188]? = some (.cells #[.int .i64 ((zaa l0_0 a1).f0), .int .i64 ((zaa l0_0 a1).f1), (.slice A187_2 ((zaa l0_0 a1).f2).length c187_2)] 38 (0, 0))) ∧ zab (Kd.C (Kd.int .i64) wc A187_2 ((zaa l0_0 a1).f2).length ((zaa l0_0 a1).f2)) ∧ zab (Below w.heap.size w wc))
      case first =>
       have H := HC31.out;clear HC31
       by_cases c40 : t189 < 0
       ·rw [if_pos c40] at H
        have c40b0 := decide_eq_true c40
        clear c40
        (first | rw [c40b0] | (simp only [zcm, zcz]; rw [c40b0]) | skip)
        have H' := zab.mk H
        clear H
        have hnb41 := NB182_183.out
        have hnc41 := NB183_182.out
        have hnb42 := NB182_188.out
        have hnc42 := NB188_182.out
        obtain ⟨hcz43_0, hfz43_0⟩ := Yc1 BK182.out
        go_wp2
        (first | go_meet | (refine Met.intro ?_; go_step; (repeat apply Exists.intro); refine ⟨?rel, ?eq_⟩; (case eq_ => first | (rw [c40b0]; done) | (rw [c29b0]; done) | (rw [c28b0]; done))))
        case rel => exact ⟨_, (decide ((l0_0.length : Int) ≥ 4096)), Yfs, H', ⟨by have := HJ4.out; first | omega | exact Nat.le_refl _⟩, ⟨by (with_reducible repeat (first | apply Kd.V_alloc | apply Kd.zak | apply Kd.zam)); exact Kd.zar HO_183000.out (fun _ hk => ⟨hk.1.1, ⟨hk.1.2.1, ⟨hk.1.2.2, hk.2⟩⟩⟩)⟩, ⟨by (with_reducible repeat (first | apply Kd.V_alloc | apply Kd.zak | apply Kd.zam)); exact Kd.zar HL187_2.out (fun _ hk => ⟨hk.1.1, ⟨hk.1.2.1, ⟨hk.1.2.2, hk.2⟩⟩⟩)⟩, ⟨Yg BK182⟩, ⟨Yg BK183⟩, ⟨Yg BK188⟩, ⟨by repeat (first | (with_reducible exact HR187_2.out) | (with_reducible refine Kd.C_alloc ?_ _) | (with_reducible refine Kd.C_drewN ?_ _) | (with_reducible refine Kd.C_drew ?_) | exact HR187_2.out)⟩, ⟨Yb_PGssPushesx6_2⟩⟩
       ·rw [if_neg c40] at H
        have c40b0 := decide_eq_false c40
        clear c40
        (first | rw [c40b0] | (simp only [zcm, zcz]; rw [c40b0]) | skip)
        have H' := zab.mk H
        clear H;go_wp2
        (first | go_meet | (refine Met.intro ?_; go_step; (repeat apply Exists.intro); refine ⟨?rel, ?eq_⟩; (case eq_ => first | (rw [c40b0]; done) | (rw [c29b0]; done) | (rw [c28b0]; done))))
        case rel => exact ⟨_, (false), Yfs, H', ⟨by have := HJ4.out; first | omega | exact Nat.le_refl _⟩, ⟨by (with_reducible repeat (first | apply Kd.V_alloc | apply Kd.zak | apply Kd.zam)); exact Kd.zar HO_183000.out (fun _ hk => ⟨hk.1.1, ⟨hk.1.2.1, ⟨hk.1.2.2, hk.2⟩⟩⟩)⟩, ⟨by (with_reducible repeat (first | apply Kd.V_alloc | apply Kd.zak | apply Kd.zam)); exact Kd.zar HL187_2.out (fun _ hk => ⟨hk.1.1, ⟨hk.1.2.1, ⟨hk.1.2.2, hk.2⟩⟩⟩)⟩, ⟨Yg BK182⟩, ⟨Yg BK183⟩, ⟨Yg BK188⟩, ⟨by repeat (first | (with_reducible exact HR187_2.out) | (with_reducible refine Kd.C_alloc ?_ _) | (with_reducible refine Kd.C_drewN ?_ _) | (with_reducible refine Kd.C_drew ?_) | exact HR187_2.out)⟩, ⟨Yb_PGssPushesx6_2⟩⟩
      case rest =>
       clear HC31
       obtain ⟨kq, x63_30, rfl, HA, HJ30, HO_183000, HO_189002, BK182, BK183, BK188, HR187_2, HB⟩ := hcut
       cases kq with
       | zero => exact absurd HA.out (by simp [zaq.j1])
       | succ kj30 =>
        have H := HA.out;clear HA
        simp only [zaq.j1] at H
        by_cases c44 : x63_30 = true
        ·subst c44
         have H1 : (some (l0_0, (-1), false)) = some (r1, r2, r3) := by rw [if_pos rfl] at H; exact H
         clear H;have H := H1;clear H1
         simp only [Option.some.injEq, Prod.mk.injEq] at H
         obtain ⟨rfl, rfl, rfl⟩ := H
         have hnb45 := NB182_183.out
         have hnc45 := NB183_182.out
         have hnb46 := NB182_188.out
         have hnc46 := NB188_182.out
         obtain ⟨hcz47_0, hfz47_0⟩ := Yc1 BK182.out
         have hnb48 := NB183_188.out
         have hnc48 := NB188_183.out
         obtain ⟨hcz49_0, hfz49_0⟩ := Yc1 BK183.out
         go_wp2
         refine bodyPost_ret (zcc rfl _ _ gb183 24 #[.slice (some ad187) l0_0.length c0_0] (0, 0) _ rfl (by (with_reducible repeat (first | refine zae ?_ _ | refine zac ?_ | refine zad ?_ _)); refine zas (cs := #[.slice none 0 0]) ?_ 0 _ rfl; (with_reducible repeat (first | refine zae ?_ _ | refine zac ?_ | refine zad ?_ _)); exact BK183.out) Try.underlying24 rfl (by kernel_rfl)) rfl ?_
         exact ⟨_, by first | rfl | (simp [errW_none, errW_some] <;> rfl) | (simp [*, errW_none, errW_some] <;> rfl), by (with_reducible repeat (first | apply Kd.V_alloc | apply Kd.zak | apply Kd.zam)); exact Kd.zar (Kd.za0 (p := ⟨gb183, 0, none⟩) (Kd.zar HO_183000.out (fun k_ hk => (⟨hk, hk.2.2.1⟩ : _ ∧ k_ ≠ gb183))) (fun _ hk => hk.2) (.slice (some ad187) l0_0.length c0_0)) (fun _ hk => hk.1.1), Yb_PGssPushesx6_2⟩
        ·replace c44 := Bool.eq_false_iff.mpr c44
         subst c44
         have H1 : (if (decide (t189 < 0)) = true then ((zal.f kj30 l0_0 a2 a3 ([] : List Int)).bind fun t190 => (zaq.j2 kj30 a2 a3 (decide (t189 < 0)) t190 ((zaa l0_0 a1).f0) ((zaa l0_0 a1).f1) ((zaa l0_0 a1).f2))) else (zaq.j2 kj30 a2 a3 (decide (t189 < 0)) l0_0 ((zaa l0_0 a1).f0) ((zaa l0_0 a1).f1) ((zaa l0_0 a1).f2))) = some (r1, r2, r3) := by rw [if_neg (show ¬ (false = true) by decide)] at H; exact H
         clear H;have H := H1;clear H1;have HC50 := zab.mk H;clear H
         go_upto_if 65 with (fail)
         go_cut [] (fun wc => ∃ (kq : Nat) (x183000_49 : List (S38)) (u183000 : Value), zab (zaq.j2 kq a2 a3 (decide (t189 < 0)) x183000_49 ((zaa l0_0 a1).f0) ((zaa l0_0 a1).f1) ((zaa l0_0 a1).f2) = some (r1, r2, r3)) ∧ zab (kq ≤ kj30) ∧ zab (Kd.V k38 38 wc w.heap.size (fun k_ => (P0_0_ k_ ∨ w.heap.size ≤ k_) ∧ k_ ≠ gb182 ∧ k_ ≠ gb183 ∧ k_ ≠ gb188) u183000 x183000_49) ∧ zab (Kd.V (Kd.int .i64) 3 wc w.heap.size (fun k_ => (P0_0_ k_ ∨ w.heap.size ≤ k_) ∧ k_ ≠ gb182 ∧ k_ ≠ gb183 ∧ k_ ≠ gb188) (.slice A187_2 ((zaa l0_0 a1).f2).length c187_2) ((zaa l0_0 a1).f2)) ∧ zab (wc.heap[gb182]? = some (.cells #[u183000] 24 (0, 0))) ∧ zab (wc.heap[gb183]? = some (.cells #[(.slice none 0 0)] 24 (0, 0))) ∧ zab (wc.heap[gb188]? = some (.cells #[.int .i64 ((zaa l0_0 a1).f0), .int .i64 ((zaa l0_0 a1).f1), (.slice A187_2 ((zaa l0_0 a1).f2).length c187_2)] 38 (0, 0))) ∧ zab (Below w.heap.size w wc))
         case first =>
          have H := HC50.out;clear HC50
          by_cases c51 : (decide (t189 < 0)) = true
          ·rw [if_pos c51] at H
           have c51b0 : (decide (t189 < 0)) = true := c51
           clear c51
           (first | rw [c51b0] | (simp only [zcm, zcz]; rw [c51b0]) | skip)
           replace H := Option.bind_eq_some_iff.mp H
           obtain ⟨t190, A520, H⟩ := H
           replace H : (zaq.j2 kj30 a2 a3 (decide (t189 < 0)) t190 ((zaa l0_0 a1).f0) ((zaa l0_0 a1).f1) ((zaa l0_0 a1).f2)) = some (r1, r2, r3) := H
           have A52 := zab.mk A520;clear A520
           have H' := zab.mk H
           clear H
           have hnb53 := NB182_183.out
           have hnc53 := NB183_182.out
           have hnb54 := NB182_188.out
           have hnc54 := NB188_182.out
           obtain ⟨hcz55_0, hfz55_0⟩ := Yc1 BK182.out
           go_wp2_with (first | ((with_reducible refine za6 (f := 42) rfl ?_); refine Ygl (some 70) Try.func42 #[.agg #[.slice (some ad187) l0_0.length c0_0], .agg #[.int .i64 a2, .int .i64 a3, .slice none 0 0]] ?_; (refine (zal.calls kj30 _ _ l0_0 a2 a3 _ _ ([] : List Int) t190 _ ?side1 ?side2 ?side3 ?side4 A52.out).mono ?_); (case side1 => repeat (first | exact (Kd.V_reads' HO_183000.out).2.2 | (with_reducible refine Kd.C_alloc ?_ _) | (with_reducible refine Kd.C_drewN ?_ _) | (with_reducible refine Kd.C_drew ?_))); (case side2 => exact (Kd.V_reads' HO_183000.out).2.1); (case side3 => exact Kd.C_nil _ _); (case side4 => exact Nat.le_refl _); rintro e w56 ⟨v191, rfl, ho0, hb⟩; refine ⟨_, rfl, ?_⟩; replace HO_183000 := zab.mk (Kd.V_elder' (by (with_reducible repeat (first | apply Kd.V_alloc | apply Kd.zak | apply Kd.zam)); exact HO_183000.out) (by first | exact Kd.N_base ho0 | exact Kd.zdi ho0) hb); replace HO_189002 := zab.mk (Kd.V_elder' (by (with_reducible repeat (first | apply Kd.V_alloc | apply Kd.zak | apply Kd.zam)); exact HO_189002.out) (by first | exact Kd.N_base ho0 | exact Kd.zdi ho0) hb); have HO192 := zab.mk (Kd.N_lower (Kd.zb9 (ok' := fun k_ => (P0_0_ k_ ∨ w.heap.size ≤ k_) ∧ k_ ≠ gb182 ∧ k_ ≠ gb183 ∧ k_ ≠ gb188) (Kd.R_N (Kd.zc7 ho0)) (fun k_ hk_ => ⟨(.inr (Nat.le_trans (za7 Yb_PGssPushesx6_2) hk_.2.1)), (Kd.zbh (g := gb182) (o := .cells #[.slice (some ad187) l0_0.length c0_0] 24 (0, 0)) (Yg BK182) k_ hk_.2.1), (Kd.zbh (g := gb183) (o := .cells #[.slice none 0 0] 24 (0, 0)) (Yg BK183) k_ hk_.2.1), (Kd.zbh (g := gb188) (o := .cells #[.int .i64 ((zaa l0_0 a1).f0), .int .i64 ((zaa l0_0 a1).f1), .slice A187_2 ((zaa l0_0 a1).f2).length c187_2] 38 (0, 0)) (Yg BK188) k_ hk_.2.1)⟩)) (za7 Yb_PGssPushesx6_2)); replace BK182 := Ykb BK182 hb; replace BK183 := Ykb BK183 hb; replace BK188 := Ykb BK188 hb; replace HR187_2 := zab.mk (Kd.za4 (by repeat (first | (with_reducible exact HR187_2.out) | (with_reducible refine Kd.C_alloc ?_ _) | (with_reducible refine Kd.C_drewN ?_ _) | (with_reducible refine Kd.C_drew ?_) | exact HR187_2.out)) hb); replace HB := zab.mk (za1 Yb_PGssPushesx6_2 hb); (try clear hb); (try clear hb2); (try clear hk); (try clear hi); (try clear ho0); obtain ⟨Ao57, co57, eo57⟩ := Kd.zeh HO192.out; subst eo57; obtain ⟨hcz58_0, hfz58_0⟩ := Yc1 BK182.out))
           (first | go_meet | (refine Met.intro ?_; go_step; (repeat apply Exists.intro); refine ⟨?rel, ?eq_⟩; (case eq_ => first | (rw [c51b0]; done) | (rw [c29b0]; done) | (rw [c28b0]; done))))
           case rel => exact ⟨_, (t190), (.slice Ao57 t190.length co57), H', ⟨by have := HJ4.out; have := HJ30.out; first | omega | exact Nat.le_refl _⟩, ⟨Kd.N_V (by (with_reducible repeat (first | apply Kd.N_alloc | apply Kd.N_drewN | apply Kd.zcr)); exact Kd.zb9 (Kd.zds (p := ⟨gb182, 0, none⟩) (Kd.zb9 HO192.out (fun k_ hk => (⟨hk, hk.2.1⟩ : _ ∧ k_ ≠ gb182))) (fun _ hk => hk.2) (.slice Ao57 t190.length co57)) (fun _ hk => ⟨hk.1.1, ⟨hk.1.2.1, ⟨hk.1.2.2.1, hk.1.2.2.2⟩⟩⟩))⟩, ⟨by (with_reducible repeat (first | apply Kd.V_alloc | apply Kd.zak | apply Kd.zam)); exact Kd.zar (Kd.za0 (p := ⟨gb182, 0, none⟩) (Kd.zar HO_189002.out (fun k_ hk => (⟨hk, hk.1.2.1⟩ : _ ∧ k_ ≠ gb182))) (fun _ hk => hk.2) (.slice Ao57 t190.length co57)) (fun _ hk => ⟨hk.1.1.1, ⟨hk.1.1.2.1, ⟨hk.1.1.2.2.1, hk.1.1.2.2.2⟩⟩⟩)⟩, ⟨by (with_reducible repeat (first | refine zae ?_ _ | refine zac ?_ | refine zad ?_ _)); refine zas (cs := #[.slice (some ad187) l0_0.length c0_0]) ?_ 0 _ rfl; (with_reducible repeat (first | refine zae ?_ _ | refine zac ?_ | refine zad ?_ _)); exact BK182.out⟩, ⟨by (with_reducible repeat (first | refine zae ?_ _ | refine zac ?_ | refine zad ?_ _)); refine zaj ?_ NB183_182.out _; (with_reducible repeat (first | refine zae ?_ _ | refine zac ?_ | refine zad ?_ _)); exact BK183.out⟩, ⟨by (with_reducible repeat (first | refine zae ?_ _ | refine zac ?_ | refine zad ?_ _)); refine zaj ?_ NB188_182.out _; (with_reducible repeat (first | refine zae ?_ _ | refine zac ?_ | refine zad ?_ _)); exact BK188.out⟩, ⟨Yb_PGssPushesx6_2⟩⟩
          ·rw [if_neg c51] at H
           have c51b0 : (decide (t189 < 0)) = false := by simpa using c51
           clear c51
           (first | rw [c51b0] | (simp only [zcm, zcz]; rw [c51b0]) | skip)
           have H' := zab.mk H
           clear H;go_wp2
           (first | go_meet | (refine Met.intro ?_; go_step; (repeat apply Exists.intro); refine ⟨?rel, ?eq_⟩; (case eq_ => first | (rw [c51b0]; done) | (rw [c29b0]; done) | (rw [c28b0]; done))))
           case rel => exact ⟨_, (l0_0), (.slice (some ad187) l0_0.length c0_0), H', ⟨by have := HJ4.out; have := HJ30.out; first | omega | exact Nat.le_refl _⟩, ⟨by (with_reducible repeat (first | apply Kd.V_alloc | apply Kd.zak | apply Kd.zam)); exact HO_183000.out⟩, ⟨by (with_reducible repeat (first | apply Kd.V_alloc | apply Kd.zak | apply Kd.zam)); exact HO_189002.out⟩, ⟨Yg BK182⟩, ⟨Yg BK183⟩, ⟨Yg BK188⟩, ⟨Yb_PGssPushesx6_2⟩⟩
         case rest =>
          clear HC50
          obtain ⟨kq, x183000_49, u183000, HA, HJ49, HO_183000, HO_189002, BK182, BK183, BK188, HB⟩ := hcut
          cases kq with
          | zero => exact absurd HA.out (by simp [zaq.j2])
          | succ kj49 =>
           have H := HA.out;clear HA
           simp only [zaq.j2] at H
           replace H := Option.bind_eq_some_iff.mp H
           obtain ⟨t193, A590, H⟩ := H
           replace H : ((zaw.f kj49 x183000_49 ((zaa l0_0 a1).f0) ((zaa l0_0 a1).f1)).bind fun t194 => (if 0 ≤ t193 then (if t193 < (x183000_49.length : Int) then ((zbg.f kj49 ((zaa x183000_49 t193).f2) t194).bind fun t196 => (if (t196.length : Int) > (((zaa x183000_49 t193).f2).length : Int) then (if ([] : List (S38)).length + x183000_49.length < 3518437208883 then ((some (([] : List (S38)) ++ x183000_49 : List (S38))).bind fun y200 => (if t193 < (y200.length : Int) then (some ((y200.set (t193 : Int).toNat (⟨(zaa y200 t193).f0, (zaa y200 t193).f1, t196⟩ : S38)), t193, true)) else (none))) else (none)) else (some (x183000_49, t193, (decide (t189 < 0)))))) else (none)) else (none))) = some (r1, r2, r3) := H
           have A59 := zab.mk A590;clear A590;replace H := Option.bind_eq_some_iff.mp H
           obtain ⟨t194, A600, H⟩ := H
           replace H : (if 0 ≤ t193 then (if t193 < (x183000_49.length : Int) then ((zbg.f kj49 ((zaa x183000_49 t193).f2) t194).bind fun t196 => (if (t196.length : Int) > (((zaa x183000_49 t193).f2).length : Int) then (if ([] : List (S38)).length + x183000_49.length < 3518437208883 then ((some (([] : List (S38)) ++ x183000_49 : List (S38))).bind fun y200 => (if t193 < (y200.length : Int) then (some ((y200.set (t193 : Int).toNat (⟨(zaa y200 t193).f0, (zaa y200 t193).f1, t196⟩ : S38)), t193, true)) else (none))) else (none)) else (some (x183000_49, t193, (decide (t189 < 0)))))) else (none)) else (none)) = some (r1, r2, r3) := H
           have A60 := zab.mk A600;clear A600
           by_cases c61 : 0 ≤ t193
           ·rw [if_pos c61] at H
            have c61b0 := decide_eq_true c61
            clear c61
            by_cases c62 : t193 < (x183000_49.length : Int)
            ·rw [if_pos c62] at H
             have c62b0 := decide_eq_true c62
             clear c62;replace H := Option.bind_eq_some_iff.mp H
             obtain ⟨t196, A630, H⟩ := H
             replace H : (if (t196.length : Int) > (((zaa x183000_49 t193).f2).length : Int) then (if ([] : List (S38)).length + x183000_49.length < 3518437208883 then ((some (([] : List (S38)) ++ x183000_49 : List (S38))).bind fun y200 => (if t193 < (y200.length : Int) then (some ((y200.set (t193 : Int).toNat (⟨(zaa y200 t193).f0, (zaa y200 t193).f1, t196⟩ : S38)), t193, true)) else (none))) else (none)) else (some (x183000_49, t193, (decide (t189 < 0))))) = some (r1, r2, r3) := H
             have A63 := zab.mk A630;clear A630
             by_cases c64 : (t196.length : Int) > (((zaa x183000_49 t193).f2).length : Int)
             ·rw [if_pos c64] at H
              have c64b0 := decide_eq_true c64
              have c64b1 : decide (((zaa x183000_49 t193).f2).length < t196.length) = true := decide_eq_true (Int.ofNat_lt.mp c64)
              clear c64
              by_cases c65 : ([] : List (S38)).length + x183000_49.length < 3518437208883
              ·rw [if_pos c65] at H
               have LMc65 := zab.mk c65;clear c65
               obtain ⟨y200, hy200⟩ : ∃ y_ : List (S38), y_ = (([] : List (S38)) ++ x183000_49) := ⟨_, rfl⟩
               replace H : (if t193 < (y200.length : Int) then (some ((y200.set (t193 : Int).toNat (⟨(zaa y200 t193).f0, (zaa y200 t193).f1, t196⟩ : S38)), t193, true)) else (none)) = some (r1, r2, r3) := by first | (rw [hy200]; with_reducible exact H) | (have H2_ := (Option.bind_some _ _).symm.trans H; rw [hy200]; with_reducible exact H2_) | (have H2_ := (Option.bind_some _ _).symm.trans H; with_reducible exact H2_) | with_reducible exact H | (rw [hy200]; exact H) | exact H
               have Ny200 := zab.mk hy200;clear hy200
               by_cases c66 : t193 < (y200.length : Int)
               ·rw [if_pos c66] at H
                have c66b0 := decide_eq_true c66
                clear c66
                obtain ⟨y203, hy203⟩ : ∃ y_ : List (S38), y_ = (y200.set (t193 : Int).toNat (⟨(zaa y200 t193).f0, (zaa y200 t193).f1, t196⟩ : S38)) := ⟨_, rfl⟩
                replace H : (some (y203, t193, true)) = some (r1, r2, r3) := by first | (rw [hy203]; with_reducible exact H) | (have H2_ := (Option.bind_some _ _).symm.trans H; rw [hy203]; with_reducible exact H2_) | (have H2_ := (Option.bind_some _ _).symm.trans H; with_reducible exact H2_) | with_reducible exact H | (rw [hy203]; exact H) | exact H
                have Ny203 := zab.mk hy203;clear hy203
                simp only [Option.some.injEq, Prod.mk.injEq] at H
                obtain ⟨rfl, rfl, rfl⟩ := H
                have hnb68 := NB182_183.out
                have hnc68 := NB183_182.out
                have hnb69 := NB182_188.out
                have hnc69 := NB188_182.out
                obtain ⟨hcz70_0, hfz70_0⟩ := Yc1 BK182.out
                obtain ⟨Ao71, co71, eo71⟩ := Kd.zbz HO_183000.out
                subst eo71
                go_wp2_with (first | ((with_reducible refine za6 (f := 14) rfl ?_); refine Ygl (some 74) Try.func14 #[.agg #[.slice Ao71 x183000_49.length co71], .int .i64 a2, .int .i64 a3] ?_; (with_reducible refine (zaw.calls kj49 _ _ x183000_49 a2 a3 t193 _ ?side1 ?side2 A59.out).mono ?_); (case side1 => repeat (first | exact (Kd.V_reads' HO_183000.out).2.2 | (with_reducible refine Kd.C_alloc ?_ _) | (with_reducible refine Kd.C_drewN ?_ _) | (with_reducible refine Kd.C_drew ?_))); (case side2 => exact (Kd.V_reads' HO_183000.out).2.1); rintro e w72 ⟨rfl, hb⟩; refine ⟨_, rfl, ?_⟩; replace HO_183000 := zab.mk (Kd.zat (by (with_reducible repeat (first | apply Kd.V_alloc | apply Kd.zak | apply Kd.zam)); exact HO_183000.out) hb); replace HO_189002 := zab.mk (Kd.zat (by (with_reducible repeat (first | apply Kd.V_alloc | apply Kd.zak | apply Kd.zam)); exact HO_189002.out) hb); replace BK182 := Ykb BK182 hb; replace BK183 := Ykb BK183 hb; replace BK188 := Ykb BK188 hb; replace HB := zab.mk (za1 Yb_PGssPushesx6_2 hb); (try clear hb); (try clear hb2); (try clear hk); (try clear hi); obtain ⟨hcz73_0, hfz73_0⟩ := Yc1 BK182.out; have hnb74 := NB188_183.out; have hnc74 := NB183_188.out; obtain ⟨hcz75_0, hfz75_0, hcz75_1, hfz75_1, hcz75_2, hfz75_2⟩ := Yc3 BK188.out) | ((with_reducible refine za6 (f := 14) rfl ?_); refine Ygl (some 80) Try.func14 #[.agg #[.slice Ao71 x183000_49.length co71], .int .i64 ((zaa l0_0 a1).f0), .int .i64 ((zaa l0_0 a1).f1)] ?_; (with_reducible refine (zaw.calls kj49 _ _ x183000_49 ((zaa l0_0 a1).f0) ((zaa l0_0 a1).f1) t194 _ ?side1 ?side2 A60.out).mono ?_); (case side1 => repeat (first | exact (Kd.V_reads' HO_183000.out).2.2 | (with_reducible refine Kd.C_alloc ?_ _) | (with_reducible refine Kd.C_drewN ?_ _) | (with_reducible refine Kd.C_drew ?_))); (case side2 => exact (Kd.V_reads' HO_183000.out).2.1); rintro e w76 ⟨rfl, hb⟩; refine ⟨_, rfl, ?_⟩; replace HO_183000 := zab.mk (Kd.zat (by (with_reducible repeat (first | apply Kd.V_alloc | apply Kd.zak | apply Kd.zam)); exact HO_183000.out) hb); replace HO_189002 := zab.mk (Kd.zat (by (with_reducible repeat (first | apply Kd.V_alloc | apply Kd.zak | apply Kd.zam)); exact HO_189002.out) hb); replace BK182 := Ykb BK182 hb; replace BK183 := Ykb BK183 hb; replace BK188 := Ykb BK188 hb; replace HB := zab.mk (za1 Yb_PGssPushesx6_2 hb); (try clear hb); (try clear hb2); (try clear hk); (try clear hi); obtain ⟨hcz77_0, hfz77_0⟩ := Yc1 BK182.out; have p195 : 0 ≤ (t193 : Int) := Yod; have q195 : t193 < (x183000_49.length : Int) := Yod; obtain ⟨ad195, A195_2, c195_2, e195, hx195_0, hx195_1, hx195_2, hl195_2, hi195_2⟩ := zbn (Kd.V_reads' HO_183000.out).2.2 t193 p195 q195; cases e195; obtain ⟨ce195, hce195, hMe195, hcc195⟩ := Kd.zec HO_183000.out z38 t193 p195 (by first | exact q195 | exact of_decide_eq_true (by first | (with_reducible assumption) | assumption) | (have e_ := (Kd.V_reads' HO_183000.out).1; omega)); obtain ⟨ua195_2, uc195_2, rfl, ul195_2, ge195_2⟩ := zb5 hMe195; have hv195_2 := hcc195 2 _ rfl; rw [zb0 _ _ 2 (by omega)] at hv195_2; replace hv195_2 := Option.some.inj (hv195_2.symm.trans hx195_2); injection hv195_2 with hva_ hvn_ hvc_; rw [hva_] at ge195_2; rw [hvc_] at ul195_2; have HL195_2 := zab.mk (show Kd.V (Kd.int .i64) 3 _ w.heap.size _ _ ((zaa x183000_49 t193).f2) from Kd.V_mk ul195_2 ge195_2); clear hva_ hvn_ hvc_ ge195_2 ul195_2; clear hcc195 hce195; have HR195_2 := zab.mk hi195_2; have HC195_2 := zab.mk hl195_2; clear hi195_2 hl195_2; replace p195 := eq_true p195; replace q195 := eq_true q195) | ((with_reducible refine za6 (f := 43) rfl ?_); refine Ygl (some 88) Try.func43 #[.slice A195_2 ((zaa x183000_49 t193).f2).length c195_2, .int .i64 t194] ?_; (with_reducible refine (zbg.calls kj49 (fun k_ => ((P0_0_ k_ ∨ w.heap.size ≤ k_) ∧ (k_ ≠ gb182 ∧ (k_ ≠ gb183 ∧ k_ ≠ gb188)))) _ _ ((zaa x183000_49 t193).f2) t194 t196 _ ?side1 A63.out).mono ?_); (case side1 => exact HL195_2.out); rintro e w78 ⟨v197, rfl, ho0, hb⟩; refine ⟨_, rfl, ?_⟩; replace HO_183000 := zab.mk (Kd.zat (by (with_reducible repeat (first | apply Kd.V_alloc | apply Kd.zak | apply Kd.zam)); exact HO_183000.out) hb); replace HO_189002 := zab.mk (Kd.zat (by (with_reducible repeat (first | apply Kd.V_alloc | apply Kd.zak | apply Kd.zam)); exact HO_189002.out) hb); replace HL195_2 := zab.mk (Kd.zat (by (with_reducible repeat (first | apply Kd.V_alloc | apply Kd.zak | apply Kd.zam)); exact HL195_2.out) hb); have HO198 := zab.mk (Kd.zc2 (Kd.zar (ok' := fun k_ => (P0_0_ k_ ∨ w.heap.size ≤ k_) ∧ k_ ≠ gb182 ∧ k_ ≠ gb183 ∧ k_ ≠ gb188) ho0 (fun k_ hk_ => ⟨Or.elim hk_ (fun hs_ => hs_.1) (fun hn_ => (.inr (Nat.le_trans (za7 Yb_PGssPushesx6_2) hn_))), Or.elim hk_ (fun hs_ => hs_.2.1) (fun hn_ => (Kd.zbh (g := gb182) (o := .cells #[.slice (some ad195) x183000_49.length co71] 24 (0, 0)) (Yg BK182) k_ hn_)), Or.elim hk_ (fun hs_ => hs_.2.2.1) (fun hn_ => (Kd.zbh (g := gb183) (o := .cells #[.slice none 0 0] 24 (0, 0)) (Yg BK183) k_ hn_)), Or.elim hk_ (fun hs_ => hs_.2.2.2) (fun hn_ => (Kd.zbh (g := gb188) (o := .cells #[.int .i64 ((zaa l0_0 a1).f0), .int .i64 ((zaa l0_0 a1).f1), .slice A187_2 ((zaa l0_0 a1).f2).length c187_2] 38 (0, 0)) (Yg BK188) k_ hn_))⟩)) (za7 Yb_PGssPushesx6_2)); replace BK182 := Ykb BK182 hb; replace BK183 := Ykb BK183 hb; replace BK188 := Ykb BK188 hb; replace HR195_2 := zab.mk (Kd.za4 (by repeat (first | (with_reducible exact HR195_2.out) | (with_reducible refine Kd.C_alloc ?_ _) | (with_reducible refine Kd.C_drewN ?_ _) | (with_reducible refine Kd.C_drew ?_) | exact HR195_2.out)) hb); replace HB := zab.mk (za1 Yb_PGssPushesx6_2 hb); (try clear hb); (try clear hb2); (try clear hk); (try clear hi); (try clear ho0); obtain ⟨Ao79, co79, eo79⟩ := Kd.zbz HO198.out; subst eo79; obtain ⟨hcz80_0, hfz80_0⟩ := Yc1 BK182.out; have p199 : 0 ≤ (t193 : Int) := Yod; have q199 : t193 < (x183000_49.length : Int) := Yod; obtain ⟨ad199, A199_2, c199_2, e199, hx199_0, hx199_1, hx199_2, hl199_2, hi199_2⟩ := zbn (Kd.V_reads' HO_183000.out).2.2 t193 p199 q199; obtain rfl : ad195 = ad199 := (by injection e199); obtain ⟨ce199, hce199, hMe199, hcc199⟩ := Kd.zec HO_183000.out z38 t193 p199 (by first | exact q199 | exact of_decide_eq_true (by first | (with_reducible assumption) | assumption) | (have e_ := (Kd.V_reads' HO_183000.out).1; omega)); obtain ⟨ua199_2, uc199_2, rfl, ul199_2, ge199_2⟩ := zb5 hMe199; have hv199_2 := hcc199 2 _ rfl; rw [zb0 _ _ 2 (by omega)] at hv199_2; replace hv199_2 := Option.some.inj (hv199_2.symm.trans hx199_2); injection hv199_2 with hva_ hvn_ hvc_; rw [hva_] at ge199_2; rw [hvc_] at ul199_2; have HL199_2 := zab.mk (show Kd.V (Kd.int .i64) 3 _ w.heap.size _ _ ((zaa x183000_49 t193).f2) from Kd.V_mk ul199_2 ge199_2); clear hva_ hvn_ hvc_ ge199_2 ul199_2; clear hcc199 hce199; have HR199_2 := zab.mk hi199_2; have HC199_2 := zab.mk hl199_2; clear hi199_2 hl199_2; replace p199 := eq_true p199; replace q199 := eq_true q199) | ((with_reducible refine zca (b := .append) (xs := #[.tmp 99, .tmp 101]) rfl ?_); (try (refine zdk (by rfl) ?_; dsimp only)); at_builtin; refine Kd.zgr k38 (w0 := w) w.heap.size rfl (.tmp 99) (.tmp 101) 22 38 (.agg #[(.int .i64 0), (.int .i64 0), (.slice none 0 0)]) 40 rfl Try.underlying22 info38 rfl (by decide) (by omega) (.slice none 0 0) ([] : List (S38)) x183000_49 _ _ _ (fun k_ => (P0_0_ k_ ∨ w.heap.size ≤ k_) ∧ k_ ≠ gb182 ∧ k_ ≠ gb183 ∧ k_ ≠ gb188) (fun k_ => ((fun k_ => (P0_0_ k_ ∨ w.heap.size ≤ k_) ∧ k_ ≠ gb182 ∧ k_ ≠ gb183 ∧ k_ ≠ gb188)) k_ ∧ some k_ ≠ (.slice none 0 0 : Value).ownBlock) rfl rfl ?aO ?aR (fun _ hk => hk) ?aF ?aB ?aS ?aL ?_; (case aR => exact (by skip; exact Kd.V_F (Kd.zar (ok' := (fun k_ => ((fun k_ => (P0_0_ k_ ∨ w.heap.size ≤ k_) ∧ k_ ≠ gb182 ∧ k_ ≠ gb183 ∧ k_ ≠ gb188)) k_ ∧ some k_ ≠ (.slice none 0 0 : Value).ownBlock)) (HO_183000.out) (fun k_ hk => ⟨⟨hk.1, ⟨hk.2.1, ⟨hk.2.2.1, hk.2.2.2⟩⟩⟩, (by simp [Value.ownBlock])⟩)))); (case aB => exact Yb_PGssPushesx6_2); (case aF => exact (fun k_ hk => ⟨(.inr (Nat.le_trans (za7 Yb_PGssPushesx6_2) hk)), Kd.zbh (g := gb182) (o := .cells #[.slice (some ad195) x183000_49.length co71] 24 (0, 0)) (Yg BK182) k_ hk, Kd.zbh (g := gb183) (o := .cells #[.slice none 0 0] 24 (0, 0)) (Yg BK183) k_ hk, Kd.zbh (g := gb188) (o := .cells #[.int .i64 ((zaa l0_0 a1).f0), .int .i64 ((zaa l0_0 a1).f1), .slice A187_2 ((zaa l0_0 a1).f2).length c187_2] 38 (0, 0)) (Yg BK188) k_ hk⟩)); (case aO => exact ((Kd.N_nil _ _ _ _ (fun k_ => (P0_0_ k_ ∨ w.heap.size ≤ k_) ∧ k_ ≠ gb182 ∧ k_ ≠ gb183 ∧ k_ ≠ gb188)))); (case aS => exact (za7 Yb_PGssPushesx6_2)); (case aL => have := LMc65.out; omega); intro v201 w81 ho hb hg hat; rw [← Ny200.out] at ho; replace HO_183000 := zab.mk (Kd.zbu (Kd.zci (by (with_reducible repeat (first | apply Kd.V_alloc | apply Kd.zak | apply Kd.zam)); exact HO_183000.out)) hg hat); replace HO_189002 := zab.mk (Kd.zbu (Kd.zci (by (with_reducible repeat (first | apply Kd.V_alloc | apply Kd.zak | apply Kd.zam)); exact HO_189002.out)) hg hat); replace BK182 := zab.mk (zbm (g := gb182) (o := .cells #[.slice (some ad195) x183000_49.length co71] 24 (0, 0)) (Yg BK182) hg (by simp [Value.ownBlock])); replace BK183 := zab.mk (zbm (g := gb183) (o := .cells #[.slice none 0 0] 24 (0, 0)) (Yg BK183) hg (by simp [Value.ownBlock])); replace BK188 := zab.mk (zbm (g := gb188) (o := .cells #[.int .i64 ((zaa l0_0 a1).f0), .int .i64 ((zaa l0_0 a1).f1), .slice A187_2 ((zaa l0_0 a1).f2).length c187_2] 38 (0, 0)) (Yg BK188) hg (by simp [Value.ownBlock])); replace HL195_2 := zab.mk (Kd.zbu (Kd.zci (by (with_reducible repeat (first | apply Kd.V_alloc | apply Kd.zak | apply Kd.zam)); exact HL195_2.out)) hg hat); replace HO198 := zab.mk (Kd.zbu (Kd.zci (by (with_reducible repeat (first | apply Kd.V_alloc | apply Kd.zak | apply Kd.zam)); exact HO198.out)) hg hat); replace HL199_2 := zab.mk (Kd.zbu (Kd.zci (by (with_reducible repeat (first | apply Kd.V_alloc | apply Kd.zak | apply Kd.zam)); exact HL199_2.out)) hg hat); replace HB := zab.mk (hb); have HO202 := zab.mk (ho); clear ho hb hg hat; obtain ⟨Ao82, co82, eo82⟩ := Kd.zeh HO202.out; subst eo82; obtain ⟨hcz83_0, hfz83_0⟩ := Yc1 BK182.out) | ((with_reducible refine zdt (t := 22) (p := 103) rfl ?_); refine zdl (t := 22) (p := 103) (v := ?vo_w84) (w1 := (w81.setCell ⟨gb182, 0, none⟩ (.slice Ao82 y200.length co82))) ?hg ?ho ?hn ?hr ?_; (case ho => rfl); (case hg => rfl); (case hn => rfl); (case hr => first | (go_simp; done) | (go_simp; rfl)); intro w84 hw; have n0_ : zab (Kd.V k38 38 w84 w.heap.size (fun k_ => (P0_0_ k_ ∨ w.heap.size ≤ k_) ∧ some k_ ≠ (.slice Ao82 y200.length co82 : Value).ownBlock ∧ k_ ≠ gb182 ∧ k_ ≠ gb183 ∧ k_ ≠ gb188) (.slice (some ad195) x183000_49.length co71) x183000_49) := ⟨(by rw [hw]; exact (by (with_reducible repeat (first | apply Kd.V_alloc | apply Kd.zak | apply Kd.zam)); exact Kd.zar (Kd.za0 (p := ⟨gb182, 0, none⟩) (Kd.zar HO_183000.out (fun k_ hk => (⟨hk, hk.1.2.1⟩ : _ ∧ k_ ≠ gb182))) (fun _ hk => hk.2) (.slice Ao82 y200.length co82)) (fun _ hk => ⟨hk.1.1.1, ⟨hk.1.2, ⟨hk.1.1.2.1, ⟨hk.1.1.2.2.1, hk.1.1.2.2.2⟩⟩⟩⟩)))⟩; have n1_ : zab (Kd.V (Kd.int .i64) 3 w84 w.heap.size (fun k_ => (P0_0_ k_ ∨ w.heap.size ≤ k_) ∧ some k_ ≠ (.slice Ao82 y200.length co82 : Value).ownBlock ∧ k_ ≠ gb182 ∧ k_ ≠ gb183 ∧ k_ ≠ gb188) (.slice A187_2 ((zaa l0_0 a1).f2).length c187_2) ((zaa l0_0 a1).f2)) := ⟨(by rw [hw]; exact (by (with_reducible repeat (first | apply Kd.V_alloc | apply Kd.zak | apply Kd.zam)); exact Kd.zar (Kd.za0 (p := ⟨gb182, 0, none⟩) (Kd.zar HO_189002.out (fun k_ hk => (⟨hk, hk.1.2.1⟩ : _ ∧ k_ ≠ gb182))) (fun _ hk => hk.2) (.slice Ao82 y200.length co82)) (fun _ hk => ⟨hk.1.1.1, ⟨hk.1.2, ⟨hk.1.1.2.1, ⟨hk.1.1.2.2.1, hk.1.1.2.2.2⟩⟩⟩⟩)))⟩; have n2_ : zab (Kd.V (Kd.int .i64) 3 w84 w.heap.size (fun k_ => (P0_0_ k_ ∨ w.heap.size ≤ k_) ∧ some k_ ≠ (.slice Ao82 y200.length co82 : Value).ownBlock ∧ k_ ≠ gb182 ∧ k_ ≠ gb183 ∧ k_ ≠ gb188) (.slice A195_2 ((zaa x183000_49 t193).f2).length c195_2) ((zaa x183000_49 t193).f2)) := ⟨(by rw [hw]; exact (by (with_reducible repeat (first | apply Kd.V_alloc | apply Kd.zak | apply Kd.zam)); exact Kd.zar (Kd.za0 (p := ⟨gb182, 0, none⟩) (Kd.zar HL195_2.out (fun k_ hk => (⟨hk, hk.1.2.1⟩ : _ ∧ k_ ≠ gb182))) (fun _ hk => hk.2) (.slice Ao82 y200.length co82)) (fun _ hk => ⟨hk.1.1.1, ⟨hk.1.2, ⟨hk.1.1.2.1, ⟨hk.1.1.2.2.1, hk.1.1.2.2.2⟩⟩⟩⟩)))⟩; have n3_ : zab (Kd.V (Kd.int .i64) 3 w84 w.heap.size (fun k_ => (P0_0_ k_ ∨ w.heap.size ≤ k_) ∧ some k_ ≠ (.slice Ao82 y200.length co82 : Value).ownBlock ∧ k_ ≠ gb182 ∧ k_ ≠ gb183 ∧ k_ ≠ gb188) (.slice Ao79 t196.length co79) t196) := ⟨(by rw [hw]; exact (by (with_reducible repeat (first | apply Kd.V_alloc | apply Kd.zak | apply Kd.zam)); exact Kd.zar (Kd.za0 (p := ⟨gb182, 0, none⟩) (Kd.zar HO198.out (fun k_ hk => (⟨hk, hk.1.2.1⟩ : _ ∧ k_ ≠ gb182))) (fun _ hk => hk.2) (.slice Ao82 y200.length co82)) (fun _ hk => ⟨hk.1.1.1, ⟨hk.1.2, ⟨hk.1.1.2.1, ⟨hk.1.1.2.2.1, hk.1.1.2.2.2⟩⟩⟩⟩)))⟩; have n4_ : zab (Kd.V (Kd.int .i64) 3 w84 w.heap.size (fun k_ => (P0_0_ k_ ∨ w.heap.size ≤ k_) ∧ some k_ ≠ (.slice Ao82 y200.length co82 : Value).ownBlock ∧ k_ ≠ gb182 ∧ k_ ≠ gb183 ∧ k_ ≠ gb188) (.slice A199_2 ((zaa x183000_49 t193).f2).length c199_2) ((zaa x183000_49 t193).f2)) := ⟨(by rw [hw]; exact (by (with_reducible repeat (first | apply Kd.V_alloc | apply Kd.zak | apply Kd.zam)); exact Kd.zar (Kd.za0 (p := ⟨gb182, 0, none⟩) (Kd.zar HL199_2.out (fun k_ hk => (⟨hk, hk.1.2.1⟩ : _ ∧ k_ ≠ gb182))) (fun _ hk => hk.2) (.slice Ao82 y200.length co82)) (fun _ hk => ⟨hk.1.1.1, ⟨hk.1.2, ⟨hk.1.1.2.1, ⟨hk.1.1.2.2.1, hk.1.1.2.2.2⟩⟩⟩⟩)))⟩; have n5_ : zab (Kd.N k38 38 w84 w.heap.size (fun k_ => (P0_0_ k_ ∨ w.heap.size ≤ k_) ∧ k_ ≠ gb182 ∧ k_ ≠ gb183 ∧ k_ ≠ gb188) (.slice Ao82 y200.length co82) y200) := ⟨(by rw [hw]; exact (by (with_reducible repeat (first | apply Kd.N_alloc | apply Kd.N_drewN | apply Kd.zcr)); exact Kd.zb9 (Kd.zds (p := ⟨gb182, 0, none⟩) (Kd.zb9 HO202.out (fun k_ hk => (⟨hk, hk.2.1⟩ : _ ∧ k_ ≠ gb182))) (fun _ hk => hk.2) (.slice Ao82 y200.length co82)) (fun _ hk => ⟨hk.1.1, ⟨hk.1.2.1, ⟨hk.1.2.2.1, hk.1.2.2.2⟩⟩⟩)))⟩; have n6_ : zab (w84.heap[gb182]? = some (.cells #[.slice Ao82 y200.length co82] 24 (0, 0))) := ⟨(by rw [hw]; exact (by (with_reducible repeat (first | refine zae ?_ _ | refine zac ?_ | refine zad ?_ _)); refine zas (cs := #[.slice (some ad195) x183000_49.length co71]) ?_ 0 _ rfl; (with_reducible repeat (first | refine zae ?_ _ | refine zac ?_ | refine zad ?_ _)); exact BK182.out))⟩; have n7_ : zab (w84.heap[gb183]? = some (.cells #[.slice none 0 0] 24 (0, 0))) := ⟨(by rw [hw]; exact (by (with_reducible repeat (first | refine zae ?_ _ | refine zac ?_ | refine zad ?_ _)); refine zaj ?_ NB183_182.out _; (with_reducible repeat (first | refine zae ?_ _ | refine zac ?_ | refine zad ?_ _)); exact BK183.out))⟩; have n8_ : zab (w84.heap[gb188]? = some (.cells #[.int .i64 ((zaa l0_0 a1).f0), .int .i64 ((zaa l0_0 a1).f1), .slice A187_2 ((zaa l0_0 a1).f2).length c187_2] 38 (0, 0))) := ⟨(by rw [hw]; exact (by (with_reducible repeat (first | refine zae ?_ _ | refine zac ?_ | refine zad ?_ _)); refine zaj ?_ NB188_182.out _; (with_reducible repeat (first | refine zae ?_ _ | refine zac ?_ | refine zad ?_ _)); exact BK188.out))⟩; have n9_ : zab (Below w.heap.size w w84) := ⟨(by rw [hw]; exact Yb_PGssPushesx6_2)⟩; clear hw; clear HO_183000; clear HO_189002; clear HL195_2; clear HO198; clear HL199_2; clear HO202; clear BK182; clear BK183; clear BK188; clear HB; have HO_183000 := n0_; have HO_189002 := n1_; have HL195_2 := n2_; have HO198 := n3_; have HL199_2 := n4_; have HO202 := n5_; have BK182 := n6_; have BK183 := n7_; have BK188 := n8_; have HB := n9_; clear n0_ n1_ n2_ n3_ n4_ n5_ n6_ n7_ n8_ n9_; obtain ⟨hcz85_0, hfz85_0⟩ := Yc1 BK182.out; have p67 : 0 ≤ (t193 : Int) := Yod; have q67 : (t193 : Int) < ((y200.length : Int) : Int) := Yod; obtain ⟨go67, co67, eo67, gb67, gl67, cl67, HG67⟩ := Kd.N_form HO202.out (by omega); (first | cases eo67 | (injection eo67 with ea_ en_ ec_; (first | subst ea_ | (injection ea_ with ea_; subst ea_)); subst ec_; clear en_)); have GB67 := zab.mk gb67; have GG67 := zab.mk HG67; clear gb67 gl67 HG67; obtain ⟨ce67, hcl67, hM67, hcc67, hfr67⟩ := Kd.N_elem HO202.out z38 (t193 : Int) p67 q67; obtain ⟨ua67_2, uc67_2, rfl, ul67_2, ge67_2⟩ := zb5 hM67; have hx67_0 : w84.cell? ⟨go67, (t193 : Int).toNat * 3, none⟩ = some (.int .i64 ((zaa y200 t193).f0)) := hcc67 0 _ rfl; have hx67_1 : w84.cell? ⟨go67, (t193 : Int).toNat * 3 + 1, none⟩ = some (.int .i64 ((zaa y200 t193).f1)) := hcc67 1 _ rfl; have hx67_2 : w84.cell? ⟨go67, (t193 : Int).toNat * 3 + 2, none⟩ = some (.slice ua67_2 ((zaa y200 t193).f2).length uc67_2) := hcc67 2 _ rfl; have hf67_0 : w84.frozen? ⟨go67, (t193 : Int).toNat * 3, none⟩ = false := hfr67 0; have hf67_1 : w84.frozen? ⟨go67, (t193 : Int).toNat * 3 + 1, none⟩ = false := hfr67 1; have hf67_2 : w84.frozen? ⟨go67, (t193 : Int).toNat * 3 + 2, none⟩ = false := hfr67 2; clear hcl67 hcc67 hfr67 hM67; replace p67 := eq_true p67; replace q67 := eq_true q67; have HX86 := zab.mk (show Kd.N k38 38 w84 w.heap.size (fun k_ => (P0_0_ k_ ∨ w.heap.size ≤ k_) ∧ k_ ≠ gb182 ∧ k_ ≠ gb183 ∧ k_ ≠ gb188) (.slice (some ⟨go67, 0, none⟩) y200.length co82) y200 from (by (with_reducible repeat (first | apply Kd.N_alloc | apply Kd.N_drewN | apply Kd.zcr)); exact HO202.out)); obtain ⟨ce86, hcl86, hM86, hcc86, hfr86⟩ := Kd.N_elem HX86.out z38 (t193 : Int) (of_decide_eq_true (by first | (with_reducible assumption) | assumption)) (by have h_ : (t193 : Int) < ((y200.length : Int) : Int) := Yod; first | exact h_ | (have e_ := (Kd.N_reads' HO202.out).1; omega) | simpa using h_); obtain ⟨ua86_2, uc86_2, rfl, ul86_2, ge86_2⟩ := zb5 hM86; have HP86 := Kd.N_seg HX86.out (t193 : Int) (of_decide_eq_true (by first | (with_reducible assumption) | assumption)) (by have h_ : (t193 : Int) < ((y200.length : Int) : Int) := Yod; first | exact h_ | (have e_ := (Kd.N_reads' HO202.out).1; omega) | simpa using h_) (seg := [.slice Ao79 t196.length co79]) (j := 2) hcl86 hcc86 (show 3 ≤ 3 from by decide) (x' := (⟨(zaa y200 t193).f0, (zaa y200 t193).f1, t196⟩ : S38)) (k38_mkF _ _ (⟨(zaa y200 t193).f0, (zaa y200 t193).f1, t196⟩ : S38) (Kd.V_reads' (Kd.zar (ok' := (fun k_ => ((fun k_ => (P0_0_ k_ ∨ w.heap.size ≤ k_) ∧ k_ ≠ gb182 ∧ k_ ≠ gb183 ∧ k_ ≠ gb188)) k_ ∧ k_ ≠ go67)) (HO198.out) (fun k_ hk => ⟨⟨hk.1, ⟨hk.2.2.1, ⟨hk.2.2.2.1, hk.2.2.2.2⟩⟩⟩, fun e_ => (hk.2.1) (by rw [e_]; rfl)⟩))).2.1 (Kd.V_F (Kd.zar (ok' := (fun k_ => ((fun k_ => (P0_0_ k_ ∨ w.heap.size ≤ k_) ∧ k_ ≠ gb182 ∧ k_ ≠ gb183 ∧ k_ ≠ gb188)) k_ ∧ k_ ≠ go67)) (HO198.out) (fun k_ hk => ⟨⟨hk.1, ⟨hk.2.2.1, ⟨hk.2.2.2.1, hk.2.2.2.2⟩⟩⟩, fun e_ => (hk.2.1) (by rw [e_]; rfl)⟩)))) (fun _ hk => hk); have hx86_2 := hcc86 2 _ rfl; (try simp only [show (k38).sz = 3 from rfl, Nat.mul_one, Nat.add_zero] at hx86_2); have hf86_2 := hfr86 2; (try simp only [show (k38).sz = 3 from rfl, Nat.mul_one, Nat.add_zero] at hf86_2); clear hcl86 hcc86 hfr86 hM86) | ((with_reducible refine zdt (t := 31) (p := 109) rfl ?_); refine zdl (t := 31) (p := 109) (v := ?vo_w87) (w1 := (w84.setCell ⟨go67, (t193 : Int).toNat * 3 + 2, none⟩ (.slice Ao79 t196.length co79))) ?hg ?ho ?hn ?hr ?_; (case ho => rfl); (case hg => rfl); (case hn => rfl); (case hr => first | (go_simp; done) | (go_simp; rfl)); intro w87 hw; have hg : w84.grownBy w87 (some go67) := (by rw [hw]; exact HP86.2); have hp_ : Kd.N k38 38 w87 w.heap.size (fun k_ => (P0_0_ k_ ∨ w.heap.size ≤ k_) ∧ k_ ≠ gb182 ∧ k_ ≠ gb183 ∧ k_ ≠ gb188) (.slice (some ⟨go67, 0, none⟩) y200.length co82) y203 := (by rw [hw, Ny203.out]; exact HP86.1); clear HP86; replace HO_183000 := zab.mk (Kd.zbu (v := (.slice (some ⟨go67, 0, none⟩) y200.length co82)) (v1 := (.slice (some ⟨go67, 0, none⟩) y200.length co82)) (ok := (fun k_ => (P0_0_ k_ ∨ w.heap.size ≤ k_) ∧ k_ ≠ gb182 ∧ k_ ≠ gb183 ∧ k_ ≠ gb188)) (by (with_reducible repeat (first | apply Kd.V_alloc | apply Kd.zak | apply Kd.zam)); exact Kd.zar HO_183000.out (fun _ hk => ⟨⟨hk.1, ⟨hk.2.2.1, ⟨hk.2.2.2.1, hk.2.2.2.2⟩⟩⟩, hk.2.1⟩)) hg (.inl rfl)); replace HO_189002 := zab.mk (Kd.zbu (v := (.slice (some ⟨go67, 0, none⟩) y200.length co82)) (v1 := (.slice (some ⟨go67, 0, none⟩) y200.length co82)) (ok := (fun k_ => (P0_0_ k_ ∨ w.heap.size ≤ k_) ∧ k_ ≠ gb182 ∧ k_ ≠ gb183 ∧ k_ ≠ gb188)) (by (with_reducible repeat (first | apply Kd.V_alloc | apply Kd.zak | apply Kd.zam)); exact Kd.zar HO_189002.out (fun _ hk => ⟨⟨hk.1, ⟨hk.2.2.1, ⟨hk.2.2.2.1, hk.2.2.2.2⟩⟩⟩, hk.2.1⟩)) hg (.inl rfl)); replace BK182 := zab.mk (zbm (g := gb182) (o := .cells #[.slice (some ⟨go67, 0, none⟩) y200.length co82] 24 (0, 0)) (Yg BK182) hg (Kd.N_ne HO202.out BK182.out (by decide))); replace BK183 := zab.mk (zbm (g := gb183) (o := .cells #[.slice none 0 0] 24 (0, 0)) (Yg BK183) hg (Kd.N_ne HO202.out BK183.out (by decide))); replace BK188 := zab.mk (zbm (g := gb188) (o := .cells #[.int .i64 ((zaa l0_0 a1).f0), .int .i64 ((zaa l0_0 a1).f1), .slice A187_2 ((zaa l0_0 a1).f2).length c187_2] 38 (0, 0)) (Yg BK188) hg (Kd.zf3 HO202.out (fun _ hk => hk.2.2.2))); replace HL195_2 := zab.mk (Kd.zbu (v := (.slice (some ⟨go67, 0, none⟩) y200.length co82)) (v1 := (.slice (some ⟨go67, 0, none⟩) y200.length co82)) (ok := (fun k_ => (P0_0_ k_ ∨ w.heap.size ≤ k_) ∧ k_ ≠ gb182 ∧ k_ ≠ gb183 ∧ k_ ≠ gb188)) (by (with_reducible repeat (first | apply Kd.V_alloc | apply Kd.zak | apply Kd.zam)); exact Kd.zar HL195_2.out (fun _ hk => ⟨⟨hk.1, ⟨hk.2.2.1, ⟨hk.2.2.2.1, hk.2.2.2.2⟩⟩⟩, hk.2.1⟩)) hg (.inl rfl)); replace HO198 := zab.mk (Kd.zbu (v := (.slice (some ⟨go67, 0, none⟩) y200.length co82)) (v1 := (.slice (some ⟨go67, 0, none⟩) y200.length co82)) (ok := (fun k_ => (P0_0_ k_ ∨ w.heap.size ≤ k_) ∧ k_ ≠ gb182 ∧ k_ ≠ gb183 ∧ k_ ≠ gb188)) (by (with_reducible repeat (first | apply Kd.V_alloc | apply Kd.zak | apply Kd.zam)); exact Kd.zar HO198.out (fun _ hk => ⟨⟨hk.1, ⟨hk.2.2.1, ⟨hk.2.2.2.1, hk.2.2.2.2⟩⟩⟩, hk.2.1⟩)) hg (.inl rfl)); replace HL199_2 := zab.mk (Kd.zbu (v := (.slice (some ⟨go67, 0, none⟩) y200.length co82)) (v1 := (.slice (some ⟨go67, 0, none⟩) y200.length co82)) (ok := (fun k_ => (P0_0_ k_ ∨ w.heap.size ≤ k_) ∧ k_ ≠ gb182 ∧ k_ ≠ gb183 ∧ k_ ≠ gb188)) (by (with_reducible repeat (first | apply Kd.V_alloc | apply Kd.zak | apply Kd.zam)); exact Kd.zar HL199_2.out (fun _ hk => ⟨⟨hk.1, ⟨hk.2.2.1, ⟨hk.2.2.2.1, hk.2.2.2.2⟩⟩⟩, hk.2.1⟩)) hg (.inl rfl)); replace HO202 := zab.mk (hp_); replace HB := zab.mk ((by rw [hw]; exact zau (HB.out) GB67.out : Below w.heap.size w w87)); clear hg hw hp_; obtain ⟨hcz88_0, hfz88_0⟩ := Yc1 BK182.out; obtain ⟨hcz89_0, hfz89_0⟩ := Yc1 BK183.out))
                refine bodyPost_ret (zcc rfl _ _ gb183 24 #[.slice (some ⟨go67, 0, none⟩) y200.length co82] (0, 0) _ rfl (by (with_reducible repeat (first | refine zae ?_ _ | refine zac ?_ | refine zad ?_ _)); refine zas (cs := #[.slice none 0 0]) ?_ 0 _ rfl; (with_reducible repeat (first | refine zae ?_ _ | refine zac ?_ | refine zad ?_ _)); exact BK183.out) Try.underlying24 rfl (by kernel_rfl)) rfl ?_
                exact ⟨_, by first | rfl | (simp [errW_none, errW_some] <;> rfl) | (simp [*, errW_none, errW_some] <;> rfl), Kd.N_V (by (with_reducible repeat (first | apply Kd.N_alloc | apply Kd.N_drewN | apply Kd.zcr)); exact Kd.zb9 (Kd.zds (p := ⟨gb183, 0, none⟩) (Kd.zb9 HO202.out (fun k_ hk => (⟨hk, hk.2.2.1⟩ : _ ∧ k_ ≠ gb183))) (fun _ hk => hk.2) (.slice (some ⟨go67, 0, none⟩) y200.length co82)) (fun _ hk => hk.1.1)), Yb_PGssPushesx6_2⟩
               ·rw [if_neg c66] at H
                exact absurd H (by simp)
              ·rw [if_neg c65] at H
               exact absurd H (by simp)
             ·rw [if_neg c64] at H
              have c64b0 := decide_eq_false c64
              have c64b1 : decide (((zaa x183000_49 t193).f2).length < t196.length) = false := decide_eq_false (fun h => c64 (Int.ofNat_lt.mpr h))
              clear c64
              simp only [Option.some.injEq, Prod.mk.injEq] at H
              obtain ⟨rfl, rfl, rfl⟩ := H
              have hnb90 := NB182_183.out
              have hnc90 := NB183_182.out
              have hnb91 := NB182_188.out
              have hnc91 := NB188_182.out
              obtain ⟨hcz92_0, hfz92_0⟩ := Yc1 BK182.out
              obtain ⟨Ao93, co93, eo93⟩ := Kd.zbz HO_183000.out
              subst eo93
              go_wp2_with (first | ((with_reducible refine za6 (f := 14) rfl ?_); refine Ygl (some 74) Try.func14 #[.agg #[.slice Ao93 x183000_49.length co93], .int .i64 a2, .int .i64 a3] ?_; (with_reducible refine (zaw.calls kj49 _ _ x183000_49 a2 a3 t193 _ ?side1 ?side2 A59.out).mono ?_); (case side1 => repeat (first | exact (Kd.V_reads' HO_183000.out).2.2 | (with_reducible refine Kd.C_alloc ?_ _) | (with_reducible refine Kd.C_drewN ?_ _) | (with_reducible refine Kd.C_drew ?_))); (case side2 => exact (Kd.V_reads' HO_183000.out).2.1); rintro e w94 ⟨rfl, hb⟩; refine ⟨_, rfl, ?_⟩; replace HO_183000 := zab.mk (Kd.zat (by (with_reducible repeat (first | apply Kd.V_alloc | apply Kd.zak | apply Kd.zam)); exact HO_183000.out) hb); replace HO_189002 := zab.mk (Kd.zat (by (with_reducible repeat (first | apply Kd.V_alloc | apply Kd.zak | apply Kd.zam)); exact HO_189002.out) hb); replace BK182 := Ykb BK182 hb; replace BK183 := Ykb BK183 hb; replace BK188 := Ykb BK188 hb; replace HB := zab.mk (za1 Yb_PGssPushesx6_2 hb); (try clear hb); (try clear hb2); (try clear hk); (try clear hi); obtain ⟨hcz95_0, hfz95_0⟩ := Yc1 BK182.out; have hnb96 := NB188_183.out; have hnc96 := NB183_188.out; obtain ⟨hcz97_0, hfz97_0, hcz97_1, hfz97_1, hcz97_2, hfz97_2⟩ := Yc3 BK188.out) | ((with_reducible refine za6 (f := 14) rfl ?_); refine Ygl (some 80) Try.func14 #[.agg #[.slice Ao93 x183000_49.length co93], .int .i64 ((zaa l0_0 a1).f0), .int .i64 ((zaa l0_0 a1).f1)] ?_; (with_reducible refine (zaw.calls kj49 _ _ x183000_49 ((zaa l0_0 a1).f0) ((zaa l0_0 a1).f1) t194 _ ?side1 ?side2 A60.out).mono ?_); (case side1 => repeat (first | exact (Kd.V_reads' HO_183000.out).2.2 | (with_reducible refine Kd.C_alloc ?_ _) | (with_reducible refine Kd.C_drewN ?_ _) | (with_reducible refine Kd.C_drew ?_))); (case side2 => exact (Kd.V_reads' HO_183000.out).2.1); rintro e w98 ⟨rfl, hb⟩; refine ⟨_, rfl, ?_⟩; replace HO_183000 := zab.mk (Kd.zat (by (with_reducible repeat (first | apply Kd.V_alloc | apply Kd.zak | apply Kd.zam)); exact HO_183000.out) hb); replace HO_189002 := zab.mk (Kd.zat (by (with_reducible repeat (first | apply Kd.V_alloc | apply Kd.zak | apply Kd.zam)); exact HO_189002.out) hb); replace BK182 := Ykb BK182 hb; replace BK183 := Ykb BK183 hb; replace BK188 := Ykb BK188 hb; replace HB := zab.mk (za1 Yb_PGssPushesx6_2 hb); (try clear hb); (try clear hb2); (try clear hk); (try clear hi); obtain ⟨hcz99_0, hfz99_0⟩ := Yc1 BK182.out; have p195 : 0 ≤ (t193 : Int) := Yod; have q195 : t193 < (x183000_49.length : Int) := Yod; obtain ⟨ad195, A195_2, c195_2, e195, hx195_0, hx195_1, hx195_2, hl195_2, hi195_2⟩ := zbn (Kd.V_reads' HO_183000.out).2.2 t193 p195 q195; cases e195; obtain ⟨ce195, hce195, hMe195, hcc195⟩ := Kd.zec HO_183000.out z38 t193 p195 (by first | exact q195 | exact of_decide_eq_true (by first | (with_reducible assumption) | assumption) | (have e_ := (Kd.V_reads' HO_183000.out).1; omega)); obtain ⟨ua195_2, uc195_2, rfl, ul195_2, ge195_2⟩ := zb5 hMe195; have hv195_2 := hcc195 2 _ rfl; rw [zb0 _ _ 2 (by omega)] at hv195_2; replace hv195_2 := Option.some.inj (hv195_2.symm.trans hx195_2); injection hv195_2 with hva_ hvn_ hvc_; rw [hva_] at ge195_2; rw [hvc_] at ul195_2; have HL195_2 := zab.mk (show Kd.V (Kd.int .i64) 3 _ w.heap.size _ _ ((zaa x183000_49 t193).f2) from Kd.V_mk ul195_2 ge195_2); clear hva_ hvn_ hvc_ ge195_2 ul195_2; clear hcc195 hce195; have HR195_2 := zab.mk hi195_2; have HC195_2 := zab.mk hl195_2; clear hi195_2 hl195_2; replace p195 := eq_true p195; replace q195 := eq_true q195) | ((with_reducible refine za6 (f := 43) rfl ?_); refine Ygl (some 88) Try.func43 #[.slice A195_2 ((zaa x183000_49 t193).f2).length c195_2, .int .i64 t194] ?_; (with_reducible refine (zbg.calls kj49 (fun k_ => ((P0_0_ k_ ∨ w.heap.size ≤ k_) ∧ (k_ ≠ gb182 ∧ (k_ ≠ gb183 ∧ k_ ≠ gb188)))) _ _ ((zaa x183000_49 t193).f2) t194 t196 _ ?side1 A63.out).mono ?_); (case side1 => exact HL195_2.out); rintro e w100 ⟨v197, rfl, ho0, hb⟩; refine ⟨_, rfl, ?_⟩; replace HO_183000 := zab.mk (Kd.zat (by (with_reducible repeat (first | apply Kd.V_alloc | apply Kd.zak | apply Kd.zam)); exact HO_183000.out) hb); replace HO_189002 := zab.mk (Kd.zat (by (with_reducible repeat (first | apply Kd.V_alloc | apply Kd.zak | apply Kd.zam)); exact HO_189002.out) hb); replace HL195_2 := zab.mk (Kd.zat (by (with_reducible repeat (first | apply Kd.V_alloc | apply Kd.zak | apply Kd.zam)); exact HL195_2.out) hb); have HO198 := zab.mk (Kd.zc2 (Kd.zar (ok' := fun k_ => (P0_0_ k_ ∨ w.heap.size ≤ k_) ∧ k_ ≠ gb182 ∧ k_ ≠ gb183 ∧ k_ ≠ gb188) ho0 (fun k_ hk_ => ⟨Or.elim hk_ (fun hs_ => hs_.1) (fun hn_ => (.inr (Nat.le_trans (za7 Yb_PGssPushesx6_2) hn_))), Or.elim hk_ (fun hs_ => hs_.2.1) (fun hn_ => (Kd.zbh (g := gb182) (o := .cells #[.slice (some ad195) x183000_49.length co93] 24 (0, 0)) (Yg BK182) k_ hn_)), Or.elim hk_ (fun hs_ => hs_.2.2.1) (fun hn_ => (Kd.zbh (g := gb183) (o := .cells #[.slice none 0 0] 24 (0, 0)) (Yg BK183) k_ hn_)), Or.elim hk_ (fun hs_ => hs_.2.2.2) (fun hn_ => (Kd.zbh (g := gb188) (o := .cells #[.int .i64 ((zaa l0_0 a1).f0), .int .i64 ((zaa l0_0 a1).f1), .slice A187_2 ((zaa l0_0 a1).f2).length c187_2] 38 (0, 0)) (Yg BK188) k_ hn_))⟩)) (za7 Yb_PGssPushesx6_2)); replace BK182 := Ykb BK182 hb; replace BK183 := Ykb BK183 hb; replace BK188 := Ykb BK188 hb; replace HR195_2 := zab.mk (Kd.za4 (by repeat (first | (with_reducible exact HR195_2.out) | (with_reducible refine Kd.C_alloc ?_ _) | (with_reducible refine Kd.C_drewN ?_ _) | (with_reducible refine Kd.C_drew ?_) | exact HR195_2.out)) hb); replace HB := zab.mk (za1 Yb_PGssPushesx6_2 hb); (try clear hb); (try clear hb2); (try clear hk); (try clear hi); (try clear ho0); obtain ⟨Ao101, co101, eo101⟩ := Kd.zbz HO198.out; subst eo101; obtain ⟨hcz102_0, hfz102_0⟩ := Yc1 BK182.out; have p199 : 0 ≤ (t193 : Int) := Yod; have q199 : t193 < (x183000_49.length : Int) := Yod; obtain ⟨ad199, A199_2, c199_2, e199, hx199_0, hx199_1, hx199_2, hl199_2, hi199_2⟩ := zbn (Kd.V_reads' HO_183000.out).2.2 t193 p199 q199; obtain rfl : ad195 = ad199 := (by injection e199); obtain ⟨ce199, hce199, hMe199, hcc199⟩ := Kd.zec HO_183000.out z38 t193 p199 (by first | exact q199 | exact of_decide_eq_true (by first | (with_reducible assumption) | assumption) | (have e_ := (Kd.V_reads' HO_183000.out).1; omega)); obtain ⟨ua199_2, uc199_2, rfl, ul199_2, ge199_2⟩ := zb5 hMe199; have hv199_2 := hcc199 2 _ rfl; rw [zb0 _ _ 2 (by omega)] at hv199_2; replace hv199_2 := Option.some.inj (hv199_2.symm.trans hx199_2); injection hv199_2 with hva_ hvn_ hvc_; rw [hva_] at ge199_2; rw [hvc_] at ul199_2; have HL199_2 := zab.mk (show Kd.V (Kd.int .i64) 3 _ w.heap.size _ _ ((zaa x183000_49 t193).f2) from Kd.V_mk ul199_2 ge199_2); clear hva_ hvn_ hvc_ ge199_2 ul199_2; clear hcc199 hce199; have HR199_2 := zab.mk hi199_2; have HC199_2 := zab.mk hl199_2; clear hi199_2 hl199_2; replace p199 := eq_true p199; replace q199 := eq_true q199; obtain ⟨hcz103_0, hfz103_0⟩ := Yc1 BK183.out))
              refine bodyPost_ret (zcc rfl _ _ gb183 24 #[.slice (some ad195) x183000_49.length co93] (0, 0) _ rfl (by (with_reducible repeat (first | refine zae ?_ _ | refine zac ?_ | refine zad ?_ _)); refine zas (cs := #[.slice none 0 0]) ?_ 0 _ rfl; (with_reducible repeat (first | refine zae ?_ _ | refine zac ?_ | refine zad ?_ _)); exact BK183.out) Try.underlying24 rfl (by kernel_rfl)) rfl ?_
              exact ⟨_, by first | rfl | (simp [errW_none, errW_some] <;> rfl) | (simp [*, errW_none, errW_some] <;> rfl), by (with_reducible repeat (first | apply Kd.V_alloc | apply Kd.zak | apply Kd.zam)); exact Kd.zar (Kd.za0 (p := ⟨gb183, 0, none⟩) (Kd.zar HO_183000.out (fun k_ hk => (⟨hk, hk.2.2.1⟩ : _ ∧ k_ ≠ gb183))) (fun _ hk => hk.2) (.slice (some ad195) x183000_49.length co93)) (fun _ hk => hk.1.1), Yb_PGssPushesx6_2⟩
            ·rw [if_neg c62] at H
             exact absurd H (by simp)
           ·rw [if_neg c61] at H
            exact absurd H (by simp)
     ·rw [if_neg c29] at H
      exact absurd H (by simp)
    ·rw [if_neg c28] at H
     exact absurd H (by simp)
theorem Yb_PGssPushesx7_0 {n : Nat} {w w' : World} (h : Below n w w' := by repeat (first | (with_reducible first | exact HB.out | apply za8 | apply za2 | apply zav | refine zau ?_ GE206.out) | exact HB.out)) : Below n w w' := h
theorem Yb_PGssPushesx7_1 {n : Nat} {w w' : World} (h : Below n w w' := by repeat (first | (with_reducible first | exact HB.out | apply za8 | apply za2 | apply zav | refine zau ?_ GE206.out | refine zau ?_ GE207.out) | exact HB.out)) : Below n w w' := h
theorem Yb_PGssPushesx7_2 {n : Nat} {w w' : World} (h : Below n w w' := by repeat (first | (with_reducible first | exact HB.out | apply za8 | apply za2 | apply zav | refine zau ?_ GE206.out | refine zau ?_ GE207.out | refine zau ?_ GE209.out) | exact HB.out)) : Below n w w' := h
theorem Yb_PGssPushesx7_3 {n : Nat} {w w' : World} (h : Below n w w' := by repeat (first | (with_reducible first | exact HB.out | apply za8 | apply za2 | apply zav | refine zau ?_ GE206.out | refine zau ?_ GE207.out | refine zau ?_ GE209.out | refine zau ?_ GE211.out) | exact HB.out)) : Below n w w' := h
def za3.l0 : Nat → List Int → List Int → Int → Option (Bool)
 | 0, _, _, _ => none
 | k + 1, x0, x1, x5 => if x5 < (x0.length : Int) then (if 0 ≤ x5 then (if x5 < (x1.length : Int) then (if (rd x0 x5) = (rd x1 x5) then (za3.l0 k x0 x1 (wrap64 (x5 + 1))) else (some false)) else (none)) else (none)) else (some true)
def za3.f (k : Nat) (l0 : List Int) (l1 : List Int) : Option (Bool) := if (l0.length : Int) = (l1.length : Int) then (za3.l0 k l0 l1 0) else (some false)
theorem za3.calls (k : Nat) (A0 : Option Addr) (c0 : Nat) (l0 : List Int) (A1 : Option Addr) (c1 : Nat) (l1 : List Int) (r : Bool) (w : World) (hr0 : Kd.C (Kd.int .i64) w A0 l0.length l0) (hc0 : l0.length ≤ c0) (hr1 : Kd.C (Kd.int .i64) w A1 l1.length l1) (hc1 : l1.length ≤ c1) (h : za3.f k l0 l1 = some r) :
  Calls Try.prog 44 #[.slice A0 l0.length c0, .slice A1 l1.length c1] w fun e w' => e = .returned (.bool r) ∧ zbc w w' := by
 have HR0 := zab.mk hr0;have HC0 := zab.mk hc0;clear hr0 hc0;have HR1 := zab.mk hr1;have HC1 := zab.mk hc1;clear hr1 hc1
 have H : (if (l0.length : Int) = (l1.length : Int) then (za3.l0 k l0 l1 0) else (some false)) = some r := h
 clear h
 by_cases c3 : (l0.length : Int) = (l1.length : Int)
 ·rw [if_pos c3] at H
  have c3b0 : ((l0.length : Int) == (l1.length : Int)) = true := beq_iff_eq.mpr c3
  have c3b1 : ((l0.length : Int) != (l1.length : Int)) = false := bne_eq_false_iff_eq.mpr c3
  have c3b2 : (l0.length == l1.length) = true := by first | simpa using c3 | (simp at c3 ⊢; omega)
  clear c3
  have H' := zab.mk H
  clear H
  go_enter Try.func44, Try.ntmps44
  go_wp2
  repeat (go_quiet (fail); try go_wp2)
  go_loopg [5] k (fun kq v5 w' => ∃ (x5_1 : Int), v5 = .int .i64 x5_1 ∧ zab (za3.l0 kq l0 l1 x5_1 = some r) ∧ zab (kq ≤ k) ∧ zbc w w')
  case atStart => exact ⟨(0), Yfs, H', ⟨Nat.le_refl _⟩, by repeat (first | exact zbc.refl _ | apply zbc.step)⟩
  case round =>
   clear H'
   obtain ⟨x5_1, rfl, HA, HK1, ⟨m1, rfl⟩⟩ := hrel
   cases gk with
   | zero => exact absurd HA.out (by simp [za3.l0])
   | succ k1 =>
    have H := HA.out;clear HA
    simp only [za3.l0] at H
    by_cases c4 : x5_1 < (l0.length : Int)
    ·rw [if_pos c4] at H
     have c4b0 := decide_eq_true c4
     clear c4
     by_cases c5 : 0 ≤ x5_1
     ·rw [if_pos c5] at H
      have c5b0 := decide_eq_true c5
      clear c5
      by_cases c6 : x5_1 < (l1.length : Int)
      ·rw [if_pos c6] at H
       have c6b0 := decide_eq_true c6
       clear c6
       by_cases c7 : (rd l0 x5_1) = (rd l1 x5_1)
       ·rw [if_pos c7] at H
        have c7b0 : ((rd l0 x5_1) == (rd l1 x5_1)) = true := beq_iff_eq.mpr c7
        have c7b1 : ((rd l0 x5_1) != (rd l1 x5_1)) = false := bne_eq_false_iff_eq.mpr c7
        clear c7
        have H' := zab.mk H
        clear H
        have p204 : 0 ≤ (x5_1 : Int) := Yod
        have q204 : x5_1 < (l0.length : Int) := Yod
        obtain ⟨ad204, e204, hx204_0⟩ := Kd.zb1 HR0.out x5_1 p204 q204
        cases e204
        replace p204 := eq_true p204
        replace q204 := eq_true q204
        have p205 : 0 ≤ (x5_1 : Int) := Yod
        have q205 : x5_1 < (l1.length : Int) := Yod
        obtain ⟨ad205, e205, hx205_0⟩ := Kd.zb1 HR1.out x5_1 p205 q205
        cases e205
        replace p205 := eq_true p205
        replace q205 := eq_true q205
        go_wp2
        repeat (go_quiet (fail); try go_wp2)
        go_roundg k1
        case measure => have := HK1.out; omega
        case rel => exact ⟨(wrap64 (x5_1 + 1)), Yfs, H', ⟨by have := HK1.out; omega⟩, by repeat (first | exact zbc.refl _ | apply zbc.step)⟩
       ·rw [if_neg c7] at H
        have c7b0 : ((rd l0 x5_1) == (rd l1 x5_1)) = false := beq_eq_false_iff_ne.mpr c7
        have c7b1 : ((rd l0 x5_1) != (rd l1 x5_1)) = true := bne_iff_ne.mpr c7
        obtain rfl := Option.some.inj H
        have p204 : 0 ≤ (x5_1 : Int) := Yod
        have q204 : x5_1 < (l0.length : Int) := Yod
        obtain ⟨ad204, e204, hx204_0⟩ := Kd.zb1 HR0.out x5_1 p204 q204
        cases e204
        replace p204 := eq_true p204
        replace q204 := eq_true q204
        have p205 : 0 ≤ (x5_1 : Int) := Yod
        have q205 : x5_1 < (l1.length : Int) := Yod
        obtain ⟨ad205, e205, hx205_0⟩ := Kd.zb1 HR1.out x5_1 p205 q205
        cases e205
        replace p205 := eq_true p205
        replace q205 := eq_true q205
        go_wp2
        repeat (go_quiet (fail); try go_wp2)
        go_ret
        exact ⟨Yfs, by repeat (first | exact zbc.refl _ | apply zbc.step)⟩
      ·rw [if_neg c6] at H
       exact absurd H (by simp)
     ·rw [if_neg c5] at H
      exact absurd H (by simp)
    ·rw [if_neg c4] at H
     have c4b0 := decide_eq_false c4
     clear c4;obtain rfl := Option.some.inj H;go_wp2
     repeat (go_quiet (fail); try go_wp2)
     go_ret
     exact ⟨Yfs, by repeat (first | exact zbc.refl _ | apply zbc.step)⟩
 ·rw [if_neg c3] at H
  have c3b0 : ((l0.length : Int) == (l1.length : Int)) = false := beq_eq_false_iff_ne.mpr c3
  have c3b1 : ((l0.length : Int) != (l1.length : Int)) = true := bne_iff_ne.mpr c3
  have c3b2 : (l0.length == l1.length) = false := by first | simpa using c3 | (simp at c3 ⊢; omega)
  obtain rfl := Option.some.inj H
  go_enter Try.func44, Try.ntmps44
  go_wp2
  repeat (go_quiet (fail); try go_wp2)
  go_ret
  exact ⟨Yfs, by repeat (first | exact zbc.refl _ | apply zbc.step)⟩
def zay.l0 : Nat → Int → List (S38) → List (S38) → Option (Bool)
 | 0, _, _, _ => none
 | k + 1, x5, x207000, x208000 => if x5 < (x207000.length : Int) then (if 0 ≤ x5 then (if x5 < (x208000.length : Int) then (if ((zaa x207000 x5).f0) = ((zaa x208000 x5).f0) then (if ((zaa x207000 x5).f1) = ((zaa x208000 x5).f1) then ((za3.f k ((zaa x207000 x5).f2) ((zaa x208000 x5).f2)).bind fun t212 => (if t212 = true then (zay.l0 k (wrap64 (x5 + 1)) x207000 x208000) else (some false))) else (some false)) else (some false)) else (none)) else (none)) else (some true)
def zay.f (k : Nat) (l0_0 : List (S38)) (l1_0 : List (S38)) : Option (Bool) := if (l0_0.length : Int) = (l1_0.length : Int) then (zay.l0 k 0 l0_0 l1_0) else (some false)
theorem zay.calls (k : Nat) (A0_0 : Option Addr) (c0_0 : Nat) (l0_0 : List (S38)) (A1_0 : Option Addr) (c1_0 : Nat) (l1_0 : List (S38)) (r : Bool) (w : World) (hr0_0 : Kd.C k38 w A0_0 l0_0.length l0_0) (hc0_0 : l0_0.length ≤ c0_0) (hr1_0 : Kd.C k38 w A1_0 l1_0.length l1_0) (hc1_0 : l1_0.length ≤ c1_0) (h : zay.f k l0_0 l1_0 = some r) :
  Calls Try.prog 16 #[.agg #[.slice A0_0 l0_0.length c0_0], .agg #[.slice A1_0 l1_0.length c1_0]] w fun e w' => e = .returned (.bool r) ∧ Below w.heap.size w w' := by
 have hu24 := Try.underlying24
 have hu38 := Try.underlying38
 have HR0_0 := zab.mk hr0_0;have HC0_0 := zab.mk hc0_0;clear hr0_0 hc0_0;have HR1_0 := zab.mk hr1_0;have HC1_0 := zab.mk hc1_0;clear hr1_0 hc1_0
 have HB := zab.mk (Below.refl w.heap.size w)
 have H : (if (l0_0.length : Int) = (l1_0.length : Int) then (zay.l0 k 0 l0_0 l1_0) else (some false)) = some r := h
 clear h
 by_cases c3 : (l0_0.length : Int) = (l1_0.length : Int)
 ·rw [if_pos c3] at H
  have c3b0 : ((l0_0.length : Int) == (l1_0.length : Int)) = true := beq_iff_eq.mpr c3
  have c3b1 : ((l0_0.length : Int) != (l1_0.length : Int)) = false := bne_eq_false_iff_eq.mpr c3
  have c3b2 : (l0_0.length == l1_0.length) = true := by first | simpa using c3 | (simp at c3 ⊢; omega)
  clear c3
  have H' := zab.mk H
  clear H
  go_enter Try.func16, Try.ntmps16
  go_wp2_with (first | ((with_reducible refine zbb (N := 2) rfl ?_); refine Ybx 2 #[.slice A0_0 l0_0.length c0_0] 24 ?_; intro gb206 hg w4 hbox hb; obtain ⟨BK206, GW206, GE206, HB⟩ := Yb4 hbox hg hb Ybe; clear hb hbox hg) | ((with_reducible refine zbb (N := 3) rfl ?_); refine Ybx 3 #[.slice A1_0 l1_0.length c1_0] 24 ?_; intro gb207 hg w5 hbox hb; obtain ⟨BK207, GW207, GE207, HB⟩ := Yb4 hbox hg hb Yb_PGssPushesx7_0; have NB206_207 := Ynl BK206 hg; have NB207_206 := Yng BK206 hg; replace BK206 := Ykb BK206 hb; clear hb hbox hg; have hnb6 := NB206_207.out; have hnc6 := NB207_206.out; obtain ⟨hcz7_0, hfz7_0⟩ := Yc1 BK206.out; obtain ⟨hcz8_0, hfz8_0⟩ := Yc1 BK207.out))
  go_loopg [5] k (fun kq v5 w' => ∃ (x5_1 : Int), v5 = .int .i64 x5_1 ∧ zab (zay.l0 kq x5_1 l0_0 l1_0 = some r) ∧ zab (kq ≤ k) ∧ zab (w'.heap[gb206]? = some (.cells #[(.slice A0_0 l0_0.length c0_0)] 24 (0, 0))) ∧ zab (w'.heap[gb207]? = some (.cells #[(.slice A1_0 l1_0.length c1_0)] 24 (0, 0))) ∧ zab (Below w.heap.size w w'))
  case atStart => exact ⟨(0), Yfs, H', ⟨Nat.le_refl _⟩, ⟨Yg BK206⟩, ⟨Yg BK207⟩, ⟨Yb_PGssPushesx7_1⟩⟩
  case round =>
   clear H'
   obtain ⟨x5_1, rfl, HA, HK1, BK206, BK207, HB⟩ := hrel
   cases gk with
   | zero => exact absurd HA.out (by simp [zay.l0])
   | succ k1 =>
    have H := HA.out;clear HA
    simp only [zay.l0] at H
    by_cases c9 : x5_1 < (l0_0.length : Int)
    ·rw [if_pos c9] at H
     have c9b0 := decide_eq_true c9
     clear c9
     by_cases c10 : 0 ≤ x5_1
     ·rw [if_pos c10] at H
      have c10b0 := decide_eq_true c10
      clear c10
      by_cases c11 : x5_1 < (l1_0.length : Int)
      ·rw [if_pos c11] at H
       have c11b0 := decide_eq_true c11
       clear c11
       by_cases c12 : ((zaa l0_0 x5_1).f0) = ((zaa l1_0 x5_1).f0)
       ·rw [if_pos c12] at H
        have c12b0 : (((zaa l0_0 x5_1).f0) == ((zaa l1_0 x5_1).f0)) = true := beq_iff_eq.mpr c12
        have c12b1 : (((zaa l0_0 x5_1).f0) != ((zaa l1_0 x5_1).f0)) = false := bne_eq_false_iff_eq.mpr c12
        clear c12
        by_cases c13 : ((zaa l0_0 x5_1).f1) = ((zaa l1_0 x5_1).f1)
        ·rw [if_pos c13] at H
         have c13b0 : (((zaa l0_0 x5_1).f1) == ((zaa l1_0 x5_1).f1)) = true := beq_iff_eq.mpr c13
         have c13b1 : (((zaa l0_0 x5_1).f1) != ((zaa l1_0 x5_1).f1)) = false := bne_eq_false_iff_eq.mpr c13
         clear c13;replace H := Option.bind_eq_some_iff.mp H
         obtain ⟨t212, A140, H⟩ := H
         replace H : (if t212 = true then (zay.l0 k1 (wrap64 (x5_1 + 1)) l0_0 l1_0) else (some false)) = some r := H
         have A14 := zab.mk A140;clear A140
         by_cases c15 : t212 = true
         ·subst c15
          have H1 : (zay.l0 k1 (wrap64 (x5_1 + 1)) l0_0 l1_0) = some r := by rw [if_pos rfl] at H; exact H
          clear H;have H := H1;clear H1
          have H' := zab.mk H
          clear H
          have hnb16 := NB206_207.out
          have hnc16 := NB207_206.out
          obtain ⟨hcz17_0, hfz17_0⟩ := Yc1 BK206.out
          have p208 : 0 ≤ (x5_1 : Int) := Yod
          have q208 : x5_1 < (l0_0.length : Int) := Yod
          obtain ⟨ad208, A208_2, c208_2, e208, hx208_0, hx208_1, hx208_2, hl208_2, hi208_2⟩ := zbn HR0_0.out x5_1 p208 q208
          cases e208
          replace hx208_0 := zai HB.out hx208_0
          replace hx208_1 := zai HB.out hx208_1
          replace hx208_2 := zai HB.out hx208_2
          have HR208_2 := zab.mk hi208_2;have HC208_2 := zab.mk hl208_2;clear hi208_2 hl208_2
          replace p208 := eq_true p208
          replace q208 := eq_true q208
          go_wp2_with (first | ((with_reducible refine zbb (N := 6) rfl ?_); refine Ybx 6 #[.int .i64 0, .int .i64 0, .slice none 0 0] 38 ?_; intro gb209 hg w18 hbox hb; obtain ⟨BK209, GW209, GE209, HB⟩ := Yb4 hbox hg hb Yb_PGssPushesx7_1; have NB206_209 := Ynl BK206 hg; have NB209_206 := Yng BK206 hg; replace BK206 := Ykb BK206 hb; have NB207_209 := Ynl BK207 hg; have NB209_207 := Yng BK207 hg; replace BK207 := Ykb BK207 hb; clear hb hbox hg; have hnb19 := NB209_206.out; have hnc19 := NB206_209.out; have hnb20 := NB209_207.out; have hnc20 := NB207_209.out; obtain ⟨hcz21_0, hfz21_0, hcz21_1, hfz21_1, hcz21_2, hfz21_2⟩ := Yc3 BK209.out; obtain ⟨hcz22_0, hfz22_0⟩ := Yc1 BK207.out; have p210 : 0 ≤ (x5_1 : Int) := Yod; have q210 : x5_1 < (l1_0.length : Int) := Yod; obtain ⟨ad210, A210_2, c210_2, e210, hx210_0, hx210_1, hx210_2, hl210_2, hi210_2⟩ := zbn HR1_0.out x5_1 p210 q210; cases e210; have hn210_0 : ad210.block ≠ gb209 := Nat.ne_of_lt (Nat.lt_of_lt_of_le (by have := World.block_lt_of_cell? _ _ hx210_0; first | rwa [add_block] at this | exact this) GW209.out); have hn210_1 : ad210.block ≠ gb209 := Nat.ne_of_lt (Nat.lt_of_lt_of_le (by have := World.block_lt_of_cell? _ _ hx210_0; first | rwa [add_block] at this | exact this) GW209.out); have hn210_2 : ad210.block ≠ gb209 := Nat.ne_of_lt (Nat.lt_of_lt_of_le (by have := World.block_lt_of_cell? _ _ hx210_0; first | rwa [add_block] at this | exact this) GW209.out); replace hx210_0 := zai HB.out hx210_0; replace hx210_1 := zai HB.out hx210_1; replace hx210_2 := zai HB.out hx210_2; have HR210_2 := zab.mk hi210_2; have HC210_2 := zab.mk hl210_2; clear hi210_2 hl210_2; replace hx210_0 := Ycf ⟨gb209, 0, none⟩ (.int .i64 ((zaa l0_0 x5_1).f0)) hn210_0 hx210_0; replace hx210_1 := Ycf ⟨gb209, 0, none⟩ (.int .i64 ((zaa l0_0 x5_1).f0)) hn210_0 hx210_1; replace hx210_2 := Ycf ⟨gb209, 0, none⟩ (.int .i64 ((zaa l0_0 x5_1).f0)) hn210_0 hx210_2; replace hx210_0 := Ycf ⟨gb209, 1, none⟩ (.int .i64 ((zaa l0_0 x5_1).f1)) hn210_1 hx210_0; replace hx210_1 := Ycf ⟨gb209, 1, none⟩ (.int .i64 ((zaa l0_0 x5_1).f1)) hn210_1 hx210_1; replace hx210_2 := Ycf ⟨gb209, 1, none⟩ (.int .i64 ((zaa l0_0 x5_1).f1)) hn210_1 hx210_2; replace hx210_0 := Ycf ⟨gb209, 2, none⟩ (.slice A208_2 ((zaa l0_0 x5_1).f2).length c208_2) hn210_2 hx210_0; replace hx210_1 := Ycf ⟨gb209, 2, none⟩ (.slice A208_2 ((zaa l0_0 x5_1).f2).length c208_2) hn210_2 hx210_1; replace hx210_2 := Ycf ⟨gb209, 2, none⟩ (.slice A208_2 ((zaa l0_0 x5_1).f2).length c208_2) hn210_2 hx210_2; clear hn210_0; clear hn210_1; clear hn210_2; replace p210 := eq_true p210; replace q210 := eq_true q210) | ((with_reducible refine zbb (N := 7) rfl ?_); refine Ybx 7 #[.int .i64 0, .int .i64 0, .slice none 0 0] 38 ?_; intro gb211 hg w23 hbox hb; obtain ⟨BK211, GW211, GE211, HB⟩ := Yb4 hbox hg hb Yb_PGssPushesx7_2; have NB206_211 := zab.mk ((by rw [hg]; exact Nat.ne_of_lt (zbj (g := gb206) (o := .cells #[.slice (some ad208) l0_0.length c0_0] 24 (0, 0)) (by (with_reducible repeat (first | refine zae ?_ _ | refine zac ?_ | refine zad ?_ _)); refine zaj ?_ NB206_209.out _; (with_reducible repeat (first | refine zae ?_ _ | refine zac ?_ | refine zad ?_ _)); refine zaj ?_ NB206_209.out _; (with_reducible repeat (first | refine zae ?_ _ | refine zac ?_ | refine zad ?_ _)); refine zaj ?_ NB206_209.out _; (with_reducible repeat (first | refine zae ?_ _ | refine zac ?_ | refine zad ?_ _)); exact BK206.out)) : gb206 ≠ gb211)); have NB211_206 := zab.mk ((by rw [hg]; exact Nat.ne_of_gt (zbj (g := gb206) (o := .cells #[.slice (some ad208) l0_0.length c0_0] 24 (0, 0)) (by (with_reducible repeat (first | refine zae ?_ _ | refine zac ?_ | refine zad ?_ _)); refine zaj ?_ NB206_209.out _; (with_reducible repeat (first | refine zae ?_ _ | refine zac ?_ | refine zad ?_ _)); refine zaj ?_ NB206_209.out _; (with_reducible repeat (first | refine zae ?_ _ | refine zac ?_ | refine zad ?_ _)); refine zaj ?_ NB206_209.out _; (with_reducible repeat (first | refine zae ?_ _ | refine zac ?_ | refine zad ?_ _)); exact BK206.out)) : gb211 ≠ gb206)); replace BK206 := zab.mk (zax (g := gb206) (o := .cells #[.slice (some ad208) l0_0.length c0_0] 24 (0, 0)) (by (with_reducible repeat (first | refine zae ?_ _ | refine zac ?_ | refine zad ?_ _)); refine zaj ?_ NB206_209.out _; (with_reducible repeat (first | refine zae ?_ _ | refine zac ?_ | refine zad ?_ _)); refine zaj ?_ NB206_209.out _; (with_reducible repeat (first | refine zae ?_ _ | refine zac ?_ | refine zad ?_ _)); refine zaj ?_ NB206_209.out _; (with_reducible repeat (first | refine zae ?_ _ | refine zac ?_ | refine zad ?_ _)); exact BK206.out) hb); have NB207_211 := zab.mk ((by rw [hg]; exact Nat.ne_of_lt (zbj (g := gb207) (o := .cells #[.slice (some ad210) l1_0.length c1_0] 24 (0, 0)) (by (with_reducible repeat (first | refine zae ?_ _ | refine zac ?_ | refine zad ?_ _)); refine zaj ?_ NB207_209.out _; (with_reducible repeat (first | refine zae ?_ _ | refine zac ?_ | refine zad ?_ _)); refine zaj ?_ NB207_209.out _; (with_reducible repeat (first | refine zae ?_ _ | refine zac ?_ | refine zad ?_ _)); refine zaj ?_ NB207_209.out _; (with_reducible repeat (first | refine zae ?_ _ | refine zac ?_ | refine zad ?_ _)); exact BK207.out)) : gb207 ≠ gb211)); have NB211_207 := zab.mk ((by rw [hg]; exact Nat.ne_of_gt (zbj (g := gb207) (o := .cells #[.slice (some ad210) l1_0.length c1_0] 24 (0, 0)) (by (with_reducible repeat (first | refine zae ?_ _ | refine zac ?_ | refine zad ?_ _)); refine zaj ?_ NB207_209.out _; (with_reducible repeat (first | refine zae ?_ _ | refine zac ?_ | refine zad ?_ _)); refine zaj ?_ NB207_209.out _; (with_reducible repeat (first | refine zae ?_ _ | refine zac ?_ | refine zad ?_ _)); refine zaj ?_ NB207_209.out _; (with_reducible repeat (first | refine zae ?_ _ | refine zac ?_ | refine zad ?_ _)); exact BK207.out)) : gb211 ≠ gb207)); replace BK207 := zab.mk (zax (g := gb207) (o := .cells #[.slice (some ad210) l1_0.length c1_0] 24 (0, 0)) (by (with_reducible repeat (first | refine zae ?_ _ | refine zac ?_ | refine zad ?_ _)); refine zaj ?_ NB207_209.out _; (with_reducible repeat (first | refine zae ?_ _ | refine zac ?_ | refine zad ?_ _)); refine zaj ?_ NB207_209.out _; (with_reducible repeat (first | refine zae ?_ _ | refine zac ?_ | refine zad ?_ _)); refine zaj ?_ NB207_209.out _; (with_reducible repeat (first | refine zae ?_ _ | refine zac ?_ | refine zad ?_ _)); exact BK207.out) hb); have NB209_211 := zab.mk ((by rw [hg]; exact Nat.ne_of_lt (zbj (g := gb209) (o := .cells #[.int .i64 ((zaa l0_0 x5_1).f0), .int .i64 ((zaa l0_0 x5_1).f1), .slice A208_2 ((zaa l0_0 x5_1).f2).length c208_2] 38 (0, 0)) (by (with_reducible repeat (first | refine zae ?_ _ | refine zac ?_ | refine zad ?_ _)); refine zas (cs := #[.int .i64 ((zaa l0_0 x5_1).f0), .int .i64 ((zaa l0_0 x5_1).f1), .slice none 0 0]) ?_ 2 _ rfl; (with_reducible repeat (first | refine zae ?_ _ | refine zac ?_ | refine zad ?_ _)); refine zas (cs := #[.int .i64 ((zaa l0_0 x5_1).f0), .int .i64 0, .slice none 0 0]) ?_ 1 _ rfl; (with_reducible repeat (first | refine zae ?_ _ | refine zac ?_ | refine zad ?_ _)); refine zas (cs := #[.int .i64 0, .int .i64 0, .slice none 0 0]) ?_ 0 _ rfl; (with_reducible repeat (first | refine zae ?_ _ | refine zac ?_ | refine zad ?_ _)); exact BK209.out)) : gb209 ≠ gb211)); have NB211_209 := zab.mk ((by rw [hg]; exact Nat.ne_of_gt (zbj (g := gb209) (o := .cells #[.int .i64 ((zaa l0_0 x5_1).f0), .int .i64 ((zaa l0_0 x5_1).f1), .slice A208_2 ((zaa l0_0 x5_1).f2).length c208_2] 38 (0, 0)) (by (with_reducible repeat (first | refine zae ?_ _ | refine zac ?_ | refine zad ?_ _)); refine zas (cs := #[.int .i64 ((zaa l0_0 x5_1).f0), .int .i64 ((zaa l0_0 x5_1).f1), .slice none 0 0]) ?_ 2 _ rfl; (with_reducible repeat (first | refine zae ?_ _ | refine zac ?_ | refine zad ?_ _)); refine zas (cs := #[.int .i64 ((zaa l0_0 x5_1).f0), .int .i64 0, .slice none 0 0]) ?_ 1 _ rfl; (with_reducible repeat (first | refine zae ?_ _ | refine zac ?_ | refine zad ?_ _)); refine zas (cs := #[.int .i64 0, .int .i64 0, .slice none 0 0]) ?_ 0 _ rfl; (with_reducible repeat (first | refine zae ?_ _ | refine zac ?_ | refine zad ?_ _)); exact BK209.out)) : gb211 ≠ gb209)); replace BK209 := zab.mk (zax (g := gb209) (o := .cells #[.int .i64 ((zaa l0_0 x5_1).f0), .int .i64 ((zaa l0_0 x5_1).f1), .slice A208_2 ((zaa l0_0 x5_1).f2).length c208_2] 38 (0, 0)) (by (with_reducible repeat (first | refine zae ?_ _ | refine zac ?_ | refine zad ?_ _)); refine zas (cs := #[.int .i64 ((zaa l0_0 x5_1).f0), .int .i64 ((zaa l0_0 x5_1).f1), .slice none 0 0]) ?_ 2 _ rfl; (with_reducible repeat (first | refine zae ?_ _ | refine zac ?_ | refine zad ?_ _)); refine zas (cs := #[.int .i64 ((zaa l0_0 x5_1).f0), .int .i64 0, .slice none 0 0]) ?_ 1 _ rfl; (with_reducible repeat (first | refine zae ?_ _ | refine zac ?_ | refine zad ?_ _)); refine zas (cs := #[.int .i64 0, .int .i64 0, .slice none 0 0]) ?_ 0 _ rfl; (with_reducible repeat (first | refine zae ?_ _ | refine zac ?_ | refine zad ?_ _)); exact BK209.out) hb); clear hb hbox hg; have hnb24 := NB211_206.out; have hnc24 := NB206_211.out; have hnb25 := NB211_207.out; have hnc25 := NB207_211.out; have hnb26 := NB211_209.out; have hnc26 := NB209_211.out; obtain ⟨hcz27_0, hfz27_0, hcz27_1, hfz27_1, hcz27_2, hfz27_2⟩ := Yc3 BK211.out; obtain ⟨hcz28_0, hfz28_0, hcz28_1, hfz28_1, hcz28_2, hfz28_2⟩ := Yc3 BK209.out) | (go_at_call 44; (with_reducible refine (za3.calls k1 _ _ ((zaa l0_0 x5_1).f2) _ _ ((zaa l1_0 x5_1).f2) true _ (Kd.za4 HR208_2.out Yb_PGssPushesx7_3) HC208_2.out (Kd.za4 HR210_2.out Yb_PGssPushesx7_3) HC210_2.out A14.out).mono ?_); rintro e w' ⟨rfl, ⟨nd, rfl⟩⟩))
          go_roundg k1
          case measure => have := HK1.out; omega
          case rel => exact ⟨(wrap64 (x5_1 + 1)), Yfs, H', ⟨by have := HK1.out; omega⟩, ⟨by (with_reducible repeat (first | refine zae ?_ _ | refine zac ?_ | refine zad ?_ _)); refine zaj ?_ NB206_211.out _; (with_reducible repeat (first | refine zae ?_ _ | refine zac ?_ | refine zad ?_ _)); refine zaj ?_ NB206_211.out _; (with_reducible repeat (first | refine zae ?_ _ | refine zac ?_ | refine zad ?_ _)); refine zaj ?_ NB206_211.out _; (with_reducible repeat (first | refine zae ?_ _ | refine zac ?_ | refine zad ?_ _)); exact BK206.out⟩, ⟨by (with_reducible repeat (first | refine zae ?_ _ | refine zac ?_ | refine zad ?_ _)); refine zaj ?_ NB207_211.out _; (with_reducible repeat (first | refine zae ?_ _ | refine zac ?_ | refine zad ?_ _)); refine zaj ?_ NB207_211.out _; (with_reducible repeat (first | refine zae ?_ _ | refine zac ?_ | refine zad ?_ _)); refine zaj ?_ NB207_211.out _; (with_reducible repeat (first | refine zae ?_ _ | refine zac ?_ | refine zad ?_ _)); exact BK207.out⟩, ⟨Yb_PGssPushesx7_3⟩⟩
         ·replace c15 := Bool.eq_false_iff.mpr c15
          subst c15
          have H1 : (some false) = some r := by rw [if_neg (show ¬ (false = true) by decide)] at H; exact H
          clear H;have H := H1;clear H1;obtain rfl := Option.some.inj H
          have hnb29 := NB206_207.out
          have hnc29 := NB207_206.out
          obtain ⟨hcz30_0, hfz30_0⟩ := Yc1 BK206.out
          have p208 : 0 ≤ (x5_1 : Int) := Yod
          have q208 : x5_1 < (l0_0.length : Int) := Yod
          obtain ⟨ad208, A208_2, c208_2, e208, hx208_0, hx208_1, hx208_2, hl208_2, hi208_2⟩ := zbn HR0_0.out x5_1 p208 q208
          cases e208
          replace hx208_0 := zai HB.out hx208_0
          replace hx208_1 := zai HB.out hx208_1
          replace hx208_2 := zai HB.out hx208_2
          have HR208_2 := zab.mk hi208_2;have HC208_2 := zab.mk hl208_2;clear hi208_2 hl208_2
          replace p208 := eq_true p208
          replace q208 := eq_true q208
          go_wp2_with (first | ((with_reducible refine zbb (N := 6) rfl ?_); refine Ybx 6 #[.int .i64 0, .int .i64 0, .slice none 0 0] 38 ?_; intro gb209 hg w31 hbox hb; obtain ⟨BK209, GW209, GE209, HB⟩ := Yb4 hbox hg hb Yb_PGssPushesx7_1; have NB206_209 := Ynl BK206 hg; have NB209_206 := Yng BK206 hg; replace BK206 := Ykb BK206 hb; have NB207_209 := Ynl BK207 hg; have NB209_207 := Yng BK207 hg; replace BK207 := Ykb BK207 hb; clear hb hbox hg; have hnb32 := NB209_206.out; have hnc32 := NB206_209.out; have hnb33 := NB209_207.out; have hnc33 := NB207_209.out; obtain ⟨hcz34_0, hfz34_0, hcz34_1, hfz34_1, hcz34_2, hfz34_2⟩ := Yc3 BK209.out; obtain ⟨hcz35_0, hfz35_0⟩ := Yc1 BK207.out; have p210 : 0 ≤ (x5_1 : Int) := Yod; have q210 : x5_1 < (l1_0.length : Int) := Yod; obtain ⟨ad210, A210_2, c210_2, e210, hx210_0, hx210_1, hx210_2, hl210_2, hi210_2⟩ := zbn HR1_0.out x5_1 p210 q210; cases e210; have hn210_0 : ad210.block ≠ gb209 := Nat.ne_of_lt (Nat.lt_of_lt_of_le (by have := World.block_lt_of_cell? _ _ hx210_0; first | rwa [add_block] at this | exact this) GW209.out); have hn210_1 : ad210.block ≠ gb209 := Nat.ne_of_lt (Nat.lt_of_lt_of_le (by have := World.block_lt_of_cell? _ _ hx210_0; first | rwa [add_block] at this | exact this) GW209.out); have hn210_2 : ad210.block ≠ gb209 := Nat.ne_of_lt (Nat.lt_of_lt_of_le (by have := World.block_lt_of_cell? _ _ hx210_0; first | rwa [add_block] at this | exact this) GW209.out); replace hx210_0 := zai HB.out hx210_0; replace hx210_1 := zai HB.out hx210_1; replace hx210_2 := zai HB.out hx210_2; have HR210_2 := zab.mk hi210_2; have HC210_2 := zab.mk hl210_2; clear hi210_2 hl210_2; replace hx210_0 := Ycf ⟨gb209, 0, none⟩ (.int .i64 ((zaa l0_0 x5_1).f0)) hn210_0 hx210_0; replace hx210_1 := Ycf ⟨gb209, 0, none⟩ (.int .i64 ((zaa l0_0 x5_1).f0)) hn210_0 hx210_1; replace hx210_2 := Ycf ⟨gb209, 0, none⟩ (.int .i64 ((zaa l0_0 x5_1).f0)) hn210_0 hx210_2; replace hx210_0 := Ycf ⟨gb209, 1, none⟩ (.int .i64 ((zaa l0_0 x5_1).f1)) hn210_1 hx210_0; replace hx210_1 := Ycf ⟨gb209, 1, none⟩ (.int .i64 ((zaa l0_0 x5_1).f1)) hn210_1 hx210_1; replace hx210_2 := Ycf ⟨gb209, 1, none⟩ (.int .i64 ((zaa l0_0 x5_1).f1)) hn210_1 hx210_2; replace hx210_0 := Ycf ⟨gb209, 2, none⟩ (.slice A208_2 ((zaa l0_0 x5_1).f2).length c208_2) hn210_2 hx210_0; replace hx210_1 := Ycf ⟨gb209, 2, none⟩ (.slice A208_2 ((zaa l0_0 x5_1).f2).length c208_2) hn210_2 hx210_1; replace hx210_2 := Ycf ⟨gb209, 2, none⟩ (.slice A208_2 ((zaa l0_0 x5_1).f2).length c208_2) hn210_2 hx210_2; clear hn210_0; clear hn210_1; clear hn210_2; replace p210 := eq_true p210; replace q210 := eq_true q210) | ((with_reducible refine zbb (N := 7) rfl ?_); refine Ybx 7 #[.int .i64 0, .int .i64 0, .slice none 0 0] 38 ?_; intro gb211 hg w36 hbox hb; obtain ⟨BK211, GW211, GE211, HB⟩ := Yb4 hbox hg hb Yb_PGssPushesx7_2; have NB206_211 := zab.mk ((by rw [hg]; exact Nat.ne_of_lt (zbj (g := gb206) (o := .cells #[.slice (some ad208) l0_0.length c0_0] 24 (0, 0)) (by (with_reducible repeat (first | refine zae ?_ _ | refine zac ?_ | refine zad ?_ _)); refine zaj ?_ NB206_209.out _; (with_reducible repeat (first | refine zae ?_ _ | refine zac ?_ | refine zad ?_ _)); refine zaj ?_ NB206_209.out _; (with_reducible repeat (first | refine zae ?_ _ | refine zac ?_ | refine zad ?_ _)); refine zaj ?_ NB206_209.out _; (with_reducible repeat (first | refine zae ?_ _ | refine zac ?_ | refine zad ?_ _)); exact BK206.out)) : gb206 ≠ gb211)); have NB211_206 := zab.mk ((by rw [hg]; exact Nat.ne_of_gt (zbj (g := gb206) (o := .cells #[.slice (some ad208) l0_0.length c0_0] 24 (0, 0)) (by (with_reducible repeat (first | refine zae ?_ _ | refine zac ?_ | refine zad ?_ _)); refine zaj ?_ NB206_209.out _; (with_reducible repeat (first | refine zae ?_ _ | refine zac ?_ | refine zad ?_ _)); refine zaj ?_ NB206_209.out _; (with_reducible repeat (first | refine zae ?_ _ | refine zac ?_ | refine zad ?_ _)); refine zaj ?_ NB206_209.out _; (with_reducible repeat (first | refine zae ?_ _ | refine zac ?_ | refine zad ?_ _)); exact BK206.out)) : gb211 ≠ gb206)); replace BK206 := zab.mk (zax (g := gb206) (o := .cells #[.slice (some ad208) l0_0.length c0_0] 24 (0, 0)) (by (with_reducible repeat (first | refine zae ?_ _ | refine zac ?_ | refine zad ?_ _)); refine zaj ?_ NB206_209.out _; (with_reducible repeat (first | refine zae ?_ _ | refine zac ?_ | refine zad ?_ _)); refine zaj ?_ NB206_209.out _; (with_reducible repeat (first | refine zae ?_ _ | refine zac ?_ | refine zad ?_ _)); refine zaj ?_ NB206_209.out _; (with_reducible repeat (first | refine zae ?_ _ | refine zac ?_ | refine zad ?_ _)); exact BK206.out) hb); have NB207_211 := zab.mk ((by rw [hg]; exact Nat.ne_of_lt (zbj (g := gb207) (o := .cells #[.slice (some ad210) l1_0.length c1_0] 24 (0, 0)) (by (with_reducible repeat (first | refine zae ?_ _ | refine zac ?_ | refine zad ?_ _)); refine zaj ?_ NB207_209.out _; (with_reducible repeat (first | refine zae ?_ _ | refine zac ?_ | refine zad ?_ _)); refine zaj ?_ NB207_209.out _; (with_reducible repeat (first | refine zae ?_ _ | refine zac ?_ | refine zad ?_ _)); refine zaj ?_ NB207_209.out _; (with_reducible repeat (first | refine zae ?_ _ | refine zac ?_ | refine zad ?_ _)); exact BK207.out)) : gb207 ≠ gb211)); have NB211_207 := zab.mk ((by rw [hg]; exact Nat.ne_of_gt (zbj (g := gb207) (o := .cells #[.slice (some ad210) l1_0.length c1_0] 24 (0, 0)) (by (with_reducible repeat (first | refine zae ?_ _ | refine zac ?_ | refine zad ?_ _)); refine zaj ?_ NB207_209.out _; (with_reducible repeat (first | refine zae ?_ _ | refine zac ?_ | refine zad ?_ _)); refine zaj ?_ NB207_209.out _; (with_reducible repeat (first | refine zae ?_ _ | refine zac ?_ | refine zad ?_ _)); refine zaj ?_ NB207_209.out _; (with_reducible repeat (first | refine zae ?_ _ | refine zac ?_ | refine zad ?_ _)); exact BK207.out)) : gb211 ≠ gb207)); replace BK207 := zab.mk (zax (g := gb207) (o := .cells #[.slice (some ad210) l1_0.length c1_0] 24 (0, 0)) (by (with_reducible repeat (first | refine zae ?_ _ | refine zac ?_ | refine zad ?_ _)); refine zaj ?_ NB207_209.out _; (with_reducible repeat (first | refine zae ?_ _ | refine zac ?_ | refine zad ?_ _)); refine zaj ?_ NB207_209.out _; (with_reducible repeat (first | refine zae ?_ _ | refine zac ?_ | refine zad ?_ _)); refine zaj ?_ NB207_209.out _; (with_reducible repeat (first | refine zae ?_ _ | refine zac ?_ | refine zad ?_ _)); exact BK207.out) hb); have NB209_211 := zab.mk ((by rw [hg]; exact Nat.ne_of_lt (zbj (g := gb209) (o := .cells #[.int .i64 ((zaa l0_0 x5_1).f0), .int .i64 ((zaa l0_0 x5_1).f1), .slice A208_2 ((zaa l0_0 x5_1).f2).length c208_2] 38 (0, 0)) (by (with_reducible repeat (first | refine zae ?_ _ | refine zac ?_ | refine zad ?_ _)); refine zas (cs := #[.int .i64 ((zaa l0_0 x5_1).f0), .int .i64 ((zaa l0_0 x5_1).f1), .slice none 0 0]) ?_ 2 _ rfl; (with_reducible repeat (first | refine zae ?_ _ | refine zac ?_ | refine zad ?_ _)); refine zas (cs := #[.int .i64 ((zaa l0_0 x5_1).f0), .int .i64 0, .slice none 0 0]) ?_ 1 _ rfl; (with_reducible repeat (first | refine zae ?_ _ | refine zac ?_ | refine zad ?_ _)); refine zas (cs := #[.int .i64 0, .int .i64 0, .slice none 0 0]) ?_ 0 _ rfl; (with_reducible repeat (first | refine zae ?_ _ | refine zac ?_ | refine zad ?_ _)); exact BK209.out)) : gb209 ≠ gb211)); have NB211_209 := zab.mk ((by rw [hg]; exact Nat.ne_of_gt (zbj (g := gb209) (o := .cells #[.int .i64 ((zaa l0_0 x5_1).f0), .int .i64 ((zaa l0_0 x5_1).f1), .slice A208_2 ((zaa l0_0 x5_1).f2).length c208_2] 38 (0, 0)) (by (with_reducible repeat (first | refine zae ?_ _ | refine zac ?_ | refine zad ?_ _)); refine zas (cs := #[.int .i64 ((zaa l0_0 x5_1).f0), .int .i64 ((zaa l0_0 x5_1).f1), .slice none 0 0]) ?_ 2 _ rfl; (with_reducible repeat (first | refine zae ?_ _ | refine zac ?_ | refine zad ?_ _)); refine zas (cs := #[.int .i64 ((zaa l0_0 x5_1).f0), .int .i64 0, .slice none 0 0]) ?_ 1 _ rfl; (with_reducible repeat (first | refine zae ?_ _ | refine zac ?_ | refine zad ?_ _)); refine zas (cs := #[.int .i64 0, .int .i64 0, .slice none 0 0]) ?_ 0 _ rfl; (with_reducible repeat (first | refine zae ?_ _ | refine zac ?_ | refine zad ?_ _)); exact BK209.out)) : gb211 ≠ gb209)); replace BK209 := zab.mk (zax (g := gb209) (o := .cells #[.int .i64 ((zaa l0_0 x5_1).f0), .int .i64 ((zaa l0_0 x5_1).f1), .slice A208_2 ((zaa l0_0 x5_1).f2).length c208_2] 38 (0, 0)) (by (with_reducible repeat (first | refine zae ?_ _ | refine zac ?_ | refine zad ?_ _)); refine zas (cs := #[.int .i64 ((zaa l0_0 x5_1).f0), .int .i64 ((zaa l0_0 x5_1).f1), .slice none 0 0]) ?_ 2 _ rfl; (with_reducible repeat (first | refine zae ?_ _ | refine zac ?_ | refine zad ?_ _)); refine zas (cs := #[.int .i64 ((zaa l0_0 x5_1).f0), .int .i64 0, .slice none 0 0]) ?_ 1 _ rfl; (with_reducible repeat (first | refine zae ?_ _ | refine zac ?_ | refine zad ?_ _)); refine zas (cs := #[.int .i64 0, .int .i64 0, .slice none 0 0]) ?_ 0 _ rfl; (with_reducible repeat (first | refine zae ?_ _ | refine zac ?_ | refine zad ?_ _)); exact BK209.out) hb); clear hb hbox hg; have hnb37 := NB211_206.out; have hnc37 := NB206_211.out; have hnb38 := NB211_207.out; have hnc38 := NB207_211.out; have hnb39 := NB211_209.out; have hnc39 := NB209_211.out; obtain ⟨hcz40_0, hfz40_0, hcz40_1, hfz40_1, hcz40_2, hfz40_2⟩ := Yc3 BK211.out; obtain ⟨hcz41_0, hfz41_0, hcz41_1, hfz41_1, hcz41_2, hfz41_2⟩ := Yc3 BK209.out) | (go_at_call 44; (with_reducible refine (za3.calls k1 _ _ ((zaa l0_0 x5_1).f2) _ _ ((zaa l1_0 x5_1).f2) false _ (Kd.za4 HR208_2.out Yb_PGssPushesx7_3) HC208_2.out (Kd.za4 HR210_2.out Yb_PGssPushesx7_3) HC210_2.out A14.out).mono ?_); rintro e w' ⟨rfl, ⟨nd, rfl⟩⟩))
          go_ret
          exact ⟨Yfi, Yb_PGssPushesx7_3⟩
        ·rw [if_neg c13] at H
         have c13b0 : (((zaa l0_0 x5_1).f1) == ((zaa l1_0 x5_1).f1)) = false := beq_eq_false_iff_ne.mpr c13
         have c13b1 : (((zaa l0_0 x5_1).f1) != ((zaa l1_0 x5_1).f1)) = true := bne_iff_ne.mpr c13
         obtain rfl := Option.some.inj H
         have hnb42 := NB206_207.out
         have hnc42 := NB207_206.out
         obtain ⟨hcz43_0, hfz43_0⟩ := Yc1 BK206.out
         have p208 : 0 ≤ (x5_1 : Int) := Yod
         have q208 : x5_1 < (l0_0.length : Int) := Yod
         obtain ⟨ad208, A208_2, c208_2, e208, hx208_0, hx208_1, hx208_2, hl208_2, hi208_2⟩ := zbn HR0_0.out x5_1 p208 q208
         cases e208
         replace hx208_0 := zai HB.out hx208_0
         replace hx208_1 := zai HB.out hx208_1
         replace hx208_2 := zai HB.out hx208_2
         have HR208_2 := zab.mk hi208_2;have HC208_2 := zab.mk hl208_2;clear hi208_2 hl208_2
         replace p208 := eq_true p208
         replace q208 := eq_true q208
         go_wp2_with (first | ((with_reducible refine zbb (N := 6) rfl ?_); refine Ybx 6 #[.int .i64 0, .int .i64 0, .slice none 0 0] 38 ?_; intro gb209 hg w44 hbox hb; obtain ⟨BK209, GW209, GE209, HB⟩ := Yb4 hbox hg hb Yb_PGssPushesx7_1; have NB206_209 := Ynl BK206 hg; have NB209_206 := Yng BK206 hg; replace BK206 := Ykb BK206 hb; have NB207_209 := Ynl BK207 hg; have NB209_207 := Yng BK207 hg; replace BK207 := Ykb BK207 hb; clear hb hbox hg; have hnb45 := NB209_206.out; have hnc45 := NB206_209.out; have hnb46 := NB209_207.out; have hnc46 := NB207_209.out; obtain ⟨hcz47_0, hfz47_0, hcz47_1, hfz47_1, hcz47_2, hfz47_2⟩ := Yc3 BK209.out; obtain ⟨hcz48_0, hfz48_0⟩ := Yc1 BK207.out; have p210 : 0 ≤ (x5_1 : Int) := Yod; have q210 : x5_1 < (l1_0.length : Int) := Yod; obtain ⟨ad210, A210_2, c210_2, e210, hx210_0, hx210_1, hx210_2, hl210_2, hi210_2⟩ := zbn HR1_0.out x5_1 p210 q210; cases e210; have hn210_0 : ad210.block ≠ gb209 := Nat.ne_of_lt (Nat.lt_of_lt_of_le (by have := World.block_lt_of_cell? _ _ hx210_0; first | rwa [add_block] at this | exact this) GW209.out); have hn210_1 : ad210.block ≠ gb209 := Nat.ne_of_lt (Nat.lt_of_lt_of_le (by have := World.block_lt_of_cell? _ _ hx210_0; first | rwa [add_block] at this | exact this) GW209.out); have hn210_2 : ad210.block ≠ gb209 := Nat.ne_of_lt (Nat.lt_of_lt_of_le (by have := World.block_lt_of_cell? _ _ hx210_0; first | rwa [add_block] at this | exact this) GW209.out); replace hx210_0 := zai HB.out hx210_0; replace hx210_1 := zai HB.out hx210_1; replace hx210_2 := zai HB.out hx210_2; have HR210_2 := zab.mk hi210_2; have HC210_2 := zab.mk hl210_2; clear hi210_2 hl210_2; replace hx210_0 := Ycf ⟨gb209, 0, none⟩ (.int .i64 ((zaa l0_0 x5_1).f0)) hn210_0 hx210_0; replace hx210_1 := Ycf ⟨gb209, 0, none⟩ (.int .i64 ((zaa l0_0 x5_1).f0)) hn210_0 hx210_1; replace hx210_2 := Ycf ⟨gb209, 0, none⟩ (.int .i64 ((zaa l0_0 x5_1).f0)) hn210_0 hx210_2; replace hx210_0 := Ycf ⟨gb209, 1, none⟩ (.int .i64 ((zaa l0_0 x5_1).f1)) hn210_1 hx210_0; replace hx210_1 := Ycf ⟨gb209, 1, none⟩ (.int .i64 ((zaa l0_0 x5_1).f1)) hn210_1 hx210_1; replace hx210_2 := Ycf ⟨gb209, 1, none⟩ (.int .i64 ((zaa l0_0 x5_1).f1)) hn210_1 hx210_2; replace hx210_0 := Ycf ⟨gb209, 2, none⟩ (.slice A208_2 ((zaa l0_0 x5_1).f2).length c208_2) hn210_2 hx210_0; replace hx210_1 := Ycf ⟨gb209, 2, none⟩ (.slice A208_2 ((zaa l0_0 x5_1).f2).length c208_2) hn210_2 hx210_1; replace hx210_2 := Ycf ⟨gb209, 2, none⟩ (.slice A208_2 ((zaa l0_0 x5_1).f2).length c208_2) hn210_2 hx210_2; clear hn210_0; clear hn210_1; clear hn210_2; replace p210 := eq_true p210; replace q210 := eq_true q210) | ((with_reducible refine zbb (N := 7) rfl ?_); refine Ybx 7 #[.int .i64 0, .int .i64 0, .slice none 0 0] 38 ?_; intro gb211 hg w49 hbox hb; obtain ⟨BK211, GW211, GE211, HB⟩ := Yb4 hbox hg hb Yb_PGssPushesx7_2; have NB206_211 := zab.mk ((by rw [hg]; exact Nat.ne_of_lt (zbj (g := gb206) (o := .cells #[.slice (some ad208) l0_0.length c0_0] 24 (0, 0)) (by (with_reducible repeat (first | refine zae ?_ _ | refine zac ?_ | refine zad ?_ _)); refine zaj ?_ NB206_209.out _; (with_reducible repeat (first | refine zae ?_ _ | refine zac ?_ | refine zad ?_ _)); refine zaj ?_ NB206_209.out _; (with_reducible repeat (first | refine zae ?_ _ | refine zac ?_ | refine zad ?_ _)); refine zaj ?_ NB206_209.out _; (with_reducible repeat (first | refine zae ?_ _ | refine zac ?_ | refine zad ?_ _)); exact BK206.out)) : gb206 ≠ gb211)); have NB211_206 := zab.mk ((by rw [hg]; exact Nat.ne_of_gt (zbj (g := gb206) (o := .cells #[.slice (some ad208) l0_0.length c0_0] 24 (0, 0)) (by (with_reducible repeat (first | refine zae ?_ _ | refine zac ?_ | refine zad ?_ _)); refine zaj ?_ NB206_209.out _; (with_reducible repeat (first | refine zae ?_ _ | refine zac ?_ | refine zad ?_ _)); refine zaj ?_ NB206_209.out _; (with_reducible repeat (first | refine zae ?_ _ | refine zac ?_ | refine zad ?_ _)); refine zaj ?_ NB206_209.out _; (with_reducible repeat (first | refine zae ?_ _ | refine zac ?_ | refine zad ?_ _)); exact BK206.out)) : gb211 ≠ gb206)); replace BK206 := zab.mk (zax (g := gb206) (o := .cells #[.slice (some ad208) l0_0.length c0_0] 24 (0, 0)) (by (with_reducible repeat (first | refine zae ?_ _ | refine zac ?_ | refine zad ?_ _)); refine zaj ?_ NB206_209.out _; (with_reducible repeat (first | refine zae ?_ _ | refine zac ?_ | refine zad ?_ _)); refine zaj ?_ NB206_209.out _; (with_reducible repeat (first | refine zae ?_ _ | refine zac ?_ | refine zad ?_ _)); refine zaj ?_ NB206_209.out _; (with_reducible repeat (first | refine zae ?_ _ | refine zac ?_ | refine zad ?_ _)); exact BK206.out) hb); have NB207_211 := zab.mk ((by rw [hg]; exact Nat.ne_of_lt (zbj (g := gb207) (o := .cells #[.slice (some ad210) l1_0.length c1_0] 24 (0, 0)) (by (with_reducible repeat (first | refine zae ?_ _ | refine zac ?_ | refine zad ?_ _)); refine zaj ?_ NB207_209.out _; (with_reducible repeat (first | refine zae ?_ _ | refine zac ?_ | refine zad ?_ _)); refine zaj ?_ NB207_209.out _; (with_reducible repeat (first | refine zae ?_ _ | refine zac ?_ | refine zad ?_ _)); refine zaj ?_ NB207_209.out _; (with_reducible repeat (first | refine zae ?_ _ | refine zac ?_ | refine zad ?_ _)); exact BK207.out)) : gb207 ≠ gb211)); have NB211_207 := zab.mk ((by rw [hg]; exact Nat.ne_of_gt (zbj (g := gb207) (o := .cells #[.slice (some ad210) l1_0.length c1_0] 24 (0, 0)) (by (with_reducible repeat (first | refine zae ?_ _ | refine zac ?_ | refine zad ?_ _)); refine zaj ?_ NB207_209.out _; (with_reducible repeat (first | refine zae ?_ _ | refine zac ?_ | refine zad ?_ _)); refine zaj ?_ NB207_209.out _; (with_reducible repeat (first | refine zae ?_ _ | refine zac ?_ | refine zad ?_ _)); refine zaj ?_ NB207_209.out _; (with_reducible repeat (first | refine zae ?_ _ | refine zac ?_ | refine zad ?_ _)); exact BK207.out)) : gb211 ≠ gb207)); replace BK207 := zab.mk (zax (g := gb207) (o := .cells #[.slice (some ad210) l1_0.length c1_0] 24 (0, 0)) (by (with_reducible repeat (first | refine zae ?_ _ | refine zac ?_ | refine zad ?_ _)); refine zaj ?_ NB207_209.out _; (with_reducible repeat (first | refine zae ?_ _ | refine zac ?_ | refine zad ?_ _)); refine zaj ?_ NB207_209.out _; (with_reducible repeat (first | refine zae ?_ _ | refine zac ?_ | refine zad ?_ _)); refine zaj ?_ NB207_209.out _; (with_reducible repeat (first | refine zae ?_ _ | refine zac ?_ | refine zad ?_ _)); exact BK207.out) hb); have NB209_211 := zab.mk ((by rw [hg]; exact Nat.ne_of_lt (zbj (g := gb209) (o := .cells #[.int .i64 ((zaa l0_0 x5_1).f0), .int .i64 ((zaa l0_0 x5_1).f1), .slice A208_2 ((zaa l0_0 x5_1).f2).length c208_2] 38 (0, 0)) (by (with_reducible repeat (first | refine zae ?_ _ | refine zac ?_ | refine zad ?_ _)); refine zas (cs := #[.int .i64 ((zaa l0_0 x5_1).f0), .int .i64 ((zaa l0_0 x5_1).f1), .slice none 0 0]) ?_ 2 _ rfl; (with_reducible repeat (first | refine zae ?_ _ | refine zac ?_ | refine zad ?_ _)); refine zas (cs := #[.int .i64 ((zaa l0_0 x5_1).f0), .int .i64 0, .slice none 0 0]) ?_ 1 _ rfl; (with_reducible repeat (first | refine zae ?_ _ | refine zac ?_ | refine zad ?_ _)); refine zas (cs := #[.int .i64 0, .int .i64 0, .slice none 0 0]) ?_ 0 _ rfl; (with_reducible repeat (first | refine zae ?_ _ | refine zac ?_ | refine zad ?_ _)); exact BK209.out)) : gb209 ≠ gb211)); have NB211_209 := zab.mk ((by rw [hg]; exact Nat.ne_of_gt (zbj (g := gb209) (o := .cells #[.int .i64 ((zaa l0_0 x5_1).f0), .int .i64 ((zaa l0_0 x5_1).f1), .slice A208_2 ((zaa l0_0 x5_1).f2).length c208_2] 38 (0, 0)) (by (with_reducible repeat (first | refine zae ?_ _ | refine zac ?_ | refine zad ?_ _)); refine zas (cs := #[.int .i64 ((zaa l0_0 x5_1).f0), .int .i64 ((zaa l0_0 x5_1).f1), .slice none 0 0]) ?_ 2 _ rfl; (with_reducible repeat (first | refine zae ?_ _ | refine zac ?_ | refine zad ?_ _)); refine zas (cs := #[.int .i64 ((zaa l0_0 x5_1).f0), .int .i64 0, .slice none 0 0]) ?_ 1 _ rfl; (with_reducible repeat (first | refine zae ?_ _ | refine zac ?_ | refine zad ?_ _)); refine zas (cs := #[.int .i64 0, .int .i64 0, .slice none 0 0]) ?_ 0 _ rfl; (with_reducible repeat (first | refine zae ?_ _ | refine zac ?_ | refine zad ?_ _)); exact BK209.out)) : gb211 ≠ gb209)); replace BK209 := zab.mk (zax (g := gb209) (o := .cells #[.int .i64 ((zaa l0_0 x5_1).f0), .int .i64 ((zaa l0_0 x5_1).f1), .slice A208_2 ((zaa l0_0 x5_1).f2).length c208_2] 38 (0, 0)) (by (with_reducible repeat (first | refine zae ?_ _ | refine zac ?_ | refine zad ?_ _)); refine zas (cs := #[.int .i64 ((zaa l0_0 x5_1).f0), .int .i64 ((zaa l0_0 x5_1).f1), .slice none 0 0]) ?_ 2 _ rfl; (with_reducible repeat (first | refine zae ?_ _ | refine zac ?_ | refine zad ?_ _)); refine zas (cs := #[.int .i64 ((zaa l0_0 x5_1).f0), .int .i64 0, .slice none 0 0]) ?_ 1 _ rfl; (with_reducible repeat (first | refine zae ?_ _ | refine zac ?_ | refine zad ?_ _)); refine zas (cs := #[.int .i64 0, .int .i64 0, .slice none 0 0]) ?_ 0 _ rfl; (with_reducible repeat (first | refine zae ?_ _ | refine zac ?_ | refine zad ?_ _)); exact BK209.out) hb); clear hb hbox hg; have hnb50 := NB211_206.out; have hnc50 := NB206_211.out; have hnb51 := NB211_207.out; have hnc51 := NB207_211.out; have hnb52 := NB211_209.out; have hnc52 := NB209_211.out; obtain ⟨hcz53_0, hfz53_0, hcz53_1, hfz53_1, hcz53_2, hfz53_2⟩ := Yc3 BK211.out; obtain ⟨hcz54_0, hfz54_0, hcz54_1, hfz54_1, hcz54_2, hfz54_2⟩ := Yc3 BK209.out))
         go_ret
         exact ⟨Yfi, Yb_PGssPushesx7_3⟩
       ·rw [if_neg c12] at H
        have c12b0 : (((zaa l0_0 x5_1).f0) == ((zaa l1_0 x5_1).f0)) = false := beq_eq_false_iff_ne.mpr c12
        have c12b1 : (((zaa l0_0 x5_1).f0) != ((zaa l1_0 x5_1).f0)) = true := bne_iff_ne.mpr c12
        obtain rfl := Option.some.inj H
        have hnb55 := NB206_207.out
        have hnc55 := NB207_206.out
        obtain ⟨hcz56_0, hfz56_0⟩ := Yc1 BK206.out
        have p208 : 0 ≤ (x5_1 : Int) := Yod
        have q208 : x5_1 < (l0_0.length : Int) := Yod
        obtain ⟨ad208, A208_2, c208_2, e208, hx208_0, hx208_1, hx208_2, hl208_2, hi208_2⟩ := zbn HR0_0.out x5_1 p208 q208
        cases e208
        replace hx208_0 := zai HB.out hx208_0
        replace hx208_1 := zai HB.out hx208_1
        replace hx208_2 := zai HB.out hx208_2
        have HR208_2 := zab.mk hi208_2;have HC208_2 := zab.mk hl208_2;clear hi208_2 hl208_2
        replace p208 := eq_true p208
        replace q208 := eq_true q208
        go_wp2_with (first | ((with_reducible refine zbb (N := 6) rfl ?_); refine Ybx 6 #[.int .i64 0, .int .i64 0, .slice none 0 0] 38 ?_; intro gb209 hg w57 hbox hb; obtain ⟨BK209, GW209, GE209, HB⟩ := Yb4 hbox hg hb Yb_PGssPushesx7_1; have NB206_209 := Ynl BK206 hg; have NB209_206 := Yng BK206 hg; replace BK206 := Ykb BK206 hb; have NB207_209 := Ynl BK207 hg; have NB209_207 := Yng BK207 hg; replace BK207 := Ykb BK207 hb; clear hb hbox hg; have hnb58 := NB209_206.out; have hnc58 := NB206_209.out; have hnb59 := NB209_207.out; have hnc59 := NB207_209.out; obtain ⟨hcz60_0, hfz60_0, hcz60_1, hfz60_1, hcz60_2, hfz60_2⟩ := Yc3 BK209.out; obtain ⟨hcz61_0, hfz61_0⟩ := Yc1 BK207.out; have p210 : 0 ≤ (x5_1 : Int) := Yod; have q210 : x5_1 < (l1_0.length : Int) := Yod; obtain ⟨ad210, A210_2, c210_2, e210, hx210_0, hx210_1, hx210_2, hl210_2, hi210_2⟩ := zbn HR1_0.out x5_1 p210 q210; cases e210; have hn210_0 : ad210.block ≠ gb209 := Nat.ne_of_lt (Nat.lt_of_lt_of_le (by have := World.block_lt_of_cell? _ _ hx210_0; first | rwa [add_block] at this | exact this) GW209.out); have hn210_1 : ad210.block ≠ gb209 := Nat.ne_of_lt (Nat.lt_of_lt_of_le (by have := World.block_lt_of_cell? _ _ hx210_0; first | rwa [add_block] at this | exact this) GW209.out); have hn210_2 : ad210.block ≠ gb209 := Nat.ne_of_lt (Nat.lt_of_lt_of_le (by have := World.block_lt_of_cell? _ _ hx210_0; first | rwa [add_block] at this | exact this) GW209.out); replace hx210_0 := zai HB.out hx210_0; replace hx210_1 := zai HB.out hx210_1; replace hx210_2 := zai HB.out hx210_2; have HR210_2 := zab.mk hi210_2; have HC210_2 := zab.mk hl210_2; clear hi210_2 hl210_2; replace hx210_0 := Ycf ⟨gb209, 0, none⟩ (.int .i64 ((zaa l0_0 x5_1).f0)) hn210_0 hx210_0; replace hx210_1 := Ycf ⟨gb209, 0, none⟩ (.int .i64 ((zaa l0_0 x5_1).f0)) hn210_0 hx210_1; replace hx210_2 := Ycf ⟨gb209, 0, none⟩ (.int .i64 ((zaa l0_0 x5_1).f0)) hn210_0 hx210_2; replace hx210_0 := Ycf ⟨gb209, 1, none⟩ (.int .i64 ((zaa l0_0 x5_1).f1)) hn210_1 hx210_0; replace hx210_1 := Ycf ⟨gb209, 1, none⟩ (.int .i64 ((zaa l0_0 x5_1).f1)) hn210_1 hx210_1; replace hx210_2 := Ycf ⟨gb209, 1, none⟩ (.int .i64 ((zaa l0_0 x5_1).f1)) hn210_1 hx210_2; replace hx210_0 := Ycf ⟨gb209, 2, none⟩ (.slice A208_2 ((zaa l0_0 x5_1).f2).length c208_2) hn210_2 hx210_0; replace hx210_1 := Ycf ⟨gb209, 2, none⟩ (.slice A208_2 ((zaa l0_0 x5_1).f2).length c208_2) hn210_2 hx210_1; replace hx210_2 := Ycf ⟨gb209, 2, none⟩ (.slice A208_2 ((zaa l0_0 x5_1).f2).length c208_2) hn210_2 hx210_2; clear hn210_0; clear hn210_1; clear hn210_2; replace p210 := eq_true p210; replace q210 := eq_true q210) | ((with_reducible refine zbb (N := 7) rfl ?_); refine Ybx 7 #[.int .i64 0, .int .i64 0, .slice none 0 0] 38 ?_; intro gb211 hg w62 hbox hb; obtain ⟨BK211, GW211, GE211, HB⟩ := Yb4 hbox hg hb Yb_PGssPushesx7_2; have NB206_211 := zab.mk ((by rw [hg]; exact Nat.ne_of_lt (zbj (g := gb206) (o := .cells #[.slice (some ad208) l0_0.length c0_0] 24 (0, 0)) (by (with_reducible repeat (first | refine zae ?_ _ | refine zac ?_ | refine zad ?_ _)); refine zaj ?_ NB206_209.out _; (with_reducible repeat (first | refine zae ?_ _ | refine zac ?_ | refine zad ?_ _)); refine zaj ?_ NB206_209.out _; (with_reducible repeat (first | refine zae ?_ _ | refine zac ?_ | refine zad ?_ _)); refine zaj ?_ NB206_209.out _; (with_reducible repeat (first | refine zae ?_ _ | refine zac ?_ | refine zad ?_ _)); exact BK206.out)) : gb206 ≠ gb211)); have NB211_206 := zab.mk ((by rw [hg]; exact Nat.ne_of_gt (zbj (g := gb206) (o := .cells #[.slice (some ad208) l0_0.length c0_0] 24 (0, 0)) (by (with_reducible repeat (first | refine zae ?_ _ | refine zac ?_ | refine zad ?_ _)); refine zaj ?_ NB206_209.out _; (with_reducible repeat (first | refine zae ?_ _ | refine zac ?_ | refine zad ?_ _)); refine zaj ?_ NB206_209.out _; (with_reducible repeat (first | refine zae ?_ _ | refine zac ?_ | refine zad ?_ _)); refine zaj ?_ NB206_209.out _; (with_reducible repeat (first | refine zae ?_ _ | refine zac ?_ | refine zad ?_ _)); exact BK206.out)) : gb211 ≠ gb206)); replace BK206 := zab.mk (zax (g := gb206) (o := .cells #[.slice (some ad208) l0_0.length c0_0] 24 (0, 0)) (by (with_reducible repeat (first | refine zae ?_ _ | refine zac ?_ | refine zad ?_ _)); refine zaj ?_ NB206_209.out _; (with_reducible repeat (first | refine zae ?_ _ | refine zac ?_ | refine zad ?_ _)); refine zaj ?_ NB206_209.out _; (with_reducible repeat (first | refine zae ?_ _ | refine zac ?_ | refine zad ?_ _)); refine zaj ?_ NB206_209.out _; (with_reducible repeat (first | refine zae ?_ _ | refine zac ?_ | refine zad ?_ _)); exact BK206.out) hb); have NB207_211 := zab.mk ((by rw [hg]; exact Nat.ne_of_lt (zbj (g := gb207) (o := .cells #[.slice (some ad210) l1_0.length c1_0] 24 (0, 0)) (by (with_reducible repeat (first | refine zae ?_ _ | refine zac ?_ | refine zad ?_ _)); refine zaj ?_ NB207_209.out _; (with_reducible repeat (first | refine zae ?_ _ | refine zac ?_ | refine zad ?_ _)); refine zaj ?_ NB207_209.out _; (with_reducible repeat (first | refine zae ?_ _ | refine zac ?_ | refine zad ?_ _)); refine zaj ?_ NB207_209.out _; (with_reducible repeat (first | refine zae ?_ _ | refine zac ?_ | refine zad ?_ _)); exact BK207.out)) : gb207 ≠ gb211)); have NB211_207 := zab.mk ((by rw [hg]; exact Nat.ne_of_gt (zbj (g := gb207) (o := .cells #[.slice (some ad210) l1_0.length c1_0] 24 (0, 0)) (by (with_reducible repeat (first | refine zae ?_ _ | refine zac ?_ | refine zad ?_ _)); refine zaj ?_ NB207_209.out _; (with_reducible repeat (first | refine zae ?_ _ | refine zac ?_ | refine zad ?_ _)); refine zaj ?_ NB207_209.out _; (with_reducible repeat (first | refine zae ?_ _ | refine zac ?_ | refine zad ?_ _)); refine zaj ?_ NB207_209.out _; (with_reducible repeat (first | refine zae ?_ _ | refine zac ?_ | refine zad ?_ _)); exact BK207.out)) : gb211 ≠ gb207)); replace BK207 := zab.mk (zax (g := gb207) (o := .cells #[.slice (some ad210) l1_0.length c1_0] 24 (0, 0)) (by (with_reducible repeat (first | refine zae ?_ _ | refine zac ?_ | refine zad ?_ _)); refine zaj ?_ NB207_209.out _; (with_reducible repeat (first | refine zae ?_ _ | refine zac ?_ | refine zad ?_ _)); refine zaj ?_ NB207_209.out _; (with_reducible repeat (first | refine zae ?_ _ | refine zac ?_ | refine zad ?_ _)); refine zaj ?_ NB207_209.out _; (with_reducible repeat (first | refine zae ?_ _ | refine zac ?_ | refine zad ?_ _)); exact BK207.out) hb); have NB209_211 := zab.mk ((by rw [hg]; exact Nat.ne_of_lt (zbj (g := gb209) (o := .cells #[.int .i64 ((zaa l0_0 x5_1).f0), .int .i64 ((zaa l0_0 x5_1).f1), .slice A208_2 ((zaa l0_0 x5_1).f2).length c208_2] 38 (0, 0)) (by (with_reducible repeat (first | refine zae ?_ _ | refine zac ?_ | refine zad ?_ _)); refine zas (cs := #[.int .i64 ((zaa l0_0 x5_1).f0), .int .i64 ((zaa l0_0 x5_1).f1), .slice none 0 0]) ?_ 2 _ rfl; (with_reducible repeat (first | refine zae ?_ _ | refine zac ?_ | refine zad ?_ _)); refine zas (cs := #[.int .i64 ((zaa l0_0 x5_1).f0), .int .i64 0, .slice none 0 0]) ?_ 1 _ rfl; (with_reducible repeat (first | refine zae ?_ _ | refine zac ?_ | refine zad ?_ _)); refine zas (cs := #[.int .i64 0, .int .i64 0, .slice none 0 0]) ?_ 0 _ rfl; (with_reducible repeat (first | refine zae ?_ _ | refine zac ?_ | refine zad ?_ _)); exact BK209.out)) : gb209 ≠ gb211)); have NB211_209 := zab.mk ((by rw [hg]; exact Nat.ne_of_gt (zbj (g := gb209) (o := .cells #[.int .i64 ((zaa l0_0 x5_1).f0), .int .i64 ((zaa l0_0 x5_1).f1), .slice A208_2 ((zaa l0_0 x5_1).f2).length c208_2] 38 (0, 0)) (by (with_reducible repeat (first | refine zae ?_ _ | refine zac ?_ | refine zad ?_ _)); refine zas (cs := #[.int .i64 ((zaa l0_0 x5_1).f0), .int .i64 ((zaa l0_0 x5_1).f1), .slice none 0 0]) ?_ 2 _ rfl; (with_reducible repeat (first | refine zae ?_ _ | refine zac ?_ | refine zad ?_ _)); refine zas (cs := #[.int .i64 ((zaa l0_0 x5_1).f0), .int .i64 0, .slice none 0 0]) ?_ 1 _ rfl; (with_reducible repeat (first | refine zae ?_ _ | refine zac ?_ | refine zad ?_ _)); refine zas (cs := #[.int .i64 0, .int .i64 0, .slice none 0 0]) ?_ 0 _ rfl; (with_reducible repeat (first | refine zae ?_ _ | refine zac ?_ | refine zad ?_ _)); exact BK209.out)) : gb211 ≠ gb209)); replace BK209 := zab.mk (zax (g := gb209) (o := .cells #[.int .i64 ((zaa l0_0 x5_1).f0), .int .i64 ((zaa l0_0 x5_1).f1), .slice A208_2 ((zaa l0_0 x5_1).f2).length c208_2] 38 (0, 0)) (by (with_reducible repeat (first | refine zae ?_ _ | refine zac ?_ | refine zad ?_ _)); refine zas (cs := #[.int .i64 ((zaa l0_0 x5_1).f0), .int .i64 ((zaa l0_0 x5_1).f1), .slice none 0 0]) ?_ 2 _ rfl; (with_reducible repeat (first | refine zae ?_ _ | refine zac ?_ | refine zad ?_ _)); refine zas (cs := #[.int .i64 ((zaa l0_0 x5_1).f0), .int .i64 0, .slice none 0 0]) ?_ 1 _ rfl; (with_reducible repeat (first | refine zae ?_ _ | refine zac ?_ | refine zad ?_ _)); refine zas (cs := #[.int .i64 0, .int .i64 0, .slice none 0 0]) ?_ 0 _ rfl; (with_reducible repeat (first | refine zae ?_ _ | refine zac ?_ | refine zad ?_ _)); exact BK209.out) hb); clear hb hbox hg; have hnb63 := NB211_206.out; have hnc63 := NB206_211.out; have hnb64 := NB211_207.out; have hnc64 := NB207_211.out; have hnb65 := NB211_209.out; have hnc65 := NB209_211.out; obtain ⟨hcz66_0, hfz66_0, hcz66_1, hfz66_1, hcz66_2, hfz66_2⟩ := Yc3 BK211.out; obtain ⟨hcz67_0, hfz67_0, hcz67_1, hfz67_1, hcz67_2, hfz67_2⟩ := Yc3 BK209.out))
        go_ret
        exact ⟨Yfi, Yb_PGssPushesx7_3⟩
      ·rw [if_neg c11] at H
       exact absurd H (by simp)
     ·rw [if_neg c10] at H
      exact absurd H (by simp)
    ·rw [if_neg c9] at H
     have c9b0 := decide_eq_false c9
     clear c9;obtain rfl := Option.some.inj H
     have hnb68 := NB206_207.out
     have hnc68 := NB207_206.out
     obtain ⟨hcz69_0, hfz69_0⟩ := Yc1 BK206.out
     go_wp2;go_ret
     exact ⟨Yfi, Yb_PGssPushesx7_1⟩
 ·rw [if_neg c3] at H
  have c3b0 : ((l0_0.length : Int) == (l1_0.length : Int)) = false := beq_eq_false_iff_ne.mpr c3
  have c3b1 : ((l0_0.length : Int) != (l1_0.length : Int)) = true := bne_iff_ne.mpr c3
  have c3b2 : (l0_0.length == l1_0.length) = false := by first | simpa using c3 | (simp at c3 ⊢; omega)
  obtain rfl := Option.some.inj H
  go_enter Try.func16, Try.ntmps16
  go_wp2_with (first | ((with_reducible refine zbb (N := 2) rfl ?_); refine Ybx 2 #[.slice A0_0 l0_0.length c0_0] 24 ?_; intro gb206 hg w70 hbox hb; obtain ⟨BK206, GW206, GE206, HB⟩ := Yb4 hbox hg hb Ybe; clear hb hbox hg) | ((with_reducible refine zbb (N := 3) rfl ?_); refine Ybx 3 #[.slice A1_0 l1_0.length c1_0] 24 ?_; intro gb207 hg w71 hbox hb; obtain ⟨BK207, GW207, GE207, HB⟩ := Yb4 hbox hg hb Yb_PGssPushesx7_0; have NB206_207 := Ynl BK206 hg; have NB207_206 := Yng BK206 hg; replace BK206 := Ykb BK206 hb; clear hb hbox hg; have hnb72 := NB206_207.out; have hnc72 := NB207_206.out; obtain ⟨hcz73_0, hfz73_0⟩ := Yc1 BK206.out; obtain ⟨hcz74_0, hfz74_0⟩ := Yc1 BK207.out))
  go_ret
  exact ⟨Yfi, Yb_PGssPushesx7_1⟩
def zcs.f (l0_0 : List S38) (l1_0 : List S38) : Option (List S38) :=
 if GGiv.fitB (l0_0.map ndT) = true ∧ GGiv.fitB (l1_0.map ndT) = true ∧ l0_0.length + l1_0.length ≤ 4096 ∧ GAdd.cntG (l0_0.map ndT) + GAdd.cntG (l1_0.map ndT) ≤ 100000000 then some ((G16.zdo (l0_0.map ndT) (l1_0.map ndT)).map ndS) else none
theorem zcs.calls (A0_0 : Option Addr) (c0_0 : Nat) (l0_0 : List S38) (A1_0 : Option Addr) (c1_0 : Nat) (l1_0 : List S38) (r : List S38) (w : World) (hr0_0 : Kd.C k38 w A0_0 l0_0.length l0_0) (hc0_0 : l0_0.length ≤ c0_0) (hr1_0 : Kd.C k38 w A1_0 l1_0.length l1_0) (hc1_0 : l1_0.length ≤ c1_0) (h : zcs.f l0_0 l1_0 = some r) :
  Calls Try.prog 17 #[.agg #[.slice A0_0 l0_0.length c0_0], .agg #[.slice A1_0 l1_0.length c1_0]] w fun e w' => ∃ v0_ : Value, e = .returned (.agg #[v0_]) ∧ Kd.R k38 38 w' w.heap.size (fun _ => True) v0_ r ∧ Below w.heap.size w w' := by
 unfold zcs.f at h
 split at h
 case isFalse => cases h
 rename_i hok
 obtain rfl := Option.some.inj h
 have hl0 : (l0_0.map ndT).length = l0_0.length := by simp
 have hl1 : (l1_0.map ndT).length = l1_0.length := by simp
 have hc := GMerge.merge_calls A0_0 A1_0 c0_0 c1_0 (l0_0.map ndT) (l1_0.map ndT) w (by rw [hl0]; exact C_ndT hr0_0) (by rw [hl1]; exact C_ndT hr1_0) (GGiv.fit_fit hok.1) (GGiv.fit_fit hok.2.1) (by rw [hl0, hl1]; exact hok.2.2.1) hok.2.2.2
 rw [hl0, hl1] at hc
 refine hc.mono ?_
 rintro e w' ⟨v, rfl, hR, hB⟩
 exact ⟨v, rfl, R_ndS hR, hB⟩
theorem Yb_PGssPushesx8_0 {n : Nat} {w w' : World} (h : Below n w w' := by repeat (first | (with_reducible first | exact HB.out | apply za8 | apply za2 | apply zav | refine zau ?_ GE213.out) | exact HB.out)) : Below n w w' := h
theorem Yb_PGssPushesx8_1 {n : Nat} {w w' : World} (h : Below n w w' := by repeat (first | (with_reducible first | exact HB.out | apply za8 | apply za2 | apply zav | refine zau ?_ GE213.out | refine zau ?_ GE214.out) | exact HB.out)) : Below n w w' := h
theorem Yb_PGssPushesx8_2 {n : Nat} {w w' : World} (h : Below n w w' := by repeat (first | (with_reducible first | exact HB.out | apply za8 | apply za2 | apply zav | refine zau ?_ GE213.out | refine zau ?_ GE214.out | refine zau ?_ GE215.out) | exact HB.out)) : Below n w w' := h
theorem Yb_PGssPushesx8_3 {n : Nat} {w w' : World} (h : Below n w w' := by repeat (first | (with_reducible first | exact HB.out | apply za8 | apply za2 | apply zav | refine zau ?_ GE213.out | refine zau ?_ GE214.out | refine zau ?_ GE215.out | refine zau ?_ GE216.out) | exact HB.out)) : Below n w w' := h
theorem Yb_PGssPushesx8_4 {n : Nat} {w w' : World} (h : Below n w w' := by repeat (first | (with_reducible first | exact HB.out | apply za8 | apply za2 | apply zav | refine zau ?_ GE213.out | refine zau ?_ GE214.out | refine zau ?_ GE215.out | refine zau ?_ GE216.out | refine zau ?_ GE218.out) | exact HB.out)) : Below n w w' := h
theorem Yb_PGssPushesx8_5 {n : Nat} {w w' : World} (h : Below n w w' := by repeat (first | (with_reducible first | exact HB.out | apply za8 | apply za2 | apply zav | refine zau ?_ GE213.out | refine zau ?_ GE214.out | refine zau ?_ GE215.out | refine zau ?_ GE216.out | refine zau ?_ GE227.out) | exact HB.out)) : Below n w w' := h
theorem Yb_PGssPushesx8_6 {n : Nat} {w w' : World} (h : Below n w w' := by repeat (first | (with_reducible first | exact HB.out | apply za8 | apply za2 | apply zav | refine zau ?_ GE213.out | refine zau ?_ GE214.out | refine zau ?_ GE215.out | refine zau ?_ GE216.out | refine zau ?_ GE227.out | refine zau ?_ GE231.out) | exact HB.out)) : Below n w w' := h
mutual
def zan.l0 : Nat → Int → List (S38) → List (S38) → List (S38) → Option ((List (S38)))
 | 0, _, _, _, _ => none
 | k + 1, x6, x214000, x215000, x217000 => if x6 < (x215000.length : Int) then (if 0 ≤ x6 then ((zaw.f k x217000 ((zaa x215000 x6).f0) ((zaa x215000 x6).f1)).bind fun t219 => (if t219 < 0 then (if (x217000.length : Int) ≥ 4096 then (some x214000) else ((zal.f k x217000 ((zaa x215000 x6).f0) ((zaa x215000 x6).f1) ((zaa x215000 x6).f2)).bind fun t220 => (zan.l0 k (wrap64 (x6 + 1)) x214000 x215000 t220))) else (zan.l0 k (wrap64 (x6 + 1)) x214000 x215000 x217000))) else (none)) else (if ([] : List (S38)).length + x217000.length < 3518437208883 then (zan.l1 k 0 x215000 (([] : List (S38)) ++ x217000)) else (none))
def zan.l1 : Nat → Int → List (S38) → List (S38) → Option ((List (S38)))
 | 0, _, _, _ => none
 | k + 1, x9, x215000, x217000 => if x9 < (x215000.length : Int) then (if 0 ≤ x9 then ((zaw.f k x217000 ((zaa x215000 x9).f0) ((zaa x215000 x9).f1)).bind fun t228 => (zan.l2 k x9 t228 0 x215000 x217000 ((zaa x215000 x9).f0) ((zaa x215000 x9).f1) ((zaa x215000 x9).f2))) else (none)) else (some x217000)
def zan.l2 : Nat → Int → Int → Int → List (S38) → List (S38) → Int → Int → List Int → Option ((List (S38)))
 | 0, _, _, _, _, _, _, _, _ => none
 | k + 1, x9, x11, x12, x215000, x217000, x228000, x228001, x228002 => if x12 < (x228002.length : Int) then (if 0 ≤ x12 then (if 0 ≤ (rd x228002 x12) then (if (rd x228002 x12) < (x215000.length : Int) then (if 0 ≤ x11 then (if x11 < (x217000.length : Int) then ((zaw.f k x217000 ((zaa x215000 (rd x228002 x12)).f0) ((zaa x215000 (rd x228002 x12)).f1)).bind fun t233 => ((zbg.f k ((zaa x217000 x11).f2) t233).bind fun t234 => (zan.l2 k x9 x11 (wrap64 (x12 + 1)) x215000 (x217000.set (x11 : Int).toNat (⟨(zaa x217000 x11).f0, (zaa x217000 x11).f1, t234⟩ : S38)) x228000 x228001 x228002))) else (none)) else (none)) else (none)) else (none)) else (none)) else (zan.l1 k (wrap64 (x9 + 1)) x215000 x217000)
end
def zan.f (k : Nat) (l0_0 : List (S38)) (l1_0 : List (S38)) : Option ((List (S38))) := zan.l0 k 0 l0_0 l1_0 l0_0
def zan.T20 : Bool × List (List Nat × List Nat) := (true, [([], []), ([0], [0]), ([], []), ([2], [2]), ([], []), ([3, 4], [3, 4]), ([5], [5]), ([1, 6], [1, 6]), ([7], [7]), ([], []), ([9, 8, 0, 1, 2, 3, 4, 5, 6, 7, 8, 9], [8, 9])])
def zan.B20 : List Nat := [0, 1, 0, 4, 0, 28, 60, 127, 255, 0, 1023]
theorem zan.tab20 : rtab .any (opsOf Try.f18 20) = zan.T20 := by kernel_rfl
theorem zan.bits20 : zc4 zan.T20.2 zan.B20 = true := by kernel_rfl
def zan.T21 : Bool × List (List Nat × List Nat) := (true, [([], []), ([0], [0]), ([], []), ([], []), ([3], [3]), ([], []), ([4, 5], [4, 5]), ([6], [6]), ([7], [7]), ([], []), ([], []), ([10], [10]), ([], []), ([12], [12]), ([9, 11, 13], [9, 11, 13]), ([8, 14, 14], [8, 14]), ([1, 2, 0, 1, 2, 3, 4, 5, 6, 7, 8, 9, 10, 11, 12, 13, 14, 15], [1, 2]), ([16, 0, 1, 2, 3, 4, 5, 6, 7, 8, 9, 10, 11, 12, 13, 14, 15], [16]), ([17, 15, 15, 0, 1, 2, 3, 4, 5, 6, 7, 8, 9, 10, 11, 12, 13, 14, 15], [15, 17])])
def zan.B21 : List Nat := [0, 1, 0, 0, 8, 0, 56, 120, 248, 0, 0, 1024, 0, 4096, 15872, 32760, 65535, 131071, 262143]
theorem zan.tab21 : rtab .any (opsOf Try.f18 21) = zan.T21 := by kernel_rfl
theorem zan.bits21 : zc4 zan.T21.2 zan.B21 = true := by kernel_rfl
theorem zan.calls (k : Nat) (P0_0_ : Nat → Prop) (A0_0 : Option Addr) (c0_0 : Nat) (l0_0 : List (S38)) (P1_0_ : Nat → Prop) (A1_0 : Option Addr) (c1_0 : Nat) (l1_0 : List (S38)) (r : List (S38)) (w : World) (hs0_0 : Kd.V k38 38 w w.heap.size (fun k_ => P0_0_ k_) (.slice A0_0 l0_0.length c0_0) l0_0) (hs1_0 : Kd.V k38 38 w w.heap.size (fun k_ => P1_0_ k_) (.slice A1_0 l1_0.length c1_0) l1_0) (h : zan.f k l0_0 l1_0 = some r) :
  Calls Try.prog 18 #[.agg #[.slice A0_0 l0_0.length c0_0], .agg #[.slice A1_0 l1_0.length c1_0]] w fun e w' => ∃ v0_ : Value, e = .returned (.agg #[v0_]) ∧ Kd.V k38 38 w' w.heap.size (fun k_ => ((P0_0_ k_ ∨ P1_0_ k_) ∨ w.heap.size ≤ k_)) v0_ r ∧ Below w.heap.size w w' := by
 have hu24 := Try.underlying24
 have hu38 := Try.underlying38
 have HO0_0 := zab.mk (show Kd.V k38 38 w w.heap.size (fun k_ => ((P0_0_ k_ ∨ P1_0_ k_) ∨ w.heap.size ≤ k_)) (.slice A0_0 l0_0.length c0_0) l0_0 from Kd.zar hs0_0 (fun k_ hk => .inl (.inl hk)))
 have HO1_0 := zab.mk (show Kd.V k38 38 w w.heap.size (fun k_ => ((P0_0_ k_ ∨ P1_0_ k_) ∨ w.heap.size ≤ k_)) (.slice A1_0 l1_0.length c1_0) l1_0 from Kd.zar hs1_0 (fun k_ hk => .inl (.inr hk)))
 have HB := zab.mk (Below.refl w.heap.size w)
 have H : (zan.l0 k 0 l0_0 l1_0 l0_0) = some r := h
 clear h
 have H' := zab.mk H
 clear H
 go_enter Try.func18, Try.ntmps18
 go_wp2_with (first | ((with_reducible refine zbb (N := 2) rfl ?_); refine Ybx 2 #[.slice A0_0 l0_0.length c0_0] 24 ?_; intro gb213 hg w3 hbox hb; replace HO0_0 := zab.mk (Kd.zat (Kd.zbi (by (with_reducible repeat (first | apply Kd.V_alloc | apply Kd.zak | apply Kd.zam)); exact HO0_0.out) gb213 (Nat.le_of_eq hg.symm)) hb); replace HO1_0 := zab.mk (Kd.zat (Kd.zbi (by (with_reducible repeat (first | apply Kd.V_alloc | apply Kd.zak | apply Kd.zam)); exact HO1_0.out) gb213 (Nat.le_of_eq hg.symm)) hb); obtain ⟨BK213, GW213, GE213, HB⟩ := Yb4 hbox hg hb Ybe; clear hb hbox hg) | ((with_reducible refine zbb (N := 3) rfl ?_); refine Ybx 3 #[.slice A1_0 l1_0.length c1_0] 24 ?_; intro gb214 hg w4 hbox hb; replace HO0_0 := zab.mk (Kd.zat (Kd.zbi (by (with_reducible repeat (first | apply Kd.V_alloc | apply Kd.zak | apply Kd.zam)); exact HO0_0.out) gb214 (Nat.le_of_eq hg.symm)) hb); replace HO1_0 := zab.mk (Kd.zat (Kd.zbi (by (with_reducible repeat (first | apply Kd.V_alloc | apply Kd.zak | apply Kd.zam)); exact HO1_0.out) gb214 (Nat.le_of_eq hg.symm)) hb); obtain ⟨BK214, GW214, GE214, HB⟩ := Yb4 hbox hg hb Yb_PGssPushesx8_0; have NB213_214 := Ynl BK213 hg; have NB214_213 := Yng BK213 hg; replace BK213 := Ykb BK213 hb; clear hb hbox hg) | ((with_reducible refine zbb (N := 4) rfl ?_); refine Ybx 4 #[.slice none 0 0] 24 ?_; intro gb215 hg w5 hbox hb; replace HO0_0 := zab.mk (Kd.zat (Kd.zbi (by (with_reducible repeat (first | apply Kd.V_alloc | apply Kd.zak | apply Kd.zam)); exact HO0_0.out) gb215 (Nat.le_of_eq hg.symm)) hb); replace HO1_0 := zab.mk (Kd.zat (Kd.zbi (by (with_reducible repeat (first | apply Kd.V_alloc | apply Kd.zak | apply Kd.zam)); exact HO1_0.out) gb215 (Nat.le_of_eq hg.symm)) hb); obtain ⟨BK215, GW215, GE215, HB⟩ := Yb4 hbox hg hb Yb_PGssPushesx8_1; have NB213_215 := Ynl BK213 hg; have NB215_213 := Yng BK213 hg; replace BK213 := Ykb BK213 hb; have NB214_215 := Ynl BK214 hg; have NB215_214 := Yng BK214 hg; replace BK214 := Ykb BK214 hb; clear hb hbox hg; have hnb6 := NB213_214.out; have hnc6 := NB214_213.out; have hnb7 := NB213_215.out; have hnc7 := NB215_213.out; obtain ⟨hcz8_0, hfz8_0⟩ := Yc1 BK213.out) | ((with_reducible refine zbb (N := 5) rfl ?_); refine Ybx 5 #[.slice none 0 0] 24 ?_; intro gb216 hg w9 hbox hb; replace HO0_0 := zab.mk (Kd.zat (Kd.zbi (by (with_reducible repeat (first | apply Kd.V_alloc | apply Kd.zak | apply Kd.zam)); exact HO0_0.out) gb216 (Nat.le_of_eq hg.symm)) hb); replace HO1_0 := zab.mk (Kd.zat (Kd.zbi (by (with_reducible repeat (first | apply Kd.V_alloc | apply Kd.zak | apply Kd.zam)); exact HO1_0.out) gb216 (Nat.le_of_eq hg.symm)) hb); obtain ⟨BK216, GW216, GE216, HB⟩ := Yb4 hbox hg hb Yb_PGssPushesx8_2; have NB213_216 := Ynl BK213 hg; have NB216_213 := Yng BK213 hg; replace BK213 := Ykb BK213 hb; have NB214_216 := Ynl BK214 hg; have NB216_214 := Yng BK214 hg; replace BK214 := Ykb BK214 hb; have NB215_216 := Ynl BK215 hg; have NB216_215 := Yng BK215 hg; replace BK215 := Ykb BK215 hb; clear hb hbox hg; have hnb10 := NB216_213.out; have hnc10 := NB213_216.out; have hnb11 := NB216_214.out; have hnc11 := NB214_216.out; have hnb12 := NB216_215.out; have hnc12 := NB215_216.out; obtain ⟨hcz13_0, hfz13_0⟩ := Yc1 BK216.out))
 go_loopg [6] k (fun kq v6 w' => ∃ (x6_1 : Int) (x217000_1 : List (S38)) (u217000 : Value), v6 = .int .i64 x6_1 ∧ zab (zan.l0 kq x6_1 l0_0 l1_0 x217000_1 = some r) ∧ zab (kq ≤ k) ∧ zab (Kd.V k38 38 w' w.heap.size (fun k_ => ((P0_0_ k_ ∨ P1_0_ k_) ∨ w.heap.size ≤ k_) ∧ k_ ≠ gb213 ∧ k_ ≠ gb214 ∧ k_ ≠ gb215 ∧ k_ ≠ gb216) (.slice A0_0 l0_0.length c0_0) l0_0) ∧ zab (Kd.V k38 38 w' w.heap.size (fun k_ => ((P0_0_ k_ ∨ P1_0_ k_) ∨ w.heap.size ≤ k_) ∧ k_ ≠ gb213 ∧ k_ ≠ gb214 ∧ k_ ≠ gb215 ∧ k_ ≠ gb216) (.slice A1_0 l1_0.length c1_0) l1_0) ∧ zab (Kd.V k38 38 w' w.heap.size (fun k_ => ((P0_0_ k_ ∨ P1_0_ k_) ∨ w.heap.size ≤ k_) ∧ k_ ≠ gb213 ∧ k_ ≠ gb214 ∧ k_ ≠ gb215 ∧ k_ ≠ gb216) u217000 x217000_1) ∧ zab (w'.heap[gb213]? = some (.cells #[(.slice A0_0 l0_0.length c0_0)] 24 (0, 0))) ∧ zab (w'.heap[gb214]? = some (.cells #[(.slice A1_0 l1_0.length c1_0)] 24 (0, 0))) ∧ zab (w'.heap[gb215]? = some (.cells #[(.slice none 0 0)] 24 (0, 0))) ∧ zab (w'.heap[gb216]? = some (.cells #[u217000] 24 (0, 0))) ∧ zab (Below w.heap.size w w'))
 case atStart => exact ⟨(0), (l0_0), (.slice A0_0 l0_0.length c0_0), Yfs, H', ⟨Nat.le_refl _⟩, ⟨by (with_reducible repeat (first | apply Kd.V_alloc | apply Kd.zak | apply Kd.zam)); exact Kd.zar (Kd.za0 (p := ⟨gb216, 0, none⟩) (Kd.zar HO0_0.out (fun k_ hk => (⟨hk, hk.2⟩ : _ ∧ k_ ≠ gb216))) (fun _ hk => hk.2) (.slice A0_0 l0_0.length c0_0)) (fun _ hk => ⟨hk.1.1.1.1.1, ⟨hk.1.1.1.1.2, ⟨hk.1.1.1.2, ⟨hk.1.1.2, hk.1.2⟩⟩⟩⟩)⟩, ⟨by (with_reducible repeat (first | apply Kd.V_alloc | apply Kd.zak | apply Kd.zam)); exact Kd.zar (Kd.za0 (p := ⟨gb216, 0, none⟩) (Kd.zar HO1_0.out (fun k_ hk => (⟨hk, hk.2⟩ : _ ∧ k_ ≠ gb216))) (fun _ hk => hk.2) (.slice A0_0 l0_0.length c0_0)) (fun _ hk => ⟨hk.1.1.1.1.1, ⟨hk.1.1.1.1.2, ⟨hk.1.1.1.2, ⟨hk.1.1.2, hk.1.2⟩⟩⟩⟩)⟩, ⟨by (with_reducible repeat (first | apply Kd.V_alloc | apply Kd.zak | apply Kd.zam)); exact Kd.zar (Kd.za0 (p := ⟨gb216, 0, none⟩) (Kd.zar HO0_0.out (fun k_ hk => (⟨hk, hk.2⟩ : _ ∧ k_ ≠ gb216))) (fun _ hk => hk.2) (.slice A0_0 l0_0.length c0_0)) (fun _ hk => ⟨hk.1.1.1.1.1, ⟨hk.1.1.1.1.2, ⟨hk.1.1.1.2, ⟨hk.1.1.2, hk.1.2⟩⟩⟩⟩)⟩, ⟨by (with_reducible repeat (first | refine zae ?_ _ | refine zac ?_ | refine zad ?_ _)); refine zaj ?_ NB213_216.out _; (with_reducible repeat (first | refine zae ?_ _ | refine zac ?_ | refine zad ?_ _)); exact BK213.out⟩, ⟨by (with_reducible repeat (first | refine zae ?_ _ | refine zac ?_ | refine zad ?_ _)); refine zaj ?_ NB214_216.out _; (with_reducible repeat (first | refine zae ?_ _ | refine zac ?_ | refine zad ?_ _)); exact BK214.out⟩, ⟨by (with_reducible repeat (first | refine zae ?_ _ | refine zac ?_ | refine zad ?_ _)); refine zaj ?_ NB215_216.out _; (with_reducible repeat (first | refine zae ?_ _ | refine zac ?_ | refine zad ?_ _)); exact BK215.out⟩, ⟨by (with_reducible repeat (first | refine zae ?_ _ | refine zac ?_ | refine zad ?_ _)); refine zas (cs := #[.slice none 0 0]) ?_ 0 _ rfl; (with_reducible repeat (first | refine zae ?_ _ | refine zac ?_ | refine zad ?_ _)); exact BK216.out⟩, ⟨Yb_PGssPushesx8_3⟩⟩
 case round =>
  clear H'
  obtain ⟨x6_1, x217000_1, u217000, rfl, HA, HK1, HO_214000, HO_215000, HO_217000, BK213, BK214, BK215, BK216, HB⟩ := hrel
  cases gk with
  | zero => exact absurd HA.out (by simp [zan.l0])
  | succ k1 =>
   have H := HA.out;clear HA
   simp only [zan.l0] at H
   by_cases c14 : x6_1 < (l1_0.length : Int)
   ·rw [if_pos c14] at H
    have c14b0 := decide_eq_true c14
    clear c14
    by_cases c15 : 0 ≤ x6_1
    ·rw [if_pos c15] at H
     have c15b0 := decide_eq_true c15
     clear c15;replace H := Option.bind_eq_some_iff.mp H
     obtain ⟨t219, A160, H⟩ := H
     replace H : (if t219 < 0 then (if (x217000_1.length : Int) ≥ 4096 then (some l0_0) else ((zal.f k1 x217000_1 ((zaa l1_0 x6_1).f0) ((zaa l1_0 x6_1).f1) ((zaa l1_0 x6_1).f2)).bind fun t220 => (zan.l0 k1 (wrap64 (x6_1 + 1)) l0_0 l1_0 t220))) else (zan.l0 k1 (wrap64 (x6_1 + 1)) l0_0 l1_0 x217000_1)) = some r := H
     have A16 := zab.mk A160;clear A160
     by_cases c17 : t219 < 0
     ·rw [if_pos c17] at H
      have c17b0 := decide_eq_true c17
      clear c17
      by_cases c18 : (x217000_1.length : Int) ≥ 4096
      ·rw [if_pos c18] at H
       have c18b0 := decide_eq_true c18
       have c18b1 : decide (4096 ≤ x217000_1.length) = true := decide_eq_true (by omega)
       clear c18;obtain rfl := Option.some.inj H
       have hnb19 := NB214_213.out
       have hnc19 := NB213_214.out
       have hnb20 := NB214_215.out
       have hnc20 := NB215_214.out
       have hnb21 := NB214_216.out
       have hnc21 := NB216_214.out
       obtain ⟨hcz22_0, hfz22_0⟩ := Yc1 BK214.out
       have p217 : 0 ≤ (x6_1 : Int) := Yod
       have q217 : x6_1 < (l1_0.length : Int) := Yod
       obtain ⟨ad217, A217_2, c217_2, e217, hx217_0, hx217_1, hx217_2, hl217_2, hi217_2⟩ := zbn (Kd.V_reads' HO_215000.out).2.2 x6_1 p217 q217
       cases e217
       obtain ⟨ce217, hce217, hMe217, hcc217⟩ := Kd.zec HO_215000.out z38 x6_1 p217 (by first | exact q217 | exact of_decide_eq_true (by first | (with_reducible assumption) | assumption) | (have e_ := (Kd.V_reads' HO_215000.out).1; omega))
       obtain ⟨ua217_2, uc217_2, rfl, ul217_2, ge217_2⟩ := zb5 hMe217
       have hv217_2 := hcc217 2 _ rfl
       rw [zb0 _ _ 2 (by omega)] at hv217_2
       replace hv217_2 := Option.some.inj (hv217_2.symm.trans hx217_2)
       injection hv217_2 with hva_ hvn_ hvc_
       rw [hva_] at ge217_2
       rw [hvc_] at ul217_2
       have HL217_2 := zab.mk (show Kd.V (Kd.int .i64) 3 _ w.heap.size _ _ ((zaa l1_0 x6_1).f2) from Kd.V_mk ul217_2 ge217_2)
       clear hva_ hvn_ hvc_ ge217_2 ul217_2;clear hcc217 hce217;have HR217_2 := zab.mk hi217_2;have HC217_2 := zab.mk hl217_2;clear hi217_2 hl217_2
       replace p217 := eq_true p217
       replace q217 := eq_true q217
       go_wp2_with (first | ((with_reducible refine zbb (N := 7) rfl ?_); refine Ybx 7 #[.int .i64 0, .int .i64 0, .slice none 0 0] 38 ?_; intro gb218 hg w23 hbox hb; replace HO_214000 := zab.mk (Kd.zat (Kd.zbi (by (with_reducible repeat (first | apply Kd.V_alloc | apply Kd.zak | apply Kd.zam)); exact HO_214000.out) gb218 (Nat.le_of_eq hg.symm)) hb); replace HO_215000 := zab.mk (Kd.zat (Kd.zbi (by (with_reducible repeat (first | apply Kd.V_alloc | apply Kd.zak | apply Kd.zam)); exact HO_215000.out) gb218 (Nat.le_of_eq hg.symm)) hb); replace HO_217000 := zab.mk (Kd.zat (Kd.zbi (by (with_reducible repeat (first | apply Kd.V_alloc | apply Kd.zak | apply Kd.zam)); exact HO_217000.out) gb218 (Nat.le_of_eq hg.symm)) hb); replace HL217_2 := zab.mk (Kd.zat (Kd.zbi (by (with_reducible repeat (first | apply Kd.V_alloc | apply Kd.zak | apply Kd.zam)); exact HL217_2.out) gb218 (Nat.le_of_eq hg.symm)) hb); replace HR217_2 := zab.mk (Kd.za4 (by repeat (first | (with_reducible exact HR217_2.out) | (with_reducible refine Kd.C_alloc ?_ _) | (with_reducible refine Kd.C_drewN ?_ _) | (with_reducible refine Kd.C_drew ?_) | exact HR217_2.out)) hb); obtain ⟨BK218, GW218, GE218, HB⟩ := Yb4 hbox hg hb Yb_PGssPushesx8_3; have NB213_218 := Ynl BK213 hg; have NB218_213 := Yng BK213 hg; replace BK213 := Ykb BK213 hb; have NB214_218 := Ynl BK214 hg; have NB218_214 := Yng BK214 hg; replace BK214 := Ykb BK214 hb; have NB215_218 := Ynl BK215 hg; have NB218_215 := Yng BK215 hg; replace BK215 := Ykb BK215 hb; have NB216_218 := Ynl BK216 hg; have NB218_216 := Yng BK216 hg; replace BK216 := Ykb BK216 hb; clear hb hbox hg; have hnb24 := NB218_213.out; have hnc24 := NB213_218.out; have hnb25 := NB218_214.out; have hnc25 := NB214_218.out; have hnb26 := NB218_215.out; have hnc26 := NB215_218.out; have hnb27 := NB218_216.out; have hnc27 := NB216_218.out; obtain ⟨hcz28_0, hfz28_0, hcz28_1, hfz28_1, hcz28_2, hfz28_2⟩ := Yc3 BK218.out; have hnb29 := NB216_213.out; have hnc29 := NB213_216.out; have hnb30 := NB216_215.out; have hnc30 := NB215_216.out; obtain ⟨hcz31_0, hfz31_0⟩ := Yc1 BK216.out; obtain ⟨Ao32, co32, eo32⟩ := Kd.zbz HO_217000.out; subst eo32) | ((with_reducible refine za6 (f := 14) rfl ?_); refine Ygl (some 32) Try.func14 #[.agg #[.slice Ao32 x217000_1.length co32], .int .i64 ((zaa l1_0 x6_1).f0), .int .i64 ((zaa l1_0 x6_1).f1)] ?_; (with_reducible refine (zaw.calls k1 _ _ x217000_1 ((zaa l1_0 x6_1).f0) ((zaa l1_0 x6_1).f1) t219 _ ?side1 ?side2 A16.out).mono ?_); (case side1 => refine (Kd.V_reads' (e := 38) (base := w.heap.size) (ok := fun k_ => ((((P0_0_ k_ ∨ P1_0_ k_) ∨ w.heap.size ≤ k_) ∧ (k_ ≠ gb213 ∧ (k_ ≠ gb214 ∧ (k_ ≠ gb215 ∧ k_ ≠ gb216)))) ∧ k_ ≠ gb218)) (n := x217000_1.length) (c := co32) ?_).2.2; exact (by (with_reducible repeat (first | apply Kd.V_alloc | apply Kd.zak | apply Kd.zam)); exact (Kd.zar (Kd.za0 (p := ⟨gb218, 2, none⟩) (Kd.za0 (p := ⟨gb218, 1, none⟩) (Kd.za0 (p := ⟨gb218, 0, none⟩) (Kd.zar HO_217000.out (fun k_ hk => (⟨hk, hk.2⟩ : _ ∧ k_ ≠ gb218))) (fun _ hk => hk.2) (.int .i64 ((zaa l1_0 x6_1).f0))) (fun _ hk => hk.2) (.int .i64 ((zaa l1_0 x6_1).f1))) (fun _ hk => hk.2) (.slice A217_2 ((zaa l1_0 x6_1).f2).length c217_2)) (fun _ h_ => h_.1)))); (case side2 => exact (Kd.V_reads' HO_217000.out).2.1); rintro e w33 ⟨rfl, hb⟩; refine ⟨_, rfl, ?_⟩; replace HO_214000 := zab.mk (Kd.zat (by (with_reducible repeat (first | apply Kd.V_alloc | apply Kd.zak | apply Kd.zam)); exact (Kd.zar (Kd.za0 (p := ⟨gb218, 2, none⟩) (Kd.za0 (p := ⟨gb218, 1, none⟩) (Kd.za0 (p := ⟨gb218, 0, none⟩) (Kd.zar HO_214000.out (fun k_ hk => (⟨hk, hk.2⟩ : _ ∧ k_ ≠ gb218))) (fun _ hk => hk.2) (.int .i64 ((zaa l1_0 x6_1).f0))) (fun _ hk => hk.2) (.int .i64 ((zaa l1_0 x6_1).f1))) (fun _ hk => hk.2) (.slice A217_2 ((zaa l1_0 x6_1).f2).length c217_2)) (fun _ h_ => h_.1))) hb); replace HO_215000 := zab.mk (Kd.zat (by (with_reducible repeat (first | apply Kd.V_alloc | apply Kd.zak | apply Kd.zam)); exact (Kd.zar (Kd.za0 (p := ⟨gb218, 2, none⟩) (Kd.za0 (p := ⟨gb218, 1, none⟩) (Kd.za0 (p := ⟨gb218, 0, none⟩) (Kd.zar HO_215000.out (fun k_ hk => (⟨hk, hk.2⟩ : _ ∧ k_ ≠ gb218))) (fun _ hk => hk.2) (.int .i64 ((zaa l1_0 x6_1).f0))) (fun _ hk => hk.2) (.int .i64 ((zaa l1_0 x6_1).f1))) (fun _ hk => hk.2) (.slice A217_2 ((zaa l1_0 x6_1).f2).length c217_2)) (fun _ h_ => h_.1))) hb); replace HO_217000 := zab.mk (Kd.zat (by (with_reducible repeat (first | apply Kd.V_alloc | apply Kd.zak | apply Kd.zam)); exact (Kd.zar (Kd.za0 (p := ⟨gb218, 2, none⟩) (Kd.za0 (p := ⟨gb218, 1, none⟩) (Kd.za0 (p := ⟨gb218, 0, none⟩) (Kd.zar HO_217000.out (fun k_ hk => (⟨hk, hk.2⟩ : _ ∧ k_ ≠ gb218))) (fun _ hk => hk.2) (.int .i64 ((zaa l1_0 x6_1).f0))) (fun _ hk => hk.2) (.int .i64 ((zaa l1_0 x6_1).f1))) (fun _ hk => hk.2) (.slice A217_2 ((zaa l1_0 x6_1).f2).length c217_2)) (fun _ h_ => h_.1))) hb); replace BK213 := zab.mk (zax (g := gb213) (o := .cells #[.slice A0_0 l0_0.length c0_0] 24 (0, 0)) (by (with_reducible repeat (first | refine zae ?_ _ | refine zac ?_ | refine zad ?_ _)); refine zaj ?_ NB213_218.out _; (with_reducible repeat (first | refine zae ?_ _ | refine zac ?_ | refine zad ?_ _)); refine zaj ?_ NB213_218.out _; (with_reducible repeat (first | refine zae ?_ _ | refine zac ?_ | refine zad ?_ _)); refine zaj ?_ NB213_218.out _; (with_reducible repeat (first | refine zae ?_ _ | refine zac ?_ | refine zad ?_ _)); exact BK213.out) hb); replace BK214 := zab.mk (zax (g := gb214) (o := .cells #[.slice (some ad217) l1_0.length c1_0] 24 (0, 0)) (by (with_reducible repeat (first | refine zae ?_ _ | refine zac ?_ | refine zad ?_ _)); refine zaj ?_ NB214_218.out _; (with_reducible repeat (first | refine zae ?_ _ | refine zac ?_ | refine zad ?_ _)); refine zaj ?_ NB214_218.out _; (with_reducible repeat (first | refine zae ?_ _ | refine zac ?_ | refine zad ?_ _)); refine zaj ?_ NB214_218.out _; (with_reducible repeat (first | refine zae ?_ _ | refine zac ?_ | refine zad ?_ _)); exact BK214.out) hb); replace BK215 := zab.mk (zax (g := gb215) (o := .cells #[.slice none 0 0] 24 (0, 0)) (by (with_reducible repeat (first | refine zae ?_ _ | refine zac ?_ | refine zad ?_ _)); refine zaj ?_ NB215_218.out _; (with_reducible repeat (first | refine zae ?_ _ | refine zac ?_ | refine zad ?_ _)); refine zaj ?_ NB215_218.out _; (with_reducible repeat (first | refine zae ?_ _ | refine zac ?_ | refine zad ?_ _)); refine zaj ?_ NB215_218.out _; (with_reducible repeat (first | refine zae ?_ _ | refine zac ?_ | refine zad ?_ _)); exact BK215.out) hb); replace BK216 := zab.mk (zax (g := gb216) (o := .cells #[.slice Ao32 x217000_1.length co32] 24 (0, 0)) (by (with_reducible repeat (first | refine zae ?_ _ | refine zac ?_ | refine zad ?_ _)); refine zaj ?_ NB216_218.out _; (with_reducible repeat (first | refine zae ?_ _ | refine zac ?_ | refine zad ?_ _)); refine zaj ?_ NB216_218.out _; (with_reducible repeat (first | refine zae ?_ _ | refine zac ?_ | refine zad ?_ _)); refine zaj ?_ NB216_218.out _; (with_reducible repeat (first | refine zae ?_ _ | refine zac ?_ | refine zad ?_ _)); exact BK216.out) hb); replace HR217_2 := zab.mk (Kd.za4 ((Kd.V_reads' (by (with_reducible repeat (first | apply Kd.V_alloc | apply Kd.zak | apply Kd.zam)); exact (Kd.zar (Kd.za0 (p := ⟨gb218, 2, none⟩) (Kd.za0 (p := ⟨gb218, 1, none⟩) (Kd.za0 (p := ⟨gb218, 0, none⟩) (Kd.zar HL217_2.out (fun k_ hk => (⟨hk, hk.2⟩ : _ ∧ k_ ≠ gb218))) (fun _ hk => hk.2) (.int .i64 ((zaa l1_0 x6_1).f0))) (fun _ hk => hk.2) (.int .i64 ((zaa l1_0 x6_1).f1))) (fun _ hk => hk.2) (.slice A217_2 ((zaa l1_0 x6_1).f2).length c217_2)) (fun _ h_ => h_.1)))).2.2) hb); replace HL217_2 := zab.mk (Kd.zat (by (with_reducible repeat (first | apply Kd.V_alloc | apply Kd.zak | apply Kd.zam)); exact (Kd.zar (Kd.za0 (p := ⟨gb218, 2, none⟩) (Kd.za0 (p := ⟨gb218, 1, none⟩) (Kd.za0 (p := ⟨gb218, 0, none⟩) (Kd.zar HL217_2.out (fun k_ hk => (⟨hk, hk.2⟩ : _ ∧ k_ ≠ gb218))) (fun _ hk => hk.2) (.int .i64 ((zaa l1_0 x6_1).f0))) (fun _ hk => hk.2) (.int .i64 ((zaa l1_0 x6_1).f1))) (fun _ hk => hk.2) (.slice A217_2 ((zaa l1_0 x6_1).f2).length c217_2)) (fun _ h_ => h_.1))) hb); replace BK218 := zab.mk (zax (g := gb218) (o := .cells #[.int .i64 ((zaa l1_0 x6_1).f0), .int .i64 ((zaa l1_0 x6_1).f1), .slice A217_2 ((zaa l1_0 x6_1).f2).length c217_2] 38 (0, 0)) (by (with_reducible repeat (first | refine zae ?_ _ | refine zac ?_ | refine zad ?_ _)); refine zas (cs := #[.int .i64 ((zaa l1_0 x6_1).f0), .int .i64 ((zaa l1_0 x6_1).f1), .slice none 0 0]) ?_ 2 _ rfl; (with_reducible repeat (first | refine zae ?_ _ | refine zac ?_ | refine zad ?_ _)); refine zas (cs := #[.int .i64 ((zaa l1_0 x6_1).f0), .int .i64 0, .slice none 0 0]) ?_ 1 _ rfl; (with_reducible repeat (first | refine zae ?_ _ | refine zac ?_ | refine zad ?_ _)); refine zas (cs := #[.int .i64 0, .int .i64 0, .slice none 0 0]) ?_ 0 _ rfl; (with_reducible repeat (first | refine zae ?_ _ | refine zac ?_ | refine zad ?_ _)); exact BK218.out) hb); replace HB := zab.mk (za1 Yb_PGssPushesx8_4 hb); (try clear hb); (try clear hb2); (try clear hk); (try clear hi); obtain ⟨hcz34_0, hfz34_0⟩ := Yc1 BK216.out; have hnb35 := NB213_215.out; have hnc35 := NB215_213.out; obtain ⟨hcz36_0, hfz36_0⟩ := Yc1 BK213.out; obtain ⟨hcz37_0, hfz37_0⟩ := Yc1 BK215.out))
       refine bodyPost_ret (results_cell_row rfl _ _ gb215 24 #[.slice A0_0 l0_0.length c0_0] (0, 0) _ rfl (by (with_reducible repeat (first | refine zae ?_ _ | refine zac ?_ | refine zad ?_ _)); refine zas (cs := #[.slice none 0 0]) ?_ 0 _ rfl; (with_reducible repeat (first | refine zae ?_ _ | refine zac ?_ | refine zad ?_ _)); exact BK215.out) Try.underlying24 rfl (by kernel_rfl)) rfl ?_
       exact ⟨_, by first | rfl | (simp [errW_none, errW_some] <;> rfl) | (simp [*, errW_none, errW_some] <;> rfl), by (with_reducible repeat (first | apply Kd.V_alloc | apply Kd.zak | apply Kd.zam)); exact Kd.zar (Kd.za0 (p := ⟨gb215, 0, none⟩) (Kd.zar HO_214000.out (fun k_ hk => (⟨hk, hk.1.2.2.2.1⟩ : _ ∧ k_ ≠ gb215))) (fun _ hk => hk.2) (.slice A0_0 l0_0.length c0_0)) (fun _ hk => hk.1.1.1), Yb_PGssPushesx8_4⟩
      ·rw [if_neg c18] at H
       have c18b0 := decide_eq_false c18
       have c18b1 : decide (4096 ≤ x217000_1.length) = false := decide_eq_false (by omega)
       clear c18;replace H := Option.bind_eq_some_iff.mp H
       obtain ⟨t220, A380, H⟩ := H
       replace H : (zan.l0 k1 (wrap64 (x6_1 + 1)) l0_0 l1_0 t220) = some r := H
       have A38 := zab.mk A380;clear A380
       have H' := zab.mk H
       clear H
       have hnb39 := NB214_213.out
       have hnc39 := NB213_214.out
       have hnb40 := NB214_215.out
       have hnc40 := NB215_214.out
       have hnb41 := NB214_216.out
       have hnc41 := NB216_214.out
       obtain ⟨hcz42_0, hfz42_0⟩ := Yc1 BK214.out
       have p217 : 0 ≤ (x6_1 : Int) := Yod
       have q217 : x6_1 < (l1_0.length : Int) := Yod
       obtain ⟨ad217, A217_2, c217_2, e217, hx217_0, hx217_1, hx217_2, hl217_2, hi217_2⟩ := zbn (Kd.V_reads' HO_215000.out).2.2 x6_1 p217 q217
       cases e217
       obtain ⟨ce217, hce217, hMe217, hcc217⟩ := Kd.zec HO_215000.out z38 x6_1 p217 (by first | exact q217 | exact of_decide_eq_true (by first | (with_reducible assumption) | assumption) | (have e_ := (Kd.V_reads' HO_215000.out).1; omega))
       obtain ⟨ua217_2, uc217_2, rfl, ul217_2, ge217_2⟩ := zb5 hMe217
       have hv217_2 := hcc217 2 _ rfl
       rw [zb0 _ _ 2 (by omega)] at hv217_2
       replace hv217_2 := Option.some.inj (hv217_2.symm.trans hx217_2)
       injection hv217_2 with hva_ hvn_ hvc_
       rw [hva_] at ge217_2
       rw [hvc_] at ul217_2
       have HL217_2 := zab.mk (show Kd.V (Kd.int .i64) 3 _ w.heap.size _ _ ((zaa l1_0 x6_1).f2) from Kd.V_mk ul217_2 ge217_2)
       clear hva_ hvn_ hvc_ ge217_2 ul217_2;clear hcc217 hce217;have HR217_2 := zab.mk hi217_2;have HC217_2 := zab.mk hl217_2;clear hi217_2 hl217_2
       replace p217 := eq_true p217
       replace q217 := eq_true q217
       go_wp2_with (first | ((with_reducible refine zbb (N := 7) rfl ?_); refine Ybx 7 #[.int .i64 0, .int .i64 0, .slice none 0 0] 38 ?_; intro gb218 hg w43 hbox hb; replace HO_214000 := zab.mk (Kd.zat (Kd.zbi (by (with_reducible repeat (first | apply Kd.V_alloc | apply Kd.zak | apply Kd.zam)); exact HO_214000.out) gb218 (Nat.le_of_eq hg.symm)) hb); replace HO_215000 := zab.mk (Kd.zat (Kd.zbi (by (with_reducible repeat (first | apply Kd.V_alloc | apply Kd.zak | apply Kd.zam)); exact HO_215000.out) gb218 (Nat.le_of_eq hg.symm)) hb); replace HO_217000 := zab.mk (Kd.zat (Kd.zbi (by (with_reducible repeat (first | apply Kd.V_alloc | apply Kd.zak | apply Kd.zam)); exact HO_217000.out) gb218 (Nat.le_of_eq hg.symm)) hb); replace HL217_2 := zab.mk (Kd.zat (Kd.zbi (by (with_reducible repeat (first | apply Kd.V_alloc | apply Kd.zak | apply Kd.zam)); exact HL217_2.out) gb218 (Nat.le_of_eq hg.symm)) hb); replace HR217_2 := zab.mk (Kd.za4 (by repeat (first | (with_reducible exact HR217_2.out) | (with_reducible refine Kd.C_alloc ?_ _) | (with_reducible refine Kd.C_drewN ?_ _) | (with_reducible refine Kd.C_drew ?_) | exact HR217_2.out)) hb); obtain ⟨BK218, GW218, GE218, HB⟩ := Yb4 hbox hg hb Yb_PGssPushesx8_3; have NB213_218 := Ynl BK213 hg; have NB218_213 := Yng BK213 hg; replace BK213 := Ykb BK213 hb; have NB214_218 := Ynl BK214 hg; have NB218_214 := Yng BK214 hg; replace BK214 := Ykb BK214 hb; have NB215_218 := Ynl BK215 hg; have NB218_215 := Yng BK215 hg; replace BK215 := Ykb BK215 hb; have NB216_218 := Ynl BK216 hg; have NB218_216 := Yng BK216 hg; replace BK216 := Ykb BK216 hb; clear hb hbox hg; have hnb44 := NB218_213.out; have hnc44 := NB213_218.out; have hnb45 := NB218_214.out; have hnc45 := NB214_218.out; have hnb46 := NB218_215.out; have hnc46 := NB215_218.out; have hnb47 := NB218_216.out; have hnc47 := NB216_218.out; obtain ⟨hcz48_0, hfz48_0, hcz48_1, hfz48_1, hcz48_2, hfz48_2⟩ := Yc3 BK218.out; have hnb49 := NB216_213.out; have hnc49 := NB213_216.out; have hnb50 := NB216_215.out; have hnc50 := NB215_216.out; obtain ⟨hcz51_0, hfz51_0⟩ := Yc1 BK216.out; obtain ⟨Ao52, co52, eo52⟩ := Kd.zbz HO_217000.out; subst eo52) | ((with_reducible refine za6 (f := 14) rfl ?_); refine Ygl (some 32) Try.func14 #[.agg #[.slice Ao52 x217000_1.length co52], .int .i64 ((zaa l1_0 x6_1).f0), .int .i64 ((zaa l1_0 x6_1).f1)] ?_; (with_reducible refine (zaw.calls k1 _ _ x217000_1 ((zaa l1_0 x6_1).f0) ((zaa l1_0 x6_1).f1) t219 _ ?side1 ?side2 A16.out).mono ?_); (case side1 => refine (Kd.V_reads' (e := 38) (base := w.heap.size) (ok := fun k_ => ((((P0_0_ k_ ∨ P1_0_ k_) ∨ w.heap.size ≤ k_) ∧ (k_ ≠ gb213 ∧ (k_ ≠ gb214 ∧ (k_ ≠ gb215 ∧ k_ ≠ gb216)))) ∧ k_ ≠ gb218)) (n := x217000_1.length) (c := co52) ?_).2.2; exact (by (with_reducible repeat (first | apply Kd.V_alloc | apply Kd.zak | apply Kd.zam)); exact (Kd.zar (Kd.za0 (p := ⟨gb218, 2, none⟩) (Kd.za0 (p := ⟨gb218, 1, none⟩) (Kd.za0 (p := ⟨gb218, 0, none⟩) (Kd.zar HO_217000.out (fun k_ hk => (⟨hk, hk.2⟩ : _ ∧ k_ ≠ gb218))) (fun _ hk => hk.2) (.int .i64 ((zaa l1_0 x6_1).f0))) (fun _ hk => hk.2) (.int .i64 ((zaa l1_0 x6_1).f1))) (fun _ hk => hk.2) (.slice A217_2 ((zaa l1_0 x6_1).f2).length c217_2)) (fun _ h_ => h_.1)))); (case side2 => exact (Kd.V_reads' HO_217000.out).2.1); rintro e w53 ⟨rfl, hb⟩; refine ⟨_, rfl, ?_⟩; replace HO_214000 := zab.mk (Kd.zat (by (with_reducible repeat (first | apply Kd.V_alloc | apply Kd.zak | apply Kd.zam)); exact (Kd.zar (Kd.za0 (p := ⟨gb218, 2, none⟩) (Kd.za0 (p := ⟨gb218, 1, none⟩) (Kd.za0 (p := ⟨gb218, 0, none⟩) (Kd.zar HO_214000.out (fun k_ hk => (⟨hk, hk.2⟩ : _ ∧ k_ ≠ gb218))) (fun _ hk => hk.2) (.int .i64 ((zaa l1_0 x6_1).f0))) (fun _ hk => hk.2) (.int .i64 ((zaa l1_0 x6_1).f1))) (fun _ hk => hk.2) (.slice A217_2 ((zaa l1_0 x6_1).f2).length c217_2)) (fun _ h_ => h_.1))) hb); replace HO_215000 := zab.mk (Kd.zat (by (with_reducible repeat (first | apply Kd.V_alloc | apply Kd.zak | apply Kd.zam)); exact (Kd.zar (Kd.za0 (p := ⟨gb218, 2, none⟩) (Kd.za0 (p := ⟨gb218, 1, none⟩) (Kd.za0 (p := ⟨gb218, 0, none⟩) (Kd.zar HO_215000.out (fun k_ hk => (⟨hk, hk.2⟩ : _ ∧ k_ ≠ gb218))) (fun _ hk => hk.2) (.int .i64 ((zaa l1_0 x6_1).f0))) (fun _ hk => hk.2) (.int .i64 ((zaa l1_0 x6_1).f1))) (fun _ hk => hk.2) (.slice A217_2 ((zaa l1_0 x6_1).f2).length c217_2)) (fun _ h_ => h_.1))) hb); replace HO_217000 := zab.mk (Kd.zat (by (with_reducible repeat (first | apply Kd.V_alloc | apply Kd.zak | apply Kd.zam)); exact (Kd.zar (Kd.za0 (p := ⟨gb218, 2, none⟩) (Kd.za0 (p := ⟨gb218, 1, none⟩) (Kd.za0 (p := ⟨gb218, 0, none⟩) (Kd.zar HO_217000.out (fun k_ hk => (⟨hk, hk.2⟩ : _ ∧ k_ ≠ gb218))) (fun _ hk => hk.2) (.int .i64 ((zaa l1_0 x6_1).f0))) (fun _ hk => hk.2) (.int .i64 ((zaa l1_0 x6_1).f1))) (fun _ hk => hk.2) (.slice A217_2 ((zaa l1_0 x6_1).f2).length c217_2)) (fun _ h_ => h_.1))) hb); replace BK213 := zab.mk (zax (g := gb213) (o := .cells #[.slice A0_0 l0_0.length c0_0] 24 (0, 0)) (by (with_reducible repeat (first | refine zae ?_ _ | refine zac ?_ | refine zad ?_ _)); refine zaj ?_ NB213_218.out _; (with_reducible repeat (first | refine zae ?_ _ | refine zac ?_ | refine zad ?_ _)); refine zaj ?_ NB213_218.out _; (with_reducible repeat (first | refine zae ?_ _ | refine zac ?_ | refine zad ?_ _)); refine zaj ?_ NB213_218.out _; (with_reducible repeat (first | refine zae ?_ _ | refine zac ?_ | refine zad ?_ _)); exact BK213.out) hb); replace BK214 := zab.mk (zax (g := gb214) (o := .cells #[.slice (some ad217) l1_0.length c1_0] 24 (0, 0)) (by (with_reducible repeat (first | refine zae ?_ _ | refine zac ?_ | refine zad ?_ _)); refine zaj ?_ NB214_218.out _; (with_reducible repeat (first | refine zae ?_ _ | refine zac ?_ | refine zad ?_ _)); refine zaj ?_ NB214_218.out _; (with_reducible repeat (first | refine zae ?_ _ | refine zac ?_ | refine zad ?_ _)); refine zaj ?_ NB214_218.out _; (with_reducible repeat (first | refine zae ?_ _ | refine zac ?_ | refine zad ?_ _)); exact BK214.out) hb); replace BK215 := zab.mk (zax (g := gb215) (o := .cells #[.slice none 0 0] 24 (0, 0)) (by (with_reducible repeat (first | refine zae ?_ _ | refine zac ?_ | refine zad ?_ _)); refine zaj ?_ NB215_218.out _; (with_reducible repeat (first | refine zae ?_ _ | refine zac ?_ | refine zad ?_ _)); refine zaj ?_ NB215_218.out _; (with_reducible repeat (first | refine zae ?_ _ | refine zac ?_ | refine zad ?_ _)); refine zaj ?_ NB215_218.out _; (with_reducible repeat (first | refine zae ?_ _ | refine zac ?_ | refine zad ?_ _)); exact BK215.out) hb); replace BK216 := zab.mk (zax (g := gb216) (o := .cells #[.slice Ao52 x217000_1.length co52] 24 (0, 0)) (by (with_reducible repeat (first | refine zae ?_ _ | refine zac ?_ | refine zad ?_ _)); refine zaj ?_ NB216_218.out _; (with_reducible repeat (first | refine zae ?_ _ | refine zac ?_ | refine zad ?_ _)); refine zaj ?_ NB216_218.out _; (with_reducible repeat (first | refine zae ?_ _ | refine zac ?_ | refine zad ?_ _)); refine zaj ?_ NB216_218.out _; (with_reducible repeat (first | refine zae ?_ _ | refine zac ?_ | refine zad ?_ _)); exact BK216.out) hb); replace HR217_2 := zab.mk (Kd.za4 ((Kd.V_reads' (by (with_reducible repeat (first | apply Kd.V_alloc | apply Kd.zak | apply Kd.zam)); exact (Kd.zar (Kd.za0 (p := ⟨gb218, 2, none⟩) (Kd.za0 (p := ⟨gb218, 1, none⟩) (Kd.za0 (p := ⟨gb218, 0, none⟩) (Kd.zar HL217_2.out (fun k_ hk => (⟨hk, hk.2⟩ : _ ∧ k_ ≠ gb218))) (fun _ hk => hk.2) (.int .i64 ((zaa l1_0 x6_1).f0))) (fun _ hk => hk.2) (.int .i64 ((zaa l1_0 x6_1).f1))) (fun _ hk => hk.2) (.slice A217_2 ((zaa l1_0 x6_1).f2).length c217_2)) (fun _ h_ => h_.1)))).2.2) hb); replace HL217_2 := zab.mk (Kd.zat (by (with_reducible repeat (first | apply Kd.V_alloc | apply Kd.zak | apply Kd.zam)); exact (Kd.zar (Kd.za0 (p := ⟨gb218, 2, none⟩) (Kd.za0 (p := ⟨gb218, 1, none⟩) (Kd.za0 (p := ⟨gb218, 0, none⟩) (Kd.zar HL217_2.out (fun k_ hk => (⟨hk, hk.2⟩ : _ ∧ k_ ≠ gb218))) (fun _ hk => hk.2) (.int .i64 ((zaa l1_0 x6_1).f0))) (fun _ hk => hk.2) (.int .i64 ((zaa l1_0 x6_1).f1))) (fun _ hk => hk.2) (.slice A217_2 ((zaa l1_0 x6_1).f2).length c217_2)) (fun _ h_ => h_.1))) hb); replace BK218 := zab.mk (zax (g := gb218) (o := .cells #[.int .i64 ((zaa l1_0 x6_1).f0), .int .i64 ((zaa l1_0 x6_1).f1), .slice A217_2 ((zaa l1_0 x6_1).f2).length c217_2] 38 (0, 0)) (by (with_reducible repeat (first | refine zae ?_ _ | refine zac ?_ | refine zad ?_ _)); refine zas (cs := #[.int .i64 ((zaa l1_0 x6_1).f0), .int .i64 ((zaa l1_0 x6_1).f1), .slice none 0 0]) ?_ 2 _ rfl; (with_reducible repeat (first | refine zae ?_ _ | refine zac ?_ | refine zad ?_ _)); refine zas (cs := #[.int .i64 ((zaa l1_0 x6_1).f0), .int .i64 0, .slice none 0 0]) ?_ 1 _ rfl; (with_reducible repeat (first | refine zae ?_ _ | refine zac ?_ | refine zad ?_ _)); refine zas (cs := #[.int .i64 0, .int .i64 0, .slice none 0 0]) ?_ 0 _ rfl; (with_reducible repeat (first | refine zae ?_ _ | refine zac ?_ | refine zad ?_ _)); exact BK218.out) hb); replace HB := zab.mk (za1 Yb_PGssPushesx8_4 hb); (try clear hb); (try clear hb2); (try clear hk); (try clear hi); obtain ⟨hcz54_0, hfz54_0⟩ := Yc1 BK216.out; obtain ⟨hcz55_0, hfz55_0, hcz55_1, hfz55_1, hcz55_2, hfz55_2⟩ := Yc3 BK218.out) | ((with_reducible refine za6 (f := 42) rfl ?_); refine Ygl (some 41) Try.func42 #[.agg #[.slice Ao52 x217000_1.length co52], .agg #[.int .i64 ((zaa l1_0 x6_1).f0), .int .i64 ((zaa l1_0 x6_1).f1), .slice A217_2 ((zaa l1_0 x6_1).f2).length c217_2]] ?_; (with_reducible refine (zal.calls k1 _ _ x217000_1 ((zaa l1_0 x6_1).f0) ((zaa l1_0 x6_1).f1) _ _ ((zaa l1_0 x6_1).f2) t220 _ ?side1 ?side2 ?side3 HC217_2.out A38.out).mono ?_); (case side1 => repeat (first | exact (Kd.V_reads' HO_217000.out).2.2 | (with_reducible refine Kd.C_alloc ?_ _) | (with_reducible refine Kd.C_drewN ?_ _) | (with_reducible refine Kd.C_drew ?_))); (case side2 => exact (Kd.V_reads' HO_217000.out).2.1); (case side3 => repeat (first | exact (by repeat (first | (with_reducible exact HR217_2.out) | (with_reducible refine Kd.C_alloc ?_ _) | (with_reducible refine Kd.C_drewN ?_ _) | (with_reducible refine Kd.C_drew ?_) | exact HR217_2.out)) | (with_reducible refine Kd.C_alloc ?_ _) | (with_reducible refine Kd.C_drewN ?_ _) | (with_reducible refine Kd.C_drew ?_))); rintro e w56 ⟨v221, rfl, ho0, hb⟩; refine ⟨_, rfl, ?_⟩; replace HO_214000 := zab.mk (Kd.V_elder' (by (with_reducible repeat (first | apply Kd.V_alloc | apply Kd.zak | apply Kd.zam)); exact HO_214000.out) (by first | exact Kd.N_base ho0 | exact Kd.zdi ho0) hb); replace HO_215000 := zab.mk (Kd.V_elder' (by (with_reducible repeat (first | apply Kd.V_alloc | apply Kd.zak | apply Kd.zam)); exact HO_215000.out) (by first | exact Kd.N_base ho0 | exact Kd.zdi ho0) hb); replace HO_217000 := zab.mk (Kd.V_elder' (by (with_reducible repeat (first | apply Kd.V_alloc | apply Kd.zak | apply Kd.zam)); exact HO_217000.out) (by first | exact Kd.N_base ho0 | exact Kd.zdi ho0) hb); replace HL217_2 := zab.mk (Kd.V_elder' (by (with_reducible repeat (first | apply Kd.V_alloc | apply Kd.zak | apply Kd.zam)); exact HL217_2.out) (by first | exact Kd.N_base ho0 | exact Kd.zdi ho0) hb); have HO222 := zab.mk (Kd.N_lower (Kd.zb9 (ok' := fun k_ => ((P0_0_ k_ ∨ P1_0_ k_) ∨ w.heap.size ≤ k_) ∧ k_ ≠ gb213 ∧ k_ ≠ gb214 ∧ k_ ≠ gb215 ∧ k_ ≠ gb216 ∧ k_ ≠ gb218) (Kd.R_N (Kd.zc7 ho0)) (fun k_ hk_ => ⟨(.inr (Nat.le_trans (za7 Yb_PGssPushesx8_4) hk_.2.1)), (Kd.zbh (g := gb213) (o := .cells #[.slice A0_0 l0_0.length c0_0] 24 (0, 0)) (Yg BK213) k_ hk_.2.1), (Kd.zbh (g := gb214) (o := .cells #[.slice (some ad217) l1_0.length c1_0] 24 (0, 0)) (Yg BK214) k_ hk_.2.1), (Kd.zbh (g := gb215) (o := .cells #[.slice none 0 0] 24 (0, 0)) (Yg BK215) k_ hk_.2.1), (Kd.zbh (g := gb216) (o := .cells #[.slice Ao52 x217000_1.length co52] 24 (0, 0)) (Yg BK216) k_ hk_.2.1), (Kd.zbh (g := gb218) (o := .cells #[.int .i64 ((zaa l1_0 x6_1).f0), .int .i64 ((zaa l1_0 x6_1).f1), .slice A217_2 ((zaa l1_0 x6_1).f2).length c217_2] 38 (0, 0)) (Yg BK218) k_ hk_.2.1)⟩)) (za7 Yb_PGssPushesx8_4)); replace BK213 := Ykb BK213 hb; replace BK214 := Ykb BK214 hb; replace BK215 := Ykb BK215 hb; replace BK216 := Ykb BK216 hb; replace HR217_2 := zab.mk (Kd.za4 (by repeat (first | (with_reducible exact HR217_2.out) | (with_reducible refine Kd.C_alloc ?_ _) | (with_reducible refine Kd.C_drewN ?_ _) | (with_reducible refine Kd.C_drew ?_) | exact HR217_2.out)) hb); replace BK218 := Ykb BK218 hb; replace HB := zab.mk (za1 Yb_PGssPushesx8_4 hb); (try clear hb); (try clear hb2); (try clear hk); (try clear hi); (try clear ho0); obtain ⟨Ao57, co57, eo57⟩ := Kd.zeh HO222.out; subst eo57; obtain ⟨hcz58_0, hfz58_0⟩ := Yc1 BK216.out))
       go_roundg k1
       case measure => have := HK1.out; omega
       case rel => exact ⟨(wrap64 (x6_1 + 1)), (t220), (.slice Ao57 t220.length co57), Yfs, H', ⟨by have := HK1.out; omega⟩, ⟨by (with_reducible repeat (first | apply Kd.V_alloc | apply Kd.zak | apply Kd.zam)); exact Kd.zar (Kd.za0 (p := ⟨gb216, 0, none⟩) (Kd.zar HO_214000.out (fun k_ hk => (⟨hk, hk.1.1.2.2.2.2⟩ : _ ∧ k_ ≠ gb216))) (fun _ hk => hk.2) (.slice Ao57 t220.length co57)) (fun _ hk => ⟨hk.1.1.1.1, ⟨hk.1.1.1.2.1, ⟨hk.1.1.1.2.2.1, ⟨hk.1.1.1.2.2.2.1, hk.1.1.1.2.2.2.2⟩⟩⟩⟩)⟩, ⟨by (with_reducible repeat (first | apply Kd.V_alloc | apply Kd.zak | apply Kd.zam)); exact Kd.zar (Kd.za0 (p := ⟨gb216, 0, none⟩) (Kd.zar HO_215000.out (fun k_ hk => (⟨hk, hk.1.1.2.2.2.2⟩ : _ ∧ k_ ≠ gb216))) (fun _ hk => hk.2) (.slice Ao57 t220.length co57)) (fun _ hk => ⟨hk.1.1.1.1, ⟨hk.1.1.1.2.1, ⟨hk.1.1.1.2.2.1, ⟨hk.1.1.1.2.2.2.1, hk.1.1.1.2.2.2.2⟩⟩⟩⟩)⟩, ⟨Kd.N_V (by (with_reducible repeat (first | apply Kd.N_alloc | apply Kd.N_drewN | apply Kd.zcr)); exact Kd.zb9 (Kd.zds (p := ⟨gb216, 0, none⟩) (Kd.zb9 HO222.out (fun k_ hk => (⟨hk, hk.2.2.2.2.1⟩ : _ ∧ k_ ≠ gb216))) (fun _ hk => hk.2) (.slice Ao57 t220.length co57)) (fun _ hk => ⟨hk.1.1, ⟨hk.1.2.1, ⟨hk.1.2.2.1, ⟨hk.1.2.2.2.1, hk.1.2.2.2.2.1⟩⟩⟩⟩))⟩, ⟨by (with_reducible repeat (first | refine zae ?_ _ | refine zac ?_ | refine zad ?_ _)); refine zaj ?_ NB213_216.out _; (with_reducible repeat (first | refine zae ?_ _ | refine zac ?_ | refine zad ?_ _)); exact BK213.out⟩, ⟨by (with_reducible repeat (first | refine zae ?_ _ | refine zac ?_ | refine zad ?_ _)); refine zaj ?_ NB214_216.out _; (with_reducible repeat (first | refine zae ?_ _ | refine zac ?_ | refine zad ?_ _)); exact BK214.out⟩, ⟨by (with_reducible repeat (first | refine zae ?_ _ | refine zac ?_ | refine zad ?_ _)); refine zaj ?_ NB215_216.out _; (with_reducible repeat (first | refine zae ?_ _ | refine zac ?_ | refine zad ?_ _)); exact BK215.out⟩, ⟨by (with_reducible repeat (first | refine zae ?_ _ | refine zac ?_ | refine zad ?_ _)); refine zas (cs := #[.slice Ao52 x217000_1.length co52]) ?_ 0 _ rfl; (with_reducible repeat (first | refine zae ?_ _ | refine zac ?_ | refine zad ?_ _)); exact BK216.out⟩, ⟨Yb_PGssPushesx8_4⟩⟩
     ·rw [if_neg c17] at H
      have c17b0 := decide_eq_false c17
      clear c17
      have H' := zab.mk H
      clear H
      have hnb59 := NB214_213.out
      have hnc59 := NB213_214.out
      have hnb60 := NB214_215.out
      have hnc60 := NB215_214.out
      have hnb61 := NB214_216.out
      have hnc61 := NB216_214.out
      obtain ⟨hcz62_0, hfz62_0⟩ := Yc1 BK214.out
      have p217 : 0 ≤ (x6_1 : Int) := Yod
      have q217 : x6_1 < (l1_0.length : Int) := Yod
      obtain ⟨ad217, A217_2, c217_2, e217, hx217_0, hx217_1, hx217_2, hl217_2, hi217_2⟩ := zbn (Kd.V_reads' HO_215000.out).2.2 x6_1 p217 q217
      cases e217
      obtain ⟨ce217, hce217, hMe217, hcc217⟩ := Kd.zec HO_215000.out z38 x6_1 p217 (by first | exact q217 | exact of_decide_eq_true (by first | (with_reducible assumption) | assumption) | (have e_ := (Kd.V_reads' HO_215000.out).1; omega))
      obtain ⟨ua217_2, uc217_2, rfl, ul217_2, ge217_2⟩ := zb5 hMe217
      have hv217_2 := hcc217 2 _ rfl
      rw [zb0 _ _ 2 (by omega)] at hv217_2
      replace hv217_2 := Option.some.inj (hv217_2.symm.trans hx217_2)
      injection hv217_2 with hva_ hvn_ hvc_
      rw [hva_] at ge217_2
      rw [hvc_] at ul217_2
      have HL217_2 := zab.mk (show Kd.V (Kd.int .i64) 3 _ w.heap.size _ _ ((zaa l1_0 x6_1).f2) from Kd.V_mk ul217_2 ge217_2)
      clear hva_ hvn_ hvc_ ge217_2 ul217_2;clear hcc217 hce217;have HR217_2 := zab.mk hi217_2;have HC217_2 := zab.mk hl217_2;clear hi217_2 hl217_2
      replace p217 := eq_true p217
      replace q217 := eq_true q217
      go_wp2_with (first | ((with_reducible refine zbb (N := 7) rfl ?_); refine Ybx 7 #[.int .i64 0, .int .i64 0, .slice none 0 0] 38 ?_; intro gb218 hg w63 hbox hb; replace HO_214000 := zab.mk (Kd.zat (Kd.zbi (by (with_reducible repeat (first | apply Kd.V_alloc | apply Kd.zak | apply Kd.zam)); exact HO_214000.out) gb218 (Nat.le_of_eq hg.symm)) hb); replace HO_215000 := zab.mk (Kd.zat (Kd.zbi (by (with_reducible repeat (first | apply Kd.V_alloc | apply Kd.zak | apply Kd.zam)); exact HO_215000.out) gb218 (Nat.le_of_eq hg.symm)) hb); replace HO_217000 := zab.mk (Kd.zat (Kd.zbi (by (with_reducible repeat (first | apply Kd.V_alloc | apply Kd.zak | apply Kd.zam)); exact HO_217000.out) gb218 (Nat.le_of_eq hg.symm)) hb); replace HL217_2 := zab.mk (Kd.zat (Kd.zbi (by (with_reducible repeat (first | apply Kd.V_alloc | apply Kd.zak | apply Kd.zam)); exact HL217_2.out) gb218 (Nat.le_of_eq hg.symm)) hb); replace HR217_2 := zab.mk (Kd.za4 (by repeat (first | (with_reducible exact HR217_2.out) | (with_reducible refine Kd.C_alloc ?_ _) | (with_reducible refine Kd.C_drewN ?_ _) | (with_reducible refine Kd.C_drew ?_) | exact HR217_2.out)) hb); obtain ⟨BK218, GW218, GE218, HB⟩ := Yb4 hbox hg hb Yb_PGssPushesx8_3; have NB213_218 := Ynl BK213 hg; have NB218_213 := Yng BK213 hg; replace BK213 := Ykb BK213 hb; have NB214_218 := Ynl BK214 hg; have NB218_214 := Yng BK214 hg; replace BK214 := Ykb BK214 hb; have NB215_218 := Ynl BK215 hg; have NB218_215 := Yng BK215 hg; replace BK215 := Ykb BK215 hb; have NB216_218 := Ynl BK216 hg; have NB218_216 := Yng BK216 hg; replace BK216 := Ykb BK216 hb; clear hb hbox hg; have hnb64 := NB218_213.out; have hnc64 := NB213_218.out; have hnb65 := NB218_214.out; have hnc65 := NB214_218.out; have hnb66 := NB218_215.out; have hnc66 := NB215_218.out; have hnb67 := NB218_216.out; have hnc67 := NB216_218.out; obtain ⟨hcz68_0, hfz68_0, hcz68_1, hfz68_1, hcz68_2, hfz68_2⟩ := Yc3 BK218.out; have hnb69 := NB216_213.out; have hnc69 := NB213_216.out; have hnb70 := NB216_215.out; have hnc70 := NB215_216.out; obtain ⟨hcz71_0, hfz71_0⟩ := Yc1 BK216.out; obtain ⟨Ao72, co72, eo72⟩ := Kd.zbz HO_217000.out; subst eo72) | ((with_reducible refine za6 (f := 14) rfl ?_); refine Ygl (some 32) Try.func14 #[.agg #[.slice Ao72 x217000_1.length co72], .int .i64 ((zaa l1_0 x6_1).f0), .int .i64 ((zaa l1_0 x6_1).f1)] ?_; (with_reducible refine (zaw.calls k1 _ _ x217000_1 ((zaa l1_0 x6_1).f0) ((zaa l1_0 x6_1).f1) t219 _ ?side1 ?side2 A16.out).mono ?_); (case side1 => refine (Kd.V_reads' (e := 38) (base := w.heap.size) (ok := fun k_ => ((((P0_0_ k_ ∨ P1_0_ k_) ∨ w.heap.size ≤ k_) ∧ (k_ ≠ gb213 ∧ (k_ ≠ gb214 ∧ (k_ ≠ gb215 ∧ k_ ≠ gb216)))) ∧ k_ ≠ gb218)) (n := x217000_1.length) (c := co72) ?_).2.2; exact (by (with_reducible repeat (first | apply Kd.V_alloc | apply Kd.zak | apply Kd.zam)); exact (Kd.zar (Kd.za0 (p := ⟨gb218, 2, none⟩) (Kd.za0 (p := ⟨gb218, 1, none⟩) (Kd.za0 (p := ⟨gb218, 0, none⟩) (Kd.zar HO_217000.out (fun k_ hk => (⟨hk, hk.2⟩ : _ ∧ k_ ≠ gb218))) (fun _ hk => hk.2) (.int .i64 ((zaa l1_0 x6_1).f0))) (fun _ hk => hk.2) (.int .i64 ((zaa l1_0 x6_1).f1))) (fun _ hk => hk.2) (.slice A217_2 ((zaa l1_0 x6_1).f2).length c217_2)) (fun _ h_ => h_.1)))); (case side2 => exact (Kd.V_reads' HO_217000.out).2.1); rintro e w73 ⟨rfl, hb⟩; refine ⟨_, rfl, ?_⟩; replace HO_214000 := zab.mk (Kd.zat (by (with_reducible repeat (first | apply Kd.V_alloc | apply Kd.zak | apply Kd.zam)); exact (Kd.zar (Kd.za0 (p := ⟨gb218, 2, none⟩) (Kd.za0 (p := ⟨gb218, 1, none⟩) (Kd.za0 (p := ⟨gb218, 0, none⟩) (Kd.zar HO_214000.out (fun k_ hk => (⟨hk, hk.2⟩ : _ ∧ k_ ≠ gb218))) (fun _ hk => hk.2) (.int .i64 ((zaa l1_0 x6_1).f0))) (fun _ hk => hk.2) (.int .i64 ((zaa l1_0 x6_1).f1))) (fun _ hk => hk.2) (.slice A217_2 ((zaa l1_0 x6_1).f2).length c217_2)) (fun _ h_ => h_.1))) hb); replace HO_215000 := zab.mk (Kd.zat (by (with_reducible repeat (first | apply Kd.V_alloc | apply Kd.zak | apply Kd.zam)); exact (Kd.zar (Kd.za0 (p := ⟨gb218, 2, none⟩) (Kd.za0 (p := ⟨gb218, 1, none⟩) (Kd.za0 (p := ⟨gb218, 0, none⟩) (Kd.zar HO_215000.out (fun k_ hk => (⟨hk, hk.2⟩ : _ ∧ k_ ≠ gb218))) (fun _ hk => hk.2) (.int .i64 ((zaa l1_0 x6_1).f0))) (fun _ hk => hk.2) (.int .i64 ((zaa l1_0 x6_1).f1))) (fun _ hk => hk.2) (.slice A217_2 ((zaa l1_0 x6_1).f2).length c217_2)) (fun _ h_ => h_.1))) hb); replace HO_217000 := zab.mk (Kd.zat (by (with_reducible repeat (first | apply Kd.V_alloc | apply Kd.zak | apply Kd.zam)); exact (Kd.zar (Kd.za0 (p := ⟨gb218, 2, none⟩) (Kd.za0 (p := ⟨gb218, 1, none⟩) (Kd.za0 (p := ⟨gb218, 0, none⟩) (Kd.zar HO_217000.out (fun k_ hk => (⟨hk, hk.2⟩ : _ ∧ k_ ≠ gb218))) (fun _ hk => hk.2) (.int .i64 ((zaa l1_0 x6_1).f0))) (fun _ hk => hk.2) (.int .i64 ((zaa l1_0 x6_1).f1))) (fun _ hk => hk.2) (.slice A217_2 ((zaa l1_0 x6_1).f2).length c217_2)) (fun _ h_ => h_.1))) hb); replace BK213 := zab.mk (zax (g := gb213) (o := .cells #[.slice A0_0 l0_0.length c0_0] 24 (0, 0)) (by (with_reducible repeat (first | refine zae ?_ _ | refine zac ?_ | refine zad ?_ _)); refine zaj ?_ NB213_218.out _; (with_reducible repeat (first | refine zae ?_ _ | refine zac ?_ | refine zad ?_ _)); refine zaj ?_ NB213_218.out _; (with_reducible repeat (first | refine zae ?_ _ | refine zac ?_ | refine zad ?_ _)); refine zaj ?_ NB213_218.out _; (with_reducible repeat (first | refine zae ?_ _ | refine zac ?_ | refine zad ?_ _)); exact BK213.out) hb); replace BK214 := zab.mk (zax (g := gb214) (o := .cells #[.slice (some ad217) l1_0.length c1_0] 24 (0, 0)) (by (with_reducible repeat (first | refine zae ?_ _ | refine zac ?_ | refine zad ?_ _)); refine zaj ?_ NB214_218.out _; (with_reducible repeat (first | refine zae ?_ _ | refine zac ?_ | refine zad ?_ _)); refine zaj ?_ NB214_218.out _; (with_reducible repeat (first | refine zae ?_ _ | refine zac ?_ | refine zad ?_ _)); refine zaj ?_ NB214_218.out _; (with_reducible repeat (first | refine zae ?_ _ | refine zac ?_ | refine zad ?_ _)); exact BK214.out) hb); replace BK215 := zab.mk (zax (g := gb215) (o := .cells #[.slice none 0 0] 24 (0, 0)) (by (with_reducible repeat (first | refine zae ?_ _ | refine zac ?_ | refine zad ?_ _)); refine zaj ?_ NB215_218.out _; (with_reducible repeat (first | refine zae ?_ _ | refine zac ?_ | refine zad ?_ _)); refine zaj ?_ NB215_218.out _; (with_reducible repeat (first | refine zae ?_ _ | refine zac ?_ | refine zad ?_ _)); refine zaj ?_ NB215_218.out _; (with_reducible repeat (first | refine zae ?_ _ | refine zac ?_ | refine zad ?_ _)); exact BK215.out) hb); replace BK216 := zab.mk (zax (g := gb216) (o := .cells #[.slice Ao72 x217000_1.length co72] 24 (0, 0)) (by (with_reducible repeat (first | refine zae ?_ _ | refine zac ?_ | refine zad ?_ _)); refine zaj ?_ NB216_218.out _; (with_reducible repeat (first | refine zae ?_ _ | refine zac ?_ | refine zad ?_ _)); refine zaj ?_ NB216_218.out _; (with_reducible repeat (first | refine zae ?_ _ | refine zac ?_ | refine zad ?_ _)); refine zaj ?_ NB216_218.out _; (with_reducible repeat (first | refine zae ?_ _ | refine zac ?_ | refine zad ?_ _)); exact BK216.out) hb); replace HR217_2 := zab.mk (Kd.za4 ((Kd.V_reads' (by (with_reducible repeat (first | apply Kd.V_alloc | apply Kd.zak | apply Kd.zam)); exact (Kd.zar (Kd.za0 (p := ⟨gb218, 2, none⟩) (Kd.za0 (p := ⟨gb218, 1, none⟩) (Kd.za0 (p := ⟨gb218, 0, none⟩) (Kd.zar HL217_2.out (fun k_ hk => (⟨hk, hk.2⟩ : _ ∧ k_ ≠ gb218))) (fun _ hk => hk.2) (.int .i64 ((zaa l1_0 x6_1).f0))) (fun _ hk => hk.2) (.int .i64 ((zaa l1_0 x6_1).f1))) (fun _ hk => hk.2) (.slice A217_2 ((zaa l1_0 x6_1).f2).length c217_2)) (fun _ h_ => h_.1)))).2.2) hb); replace HL217_2 := zab.mk (Kd.zat (by (with_reducible repeat (first | apply Kd.V_alloc | apply Kd.zak | apply Kd.zam)); exact (Kd.zar (Kd.za0 (p := ⟨gb218, 2, none⟩) (Kd.za0 (p := ⟨gb218, 1, none⟩) (Kd.za0 (p := ⟨gb218, 0, none⟩) (Kd.zar HL217_2.out (fun k_ hk => (⟨hk, hk.2⟩ : _ ∧ k_ ≠ gb218))) (fun _ hk => hk.2) (.int .i64 ((zaa l1_0 x6_1).f0))) (fun _ hk => hk.2) (.int .i64 ((zaa l1_0 x6_1).f1))) (fun _ hk => hk.2) (.slice A217_2 ((zaa l1_0 x6_1).f2).length c217_2)) (fun _ h_ => h_.1))) hb); replace BK218 := zab.mk (zax (g := gb218) (o := .cells #[.int .i64 ((zaa l1_0 x6_1).f0), .int .i64 ((zaa l1_0 x6_1).f1), .slice A217_2 ((zaa l1_0 x6_1).f2).length c217_2] 38 (0, 0)) (by (with_reducible repeat (first | refine zae ?_ _ | refine zac ?_ | refine zad ?_ _)); refine zas (cs := #[.int .i64 ((zaa l1_0 x6_1).f0), .int .i64 ((zaa l1_0 x6_1).f1), .slice none 0 0]) ?_ 2 _ rfl; (with_reducible repeat (first | refine zae ?_ _ | refine zac ?_ | refine zad ?_ _)); refine zas (cs := #[.int .i64 ((zaa l1_0 x6_1).f0), .int .i64 0, .slice none 0 0]) ?_ 1 _ rfl; (with_reducible repeat (first | refine zae ?_ _ | refine zac ?_ | refine zad ?_ _)); refine zas (cs := #[.int .i64 0, .int .i64 0, .slice none 0 0]) ?_ 0 _ rfl; (with_reducible repeat (first | refine zae ?_ _ | refine zac ?_ | refine zad ?_ _)); exact BK218.out) hb); replace HB := zab.mk (za1 Yb_PGssPushesx8_4 hb); (try clear hb); (try clear hb2); (try clear hk); (try clear hi)))
      go_roundg k1
      case measure => have := HK1.out; omega
      case rel => exact ⟨(wrap64 (x6_1 + 1)), (x217000_1), (.slice Ao72 x217000_1.length co72), Yfs, H', ⟨by have := HK1.out; omega⟩, ⟨by (with_reducible repeat (first | apply Kd.V_alloc | apply Kd.zak | apply Kd.zam)); exact Kd.zar HO_214000.out (fun _ hk => ⟨hk.1.1, ⟨hk.1.2.1, ⟨hk.1.2.2.1, ⟨hk.1.2.2.2.1, hk.1.2.2.2.2⟩⟩⟩⟩)⟩, ⟨by (with_reducible repeat (first | apply Kd.V_alloc | apply Kd.zak | apply Kd.zam)); exact Kd.zar HO_215000.out (fun _ hk => ⟨hk.1.1, ⟨hk.1.2.1, ⟨hk.1.2.2.1, ⟨hk.1.2.2.2.1, hk.1.2.2.2.2⟩⟩⟩⟩)⟩, ⟨by (with_reducible repeat (first | apply Kd.V_alloc | apply Kd.zak | apply Kd.zam)); exact Kd.zar HO_217000.out (fun _ hk => ⟨hk.1.1, ⟨hk.1.2.1, ⟨hk.1.2.2.1, ⟨hk.1.2.2.2.1, hk.1.2.2.2.2⟩⟩⟩⟩)⟩, ⟨Yg BK213⟩, ⟨Yg BK214⟩, ⟨Yg BK215⟩, ⟨Yg BK216⟩, ⟨Yb_PGssPushesx8_4⟩⟩
    ·rw [if_neg c15] at H
     exact absurd H (by simp)
   ·rw [if_neg c14] at H
    have c14b0 := decide_eq_false c14
    clear c14
    by_cases c74 : ([] : List (S38)).length + x217000_1.length < 3518437208883
    ·rw [if_pos c74] at H
     have LMc74 := zab.mk c74;clear c74
     obtain ⟨y223, hy223⟩ : ∃ y_ : List (S38), y_ = (([] : List (S38)) ++ x217000_1) := ⟨_, rfl⟩
     replace H : (zan.l1 k1 0 l1_0 y223) = some r := by first | (rw [hy223]; with_reducible exact H) | (have H2_ := (Option.bind_some _ _).symm.trans H; rw [hy223]; with_reducible exact H2_) | (have H2_ := (Option.bind_some _ _).symm.trans H; with_reducible exact H2_) | with_reducible exact H | (rw [hy223]; exact H) | exact H
     have Ny223 := zab.mk hy223;clear hy223
     have H' := zab.mk H
     clear H
     have hnb75 := NB214_213.out
     have hnc75 := NB213_214.out
     have hnb76 := NB214_215.out
     have hnc76 := NB215_214.out
     have hnb77 := NB214_216.out
     have hnc77 := NB216_214.out
     obtain ⟨hcz78_0, hfz78_0⟩ := Yc1 BK214.out
     have hnb79 := NB216_213.out
     have hnc79 := NB213_216.out
     have hnb80 := NB216_215.out
     have hnc80 := NB215_216.out
     obtain ⟨hcz81_0, hfz81_0⟩ := Yc1 BK216.out
     obtain ⟨Ao83, co83, eo83⟩ := Kd.zbz HO_217000.out
     subst eo83
     go_wp2_with (first | ((with_reducible refine zca (b := .append) (xs := #[.tmp 42, .tmp 44]) rfl ?_); at_builtin; refine Kd.zgr k38 (w0 := w) w.heap.size rfl (.tmp 42) (.tmp 44) 22 38 (.agg #[(.int .i64 0), (.int .i64 0), (.slice none 0 0)]) 40 rfl Try.underlying22 info38 rfl (by decide) (by omega) (.slice none 0 0) ([] : List (S38)) x217000_1 _ _ _ (fun k_ => ((P0_0_ k_ ∨ P1_0_ k_) ∨ w.heap.size ≤ k_) ∧ k_ ≠ gb213 ∧ k_ ≠ gb214 ∧ k_ ≠ gb215 ∧ k_ ≠ gb216) (fun k_ => ((fun k_ => ((P0_0_ k_ ∨ P1_0_ k_) ∨ w.heap.size ≤ k_) ∧ k_ ≠ gb213 ∧ k_ ≠ gb214 ∧ k_ ≠ gb215 ∧ k_ ≠ gb216)) k_ ∧ some k_ ≠ (.slice none 0 0 : Value).ownBlock) rfl rfl ?aO ?aR (fun _ hk => hk) ?aF ?aB ?aS ?aL ?_; (case aR => exact (by skip; exact Kd.V_F (Kd.zar (ok' := (fun k_ => ((fun k_ => ((P0_0_ k_ ∨ P1_0_ k_) ∨ w.heap.size ≤ k_) ∧ k_ ≠ gb213 ∧ k_ ≠ gb214 ∧ k_ ≠ gb215 ∧ k_ ≠ gb216)) k_ ∧ some k_ ≠ (.slice none 0 0 : Value).ownBlock)) (HO_217000.out) (fun k_ hk => ⟨⟨hk.1, ⟨hk.2.1, ⟨hk.2.2.1, ⟨hk.2.2.2.1, hk.2.2.2.2⟩⟩⟩⟩, (by simp [Value.ownBlock])⟩)))); (case aB => exact Yb_PGssPushesx8_3); (case aF => exact (fun k_ hk => ⟨(.inr (Nat.le_trans (za7 Yb_PGssPushesx8_3) hk)), Kd.zbh (g := gb213) (o := .cells #[.slice A0_0 l0_0.length c0_0] 24 (0, 0)) (Yg BK213) k_ hk, Kd.zbh (g := gb214) (o := .cells #[.slice A1_0 l1_0.length c1_0] 24 (0, 0)) (Yg BK214) k_ hk, Kd.zbh (g := gb215) (o := .cells #[.slice none 0 0] 24 (0, 0)) (Yg BK215) k_ hk, Kd.zbh (g := gb216) (o := .cells #[.slice Ao83 x217000_1.length co83] 24 (0, 0)) (Yg BK216) k_ hk⟩)); (case aO => exact ((Kd.N_nil _ _ _ _ (fun k_ => ((P0_0_ k_ ∨ P1_0_ k_) ∨ w.heap.size ≤ k_) ∧ k_ ≠ gb213 ∧ k_ ≠ gb214 ∧ k_ ≠ gb215 ∧ k_ ≠ gb216)))); (case aS => exact (za7 Yb_PGssPushesx8_3)); (case aL => have := LMc74.out; omega); intro v224 w82 ho hb hg hat; rw [← Ny223.out] at ho; replace HO_214000 := zab.mk (Kd.zbu (Kd.zci (by (with_reducible repeat (first | apply Kd.V_alloc | apply Kd.zak | apply Kd.zam)); exact HO_214000.out)) hg hat); replace HO_215000 := zab.mk (Kd.zbu (Kd.zci (by (with_reducible repeat (first | apply Kd.V_alloc | apply Kd.zak | apply Kd.zam)); exact HO_215000.out)) hg hat); replace HO_217000 := zab.mk (Kd.zbu (Kd.zci (by (with_reducible repeat (first | apply Kd.V_alloc | apply Kd.zak | apply Kd.zam)); exact HO_217000.out)) hg hat); replace BK213 := zab.mk (zbm (g := gb213) (o := .cells #[.slice A0_0 l0_0.length c0_0] 24 (0, 0)) (Yg BK213) hg (by simp [Value.ownBlock])); replace BK214 := zab.mk (zbm (g := gb214) (o := .cells #[.slice A1_0 l1_0.length c1_0] 24 (0, 0)) (Yg BK214) hg (by simp [Value.ownBlock])); replace BK215 := zab.mk (zbm (g := gb215) (o := .cells #[.slice none 0 0] 24 (0, 0)) (Yg BK215) hg (by simp [Value.ownBlock])); replace BK216 := zab.mk (zbm (g := gb216) (o := .cells #[.slice Ao83 x217000_1.length co83] 24 (0, 0)) (Yg BK216) hg (by simp [Value.ownBlock])); replace HB := zab.mk (hb); have HO225 := zab.mk (ho); clear ho hb hg hat; obtain ⟨Ao84, co84, eo84⟩ := Kd.zeh HO225.out; subst eo84; obtain ⟨hcz85_0, hfz85_0⟩ := Yc1 BK216.out))
     go_loopg [9] k1 (fun kq v9 w' => ∃ (x9_2 : Int) (x214000_2 : List (S38)) (x215000_2 : List (S38)) (x217000_2 : List (S38)) (u214000 : Value) (u215000 : Value) (u217000 : Value), v9 = .int .i64 x9_2 ∧ zab (zan.l1 kq x9_2 x215000_2 x217000_2 = some r) ∧ zab (kq ≤ k1) ∧ zab (Kd.V k38 38 w' w.heap.size (fun k_ => ((P0_0_ k_ ∨ P1_0_ k_) ∨ w.heap.size ≤ k_) ∧ some k_ ≠ (u217000 : Value).ownBlock ∧ k_ ≠ gb213 ∧ k_ ≠ gb214 ∧ k_ ≠ gb215 ∧ k_ ≠ gb216) u214000 x214000_2) ∧ zab (Kd.V k38 38 w' w.heap.size (fun k_ => ((P0_0_ k_ ∨ P1_0_ k_) ∨ w.heap.size ≤ k_) ∧ some k_ ≠ (u217000 : Value).ownBlock ∧ k_ ≠ gb213 ∧ k_ ≠ gb214 ∧ k_ ≠ gb215 ∧ k_ ≠ gb216) u215000 x215000_2) ∧ zab (Kd.N k38 38 w' w.heap.size (fun k_ => ((P0_0_ k_ ∨ P1_0_ k_) ∨ w.heap.size ≤ k_) ∧ k_ ≠ gb213 ∧ k_ ≠ gb214 ∧ k_ ≠ gb215 ∧ k_ ≠ gb216) u217000 x217000_2) ∧ zab (w'.heap[gb213]? = some (.cells #[u214000] 24 (0, 0))) ∧ zab (w'.heap[gb214]? = some (.cells #[u215000] 24 (0, 0))) ∧ zab (w'.heap[gb215]? = some (.cells #[(.slice none 0 0)] 24 (0, 0))) ∧ zab (w'.heap[gb216]? = some (.cells #[u217000] 24 (0, 0))) ∧ zab (Below w.heap.size w w'))
     case atStart => exact ⟨(0), (l0_0), (l1_0), (y223), (.slice A0_0 l0_0.length c0_0), (.slice A1_0 l1_0.length c1_0), (.slice Ao84 y223.length co84), Yfs, H', ⟨Nat.le_refl _⟩, ⟨by (with_reducible repeat (first | apply Kd.V_alloc | apply Kd.zak | apply Kd.zam)); exact Kd.zar (Kd.za0 (p := ⟨gb216, 0, none⟩) (Kd.zar HO_214000.out (fun k_ hk => (⟨hk, hk.1.2.2.2.2⟩ : _ ∧ k_ ≠ gb216))) (fun _ hk => hk.2) (.slice Ao84 y223.length co84)) (fun _ hk => ⟨hk.1.1.1, ⟨hk.1.2, ⟨hk.1.1.2.1, ⟨hk.1.1.2.2.1, ⟨hk.1.1.2.2.2.1, hk.1.1.2.2.2.2⟩⟩⟩⟩⟩)⟩, ⟨by (with_reducible repeat (first | apply Kd.V_alloc | apply Kd.zak | apply Kd.zam)); exact Kd.zar (Kd.za0 (p := ⟨gb216, 0, none⟩) (Kd.zar HO_215000.out (fun k_ hk => (⟨hk, hk.1.2.2.2.2⟩ : _ ∧ k_ ≠ gb216))) (fun _ hk => hk.2) (.slice Ao84 y223.length co84)) (fun _ hk => ⟨hk.1.1.1, ⟨hk.1.2, ⟨hk.1.1.2.1, ⟨hk.1.1.2.2.1, ⟨hk.1.1.2.2.2.1, hk.1.1.2.2.2.2⟩⟩⟩⟩⟩)⟩, ⟨by (with_reducible repeat (first | apply Kd.N_alloc | apply Kd.N_drewN | apply Kd.zcr)); exact Kd.zb9 (Kd.zds (p := ⟨gb216, 0, none⟩) (Kd.zb9 HO225.out (fun k_ hk => (⟨hk, hk.2.2.2.2⟩ : _ ∧ k_ ≠ gb216))) (fun _ hk => hk.2) (.slice Ao84 y223.length co84)) (fun _ hk => ⟨hk.1.1, ⟨hk.1.2.1, ⟨hk.1.2.2.1, ⟨hk.1.2.2.2.1, hk.1.2.2.2.2⟩⟩⟩⟩)⟩, ⟨by (with_reducible repeat (first | refine zae ?_ _ | refine zac ?_ | refine zad ?_ _)); refine zaj ?_ NB213_216.out _; (with_reducible repeat (first | refine zae ?_ _ | refine zac ?_ | refine zad ?_ _)); exact BK213.out⟩, ⟨by (with_reducible repeat (first | refine zae ?_ _ | refine zac ?_ | refine zad ?_ _)); refine zaj ?_ NB214_216.out _; (with_reducible repeat (first | refine zae ?_ _ | refine zac ?_ | refine zad ?_ _)); exact BK214.out⟩, ⟨by (with_reducible repeat (first | refine zae ?_ _ | refine zac ?_ | refine zad ?_ _)); refine zaj ?_ NB215_216.out _; (with_reducible repeat (first | refine zae ?_ _ | refine zac ?_ | refine zad ?_ _)); exact BK215.out⟩, ⟨by (with_reducible repeat (first | refine zae ?_ _ | refine zac ?_ | refine zad ?_ _)); refine zas (cs := #[.slice Ao83 x217000_1.length co83]) ?_ 0 _ rfl; (with_reducible repeat (first | refine zae ?_ _ | refine zac ?_ | refine zad ?_ _)); exact BK216.out⟩, ⟨Yb_PGssPushesx8_3⟩⟩
     case round =>
      clear H'
      obtain ⟨x9_2, x214000_2, x215000_2, x217000_2, u214000, u215000, u217000, rfl, HA, HK2, HO_214000, HO_215000, HO_217000, BK213, BK214, BK215, BK216, HB⟩ := hrel
      cases gk with
      | zero => exact absurd HA.out (by simp [zan.l1])
      | succ k2 =>
       have H := HA.out;clear HA
       simp only [zan.l1] at H
       by_cases c86 : x9_2 < (x215000_2.length : Int)
       ·rw [if_pos c86] at H
        have c86b0 := decide_eq_true c86
        clear c86
        by_cases c87 : 0 ≤ x9_2
        ·rw [if_pos c87] at H
         have c87b0 := decide_eq_true c87
         clear c87;replace H := Option.bind_eq_some_iff.mp H
         obtain ⟨t228, A880, H⟩ := H
         replace H : (zan.l2 k2 x9_2 t228 0 x215000_2 x217000_2 ((zaa x215000_2 x9_2).f0) ((zaa x215000_2 x9_2).f1) ((zaa x215000_2 x9_2).f2)) = some r := H
         have A88 := zab.mk A880;clear A880
         have H' := zab.mk H
         clear H
         have hnb89 := NB214_213.out
         have hnc89 := NB213_214.out
         have hnb90 := NB214_215.out
         have hnc90 := NB215_214.out
         have hnb91 := NB214_216.out
         have hnc91 := NB216_214.out
         obtain ⟨hcz92_0, hfz92_0⟩ := Yc1 BK214.out
         obtain ⟨Ao93, co93, eo93⟩ := Kd.zbz HO_215000.out
         subst eo93
         have p226 : 0 ≤ (x9_2 : Int) := Yod
         have q226 : x9_2 < (x215000_2.length : Int) := Yod
         obtain ⟨ad226, A226_2, c226_2, e226, hx226_0, hx226_1, hx226_2, hl226_2, hi226_2⟩ := zbn (Kd.V_reads' HO_215000.out).2.2 x9_2 p226 q226
         cases e226
         obtain ⟨ce226, hce226, hMe226, hcc226⟩ := Kd.zec HO_215000.out z38 x9_2 p226 (by first | exact q226 | exact of_decide_eq_true (by first | (with_reducible assumption) | assumption) | (have e_ := (Kd.V_reads' HO_215000.out).1; omega))
         obtain ⟨ua226_2, uc226_2, rfl, ul226_2, ge226_2⟩ := zb5 hMe226
         have hv226_2 := hcc226 2 _ rfl
         rw [zb0 _ _ 2 (by omega)] at hv226_2
         replace hv226_2 := Option.some.inj (hv226_2.symm.trans hx226_2)
         injection hv226_2 with hva_ hvn_ hvc_
         rw [hva_] at ge226_2
         rw [hvc_] at ul226_2
         have HL226_2 := zab.mk (show Kd.V (Kd.int .i64) 3 _ w.heap.size _ _ ((zaa x215000_2 x9_2).f2) from Kd.V_mk ul226_2 ge226_2)
         clear hva_ hvn_ hvc_ ge226_2 ul226_2;clear hcc226 hce226;have HR226_2 := zab.mk hi226_2;have HC226_2 := zab.mk hl226_2;clear hi226_2 hl226_2
         replace p226 := eq_true p226
         replace q226 := eq_true q226
         go_wp2_with (first | ((with_reducible refine zbb (N := 10) rfl ?_); refine Ybx 10 #[.int .i64 0, .int .i64 0, .slice none 0 0] 38 ?_; intro gb227 hg w94 hbox hb; replace HO_214000 := zab.mk (Kd.zat (Kd.zbi (by (with_reducible repeat (first | apply Kd.V_alloc | apply Kd.zak | apply Kd.zam)); exact HO_214000.out) gb227 (Nat.le_of_eq hg.symm)) hb); replace HO_215000 := zab.mk (Kd.zat (Kd.zbi (by (with_reducible repeat (first | apply Kd.V_alloc | apply Kd.zak | apply Kd.zam)); exact HO_215000.out) gb227 (Nat.le_of_eq hg.symm)) hb); replace HO_217000 := zab.mk (Kd.zfe (Kd.N_elderB (by (with_reducible repeat (first | apply Kd.N_alloc | apply Kd.N_drewN | apply Kd.zcr)); exact HO_217000.out) gb227 (Nat.le_of_eq hg.symm)) hb); replace HL226_2 := zab.mk (Kd.zat (Kd.zbi (by (with_reducible repeat (first | apply Kd.V_alloc | apply Kd.zak | apply Kd.zam)); exact HL226_2.out) gb227 (Nat.le_of_eq hg.symm)) hb); replace HR226_2 := zab.mk (Kd.za4 (by repeat (first | (with_reducible exact HR226_2.out) | (with_reducible refine Kd.C_alloc ?_ _) | (with_reducible refine Kd.C_drewN ?_ _) | (with_reducible refine Kd.C_drew ?_) | exact HR226_2.out)) hb); obtain ⟨BK227, GW227, GE227, HB⟩ := Yb4 hbox hg hb Yb_PGssPushesx8_3; have NB213_227 := Ynl BK213 hg; have NB227_213 := Yng BK213 hg; replace BK213 := Ykb BK213 hb; have NB214_227 := Ynl BK214 hg; have NB227_214 := Yng BK214 hg; replace BK214 := Ykb BK214 hb; have NB215_227 := Ynl BK215 hg; have NB227_215 := Yng BK215 hg; replace BK215 := Ykb BK215 hb; have NB216_227 := Ynl BK216 hg; have NB227_216 := Yng BK216 hg; replace BK216 := Ykb BK216 hb; clear hb hbox hg; have hnb95 := NB227_213.out; have hnc95 := NB213_227.out; have hnb96 := NB227_214.out; have hnc96 := NB214_227.out; have hnb97 := NB227_215.out; have hnc97 := NB215_227.out; have hnb98 := NB227_216.out; have hnc98 := NB216_227.out; obtain ⟨hcz99_0, hfz99_0, hcz99_1, hfz99_1, hcz99_2, hfz99_2⟩ := Yc3 BK227.out; have hnb100 := NB216_213.out; have hnc100 := NB213_216.out; have hnb101 := NB216_215.out; have hnc101 := NB215_216.out; obtain ⟨hcz102_0, hfz102_0⟩ := Yc1 BK216.out; obtain ⟨Ao103, co103, eo103⟩ := Kd.zeh HO_217000.out; subst eo103) | ((with_reducible refine za6 (f := 14) rfl ?_); refine Ygl (some 64) Try.func14 #[.agg #[.slice Ao103 x217000_2.length co103], .int .i64 ((zaa x215000_2 x9_2).f0), .int .i64 ((zaa x215000_2 x9_2).f1)] ?_; (with_reducible refine (zaw.calls k2 _ _ x217000_2 ((zaa x215000_2 x9_2).f0) ((zaa x215000_2 x9_2).f1) t228 _ ?side1 ?side2 A88.out).mono ?_); (case side1 => refine (Kd.N_reads' (e := 38) (base := w.heap.size) (ok := fun k_ => ((((P0_0_ k_ ∨ P1_0_ k_) ∨ w.heap.size ≤ k_) ∧ (k_ ≠ gb213 ∧ (k_ ≠ gb214 ∧ (k_ ≠ gb215 ∧ k_ ≠ gb216)))) ∧ k_ ≠ gb227)) (n := x217000_2.length) (c := co103) ?_).2.2; exact (by (with_reducible repeat (first | apply Kd.N_alloc | apply Kd.N_drewN | apply Kd.zcr)); exact (Kd.zb9 (Kd.zds (p := ⟨gb227, 2, none⟩) (Kd.zds (p := ⟨gb227, 1, none⟩) (Kd.zds (p := ⟨gb227, 0, none⟩) (Kd.zb9 HO_217000.out (fun k_ hk => (⟨hk, hk.2⟩ : _ ∧ k_ ≠ gb227))) (fun _ hk => hk.2) (.int .i64 ((zaa x215000_2 x9_2).f0))) (fun _ hk => hk.2) (.int .i64 ((zaa x215000_2 x9_2).f1))) (fun _ hk => hk.2) (.slice A226_2 ((zaa x215000_2 x9_2).f2).length c226_2)) (fun _ h_ => h_.1)))); (case side2 => exact (Kd.N_reads' HO_217000.out).2.1); rintro e w104 ⟨rfl, hb⟩; refine ⟨_, rfl, ?_⟩; replace HO_214000 := zab.mk (Kd.zat (by (with_reducible repeat (first | apply Kd.V_alloc | apply Kd.zak | apply Kd.zam)); exact (Kd.zar (Kd.za0 (p := ⟨gb227, 2, none⟩) (Kd.za0 (p := ⟨gb227, 1, none⟩) (Kd.za0 (p := ⟨gb227, 0, none⟩) (Kd.zar HO_214000.out (fun k_ hk => (⟨hk, hk.2⟩ : _ ∧ k_ ≠ gb227))) (fun _ hk => hk.2) (.int .i64 ((zaa x215000_2 x9_2).f0))) (fun _ hk => hk.2) (.int .i64 ((zaa x215000_2 x9_2).f1))) (fun _ hk => hk.2) (.slice A226_2 ((zaa x215000_2 x9_2).f2).length c226_2)) (fun _ h_ => h_.1))) hb); replace HO_215000 := zab.mk (Kd.zat (by (with_reducible repeat (first | apply Kd.V_alloc | apply Kd.zak | apply Kd.zam)); exact (Kd.zar (Kd.za0 (p := ⟨gb227, 2, none⟩) (Kd.za0 (p := ⟨gb227, 1, none⟩) (Kd.za0 (p := ⟨gb227, 0, none⟩) (Kd.zar HO_215000.out (fun k_ hk => (⟨hk, hk.2⟩ : _ ∧ k_ ≠ gb227))) (fun _ hk => hk.2) (.int .i64 ((zaa x215000_2 x9_2).f0))) (fun _ hk => hk.2) (.int .i64 ((zaa x215000_2 x9_2).f1))) (fun _ hk => hk.2) (.slice A226_2 ((zaa x215000_2 x9_2).f2).length c226_2)) (fun _ h_ => h_.1))) hb); replace HO_217000 := zab.mk (Kd.zfe (by (with_reducible repeat (first | apply Kd.N_alloc | apply Kd.N_drewN | apply Kd.zcr)); exact (Kd.zb9 (Kd.zds (p := ⟨gb227, 2, none⟩) (Kd.zds (p := ⟨gb227, 1, none⟩) (Kd.zds (p := ⟨gb227, 0, none⟩) (Kd.zb9 HO_217000.out (fun k_ hk => (⟨hk, hk.2⟩ : _ ∧ k_ ≠ gb227))) (fun _ hk => hk.2) (.int .i64 ((zaa x215000_2 x9_2).f0))) (fun _ hk => hk.2) (.int .i64 ((zaa x215000_2 x9_2).f1))) (fun _ hk => hk.2) (.slice A226_2 ((zaa x215000_2 x9_2).f2).length c226_2)) (fun _ h_ => h_.1))) hb); replace BK213 := zab.mk (zax (g := gb213) (o := .cells #[u214000] 24 (0, 0)) (by (with_reducible repeat (first | refine zae ?_ _ | refine zac ?_ | refine zad ?_ _)); refine zaj ?_ NB213_227.out _; (with_reducible repeat (first | refine zae ?_ _ | refine zac ?_ | refine zad ?_ _)); refine zaj ?_ NB213_227.out _; (with_reducible repeat (first | refine zae ?_ _ | refine zac ?_ | refine zad ?_ _)); refine zaj ?_ NB213_227.out _; (with_reducible repeat (first | refine zae ?_ _ | refine zac ?_ | refine zad ?_ _)); exact BK213.out) hb); replace BK214 := zab.mk (zax (g := gb214) (o := .cells #[.slice (some ad226) x215000_2.length co93] 24 (0, 0)) (by (with_reducible repeat (first | refine zae ?_ _ | refine zac ?_ | refine zad ?_ _)); refine zaj ?_ NB214_227.out _; (with_reducible repeat (first | refine zae ?_ _ | refine zac ?_ | refine zad ?_ _)); refine zaj ?_ NB214_227.out _; (with_reducible repeat (first | refine zae ?_ _ | refine zac ?_ | refine zad ?_ _)); refine zaj ?_ NB214_227.out _; (with_reducible repeat (first | refine zae ?_ _ | refine zac ?_ | refine zad ?_ _)); exact BK214.out) hb); replace BK215 := zab.mk (zax (g := gb215) (o := .cells #[.slice none 0 0] 24 (0, 0)) (by (with_reducible repeat (first | refine zae ?_ _ | refine zac ?_ | refine zad ?_ _)); refine zaj ?_ NB215_227.out _; (with_reducible repeat (first | refine zae ?_ _ | refine zac ?_ | refine zad ?_ _)); refine zaj ?_ NB215_227.out _; (with_reducible repeat (first | refine zae ?_ _ | refine zac ?_ | refine zad ?_ _)); refine zaj ?_ NB215_227.out _; (with_reducible repeat (first | refine zae ?_ _ | refine zac ?_ | refine zad ?_ _)); exact BK215.out) hb); replace BK216 := zab.mk (zax (g := gb216) (o := .cells #[.slice Ao103 x217000_2.length co103] 24 (0, 0)) (by (with_reducible repeat (first | refine zae ?_ _ | refine zac ?_ | refine zad ?_ _)); refine zaj ?_ NB216_227.out _; (with_reducible repeat (first | refine zae ?_ _ | refine zac ?_ | refine zad ?_ _)); refine zaj ?_ NB216_227.out _; (with_reducible repeat (first | refine zae ?_ _ | refine zac ?_ | refine zad ?_ _)); refine zaj ?_ NB216_227.out _; (with_reducible repeat (first | refine zae ?_ _ | refine zac ?_ | refine zad ?_ _)); exact BK216.out) hb); replace HR226_2 := zab.mk (Kd.za4 ((Kd.V_reads' (by (with_reducible repeat (first | apply Kd.V_alloc | apply Kd.zak | apply Kd.zam)); exact (Kd.zar (Kd.za0 (p := ⟨gb227, 2, none⟩) (Kd.za0 (p := ⟨gb227, 1, none⟩) (Kd.za0 (p := ⟨gb227, 0, none⟩) (Kd.zar HL226_2.out (fun k_ hk => (⟨hk, hk.2⟩ : _ ∧ k_ ≠ gb227))) (fun _ hk => hk.2) (.int .i64 ((zaa x215000_2 x9_2).f0))) (fun _ hk => hk.2) (.int .i64 ((zaa x215000_2 x9_2).f1))) (fun _ hk => hk.2) (.slice A226_2 ((zaa x215000_2 x9_2).f2).length c226_2)) (fun _ h_ => h_.1)))).2.2) hb); replace HL226_2 := zab.mk (Kd.zat (by (with_reducible repeat (first | apply Kd.V_alloc | apply Kd.zak | apply Kd.zam)); exact (Kd.zar (Kd.za0 (p := ⟨gb227, 2, none⟩) (Kd.za0 (p := ⟨gb227, 1, none⟩) (Kd.za0 (p := ⟨gb227, 0, none⟩) (Kd.zar HL226_2.out (fun k_ hk => (⟨hk, hk.2⟩ : _ ∧ k_ ≠ gb227))) (fun _ hk => hk.2) (.int .i64 ((zaa x215000_2 x9_2).f0))) (fun _ hk => hk.2) (.int .i64 ((zaa x215000_2 x9_2).f1))) (fun _ hk => hk.2) (.slice A226_2 ((zaa x215000_2 x9_2).f2).length c226_2)) (fun _ h_ => h_.1))) hb); replace BK227 := zab.mk (zax (g := gb227) (o := .cells #[.int .i64 ((zaa x215000_2 x9_2).f0), .int .i64 ((zaa x215000_2 x9_2).f1), .slice A226_2 ((zaa x215000_2 x9_2).f2).length c226_2] 38 (0, 0)) (by (with_reducible repeat (first | refine zae ?_ _ | refine zac ?_ | refine zad ?_ _)); refine zas (cs := #[.int .i64 ((zaa x215000_2 x9_2).f0), .int .i64 ((zaa x215000_2 x9_2).f1), .slice none 0 0]) ?_ 2 _ rfl; (with_reducible repeat (first | refine zae ?_ _ | refine zac ?_ | refine zad ?_ _)); refine zas (cs := #[.int .i64 ((zaa x215000_2 x9_2).f0), .int .i64 0, .slice none 0 0]) ?_ 1 _ rfl; (with_reducible repeat (first | refine zae ?_ _ | refine zac ?_ | refine zad ?_ _)); refine zas (cs := #[.int .i64 0, .int .i64 0, .slice none 0 0]) ?_ 0 _ rfl; (with_reducible repeat (first | refine zae ?_ _ | refine zac ?_ | refine zad ?_ _)); exact BK227.out) hb); replace HB := zab.mk (za1 Yb_PGssPushesx8_5 hb); (try clear hb); (try clear hb2); (try clear hk); (try clear hi)))
         go_loopg [12] k2 (fun kq v12 w' => ∃ (x12_3 : Int) (x214000_3 : List (S38)) (x215000_3 : List (S38)) (x217000_3 : List (S38)) (x228002_3 : List Int) (u214000 : Value) (u215000 : Value) (u217000 : Value) (u228002 : Value), v12 = .int .i64 x12_3 ∧ zab (zan.l2 kq x9_2 t228 x12_3 x215000_3 x217000_3 ((zaa x215000_2 x9_2).f0) ((zaa x215000_2 x9_2).f1) x228002_3 = some r) ∧ zab (kq ≤ k2) ∧ zab (Kd.V k38 38 w' w.heap.size (fun k_ => ((P0_0_ k_ ∨ P1_0_ k_) ∨ w.heap.size ≤ k_) ∧ some k_ ≠ (u217000 : Value).ownBlock ∧ k_ ≠ gb213 ∧ k_ ≠ gb214 ∧ k_ ≠ gb215 ∧ k_ ≠ gb216 ∧ k_ ≠ gb227) u214000 x214000_3) ∧ zab (Kd.V k38 38 w' w.heap.size (fun k_ => ((P0_0_ k_ ∨ P1_0_ k_) ∨ w.heap.size ≤ k_) ∧ some k_ ≠ (u217000 : Value).ownBlock ∧ k_ ≠ gb213 ∧ k_ ≠ gb214 ∧ k_ ≠ gb215 ∧ k_ ≠ gb216 ∧ k_ ≠ gb227) u215000 x215000_3) ∧ zab (Kd.N k38 38 w' w.heap.size (fun k_ => ((P0_0_ k_ ∨ P1_0_ k_) ∨ w.heap.size ≤ k_) ∧ k_ ≠ gb213 ∧ k_ ≠ gb214 ∧ k_ ≠ gb215 ∧ k_ ≠ gb216 ∧ k_ ≠ gb227) u217000 x217000_3) ∧ zab (Kd.V (Kd.int .i64) 3 w' w.heap.size (fun k_ => ((P0_0_ k_ ∨ P1_0_ k_) ∨ w.heap.size ≤ k_) ∧ some k_ ≠ (u217000 : Value).ownBlock ∧ k_ ≠ gb213 ∧ k_ ≠ gb214 ∧ k_ ≠ gb215 ∧ k_ ≠ gb216 ∧ k_ ≠ gb227) u228002 x228002_3) ∧ zab (w'.heap[gb213]? = some (.cells #[u214000] 24 (0, 0))) ∧ zab (w'.heap[gb214]? = some (.cells #[u215000] 24 (0, 0))) ∧ zab (w'.heap[gb215]? = some (.cells #[(.slice none 0 0)] 24 (0, 0))) ∧ zab (w'.heap[gb216]? = some (.cells #[u217000] 24 (0, 0))) ∧ zab (w'.heap[gb227]? = some (.cells #[.int .i64 ((zaa x215000_2 x9_2).f0), .int .i64 ((zaa x215000_2 x9_2).f1), u228002] 38 (0, 0))) ∧ zab (Below w.heap.size w w'))
         case atStart => exact ⟨(0), (x214000_2), (x215000_2), (x217000_2), ((zaa x215000_2 x9_2).f2), (u214000), (.slice (some ad226) x215000_2.length co93), (.slice Ao103 x217000_2.length co103), (.slice A226_2 ((zaa x215000_2 x9_2).f2).length c226_2), Yfs, H', ⟨Nat.le_refl _⟩, ⟨by (with_reducible repeat (first | apply Kd.V_alloc | apply Kd.zak | apply Kd.zam)); exact Kd.zar HO_214000.out (fun _ hk => ⟨hk.1.1, ⟨hk.1.2.1, ⟨hk.1.2.2.1, ⟨hk.1.2.2.2.1, ⟨hk.1.2.2.2.2.1, ⟨hk.1.2.2.2.2.2, hk.2⟩⟩⟩⟩⟩⟩)⟩, ⟨by (with_reducible repeat (first | apply Kd.V_alloc | apply Kd.zak | apply Kd.zam)); exact Kd.zar HO_215000.out (fun _ hk => ⟨hk.1.1, ⟨hk.1.2.1, ⟨hk.1.2.2.1, ⟨hk.1.2.2.2.1, ⟨hk.1.2.2.2.2.1, ⟨hk.1.2.2.2.2.2, hk.2⟩⟩⟩⟩⟩⟩)⟩, ⟨by (with_reducible repeat (first | apply Kd.N_alloc | apply Kd.N_drewN | apply Kd.zcr)); exact Kd.zb9 HO_217000.out (fun _ hk => ⟨hk.1.1, ⟨hk.1.2.1, ⟨hk.1.2.2.1, ⟨hk.1.2.2.2.1, ⟨hk.1.2.2.2.2, hk.2⟩⟩⟩⟩⟩)⟩, ⟨by (with_reducible repeat (first | apply Kd.V_alloc | apply Kd.zak | apply Kd.zam)); exact Kd.zar HL226_2.out (fun _ hk => ⟨hk.1.1, ⟨hk.1.2.1, ⟨hk.1.2.2.1, ⟨hk.1.2.2.2.1, ⟨hk.1.2.2.2.2.1, ⟨hk.1.2.2.2.2.2, hk.2⟩⟩⟩⟩⟩⟩)⟩, ⟨Yg BK213⟩, ⟨Yg BK214⟩, ⟨Yg BK215⟩, ⟨Yg BK216⟩, ⟨Yg BK227⟩, ⟨Yb_PGssPushesx8_5⟩⟩
         case round =>
          clear H'
          obtain ⟨x12_3, x214000_3, x215000_3, x217000_3, x228002_3, u214000, u215000, u217000, u228002, rfl, HA, HK3, HO_214000, HO_215000, HO_217000, HO_228002, BK213, BK214, BK215, BK216, BK227, HB⟩ := hrel
          cases gk with
          | zero => exact absurd HA.out (by simp [zan.l2])
          | succ k3 =>
           have H := HA.out;clear HA
           simp only [zan.l2] at H
           by_cases c105 : x12_3 < (x228002_3.length : Int)
           ·rw [if_pos c105] at H
            have c105b0 := decide_eq_true c105
            clear c105
            by_cases c106 : 0 ≤ x12_3
            ·rw [if_pos c106] at H
             have c106b0 := decide_eq_true c106
             clear c106
             by_cases c107 : 0 ≤ (rd x228002_3 x12_3)
             ·rw [if_pos c107] at H
              have c107b0 := decide_eq_true c107
              clear c107
              by_cases c108 : (rd x228002_3 x12_3) < (x215000_3.length : Int)
              ·rw [if_pos c108] at H
               have c108b0 := decide_eq_true c108
               clear c108
               by_cases c109 : 0 ≤ t228
               ·rw [if_pos c109] at H
                have c109b0 := decide_eq_true c109
                clear c109
                by_cases c110 : t228 < (x217000_3.length : Int)
                ·rw [if_pos c110] at H
                 have c110b0 := decide_eq_true c110
                 clear c110;replace H := Option.bind_eq_some_iff.mp H
                 obtain ⟨t233, A1110, H⟩ := H
                 replace H : ((zbg.f k3 ((zaa x217000_3 t228).f2) t233).bind fun t234 => (zan.l2 k3 x9_2 t228 (wrap64 (x12_3 + 1)) x215000_3 (x217000_3.set (t228 : Int).toNat (⟨(zaa x217000_3 t228).f0, (zaa x217000_3 t228).f1, t234⟩ : S38)) ((zaa x215000_2 x9_2).f0) ((zaa x215000_2 x9_2).f1) x228002_3)) = some r := H
                 have A111 := zab.mk A1110;clear A1110;replace H := Option.bind_eq_some_iff.mp H
                 obtain ⟨t234, A1120, H⟩ := H
                 replace H : (zan.l2 k3 x9_2 t228 (wrap64 (x12_3 + 1)) x215000_3 (x217000_3.set (t228 : Int).toNat (⟨(zaa x217000_3 t228).f0, (zaa x217000_3 t228).f1, t234⟩ : S38)) ((zaa x215000_2 x9_2).f0) ((zaa x215000_2 x9_2).f1) x228002_3) = some r := H
                 have A112 := zab.mk A1120;clear A1120
                 obtain ⟨y237, hy237⟩ : ∃ y_ : List (S38), y_ = (x217000_3.set (t228 : Int).toNat (⟨(zaa x217000_3 t228).f0, (zaa x217000_3 t228).f1, t234⟩ : S38)) := ⟨_, rfl⟩
                 replace H : (zan.l2 k3 x9_2 t228 (wrap64 (x12_3 + 1)) x215000_3 y237 ((zaa x215000_2 x9_2).f0) ((zaa x215000_2 x9_2).f1) x228002_3) = some r := by first | (rw [hy237]; with_reducible exact H) | (have H2_ := (Option.bind_some _ _).symm.trans H; rw [hy237]; with_reducible exact H2_) | (have H2_ := (Option.bind_some _ _).symm.trans H; with_reducible exact H2_) | with_reducible exact H | (rw [hy237]; exact H) | exact H
                 have Ny237 := zab.mk hy237;clear hy237
                 have H' := zab.mk H
                 clear H
                 have hnb114 := NB227_213.out
                 have hnc114 := NB213_227.out
                 have hnb115 := NB227_214.out
                 have hnc115 := NB214_227.out
                 have hnb116 := NB227_215.out
                 have hnc116 := NB215_227.out
                 have hnb117 := NB227_216.out
                 have hnc117 := NB216_227.out
                 obtain ⟨hcz118_0, hfz118_0, hcz118_1, hfz118_1, hcz118_2, hfz118_2⟩ := Yc3 BK227.out
                 obtain ⟨Ao119, co119, eo119⟩ := Kd.zbz HO_228002.out
                 subst eo119
                 try go_wp2
                 replace HO_214000 := zab.mk (Kd.zam HO_214000.out)
                 replace HO_215000 := zab.mk (Kd.zam HO_215000.out)
                 replace HO_217000 := zab.mk (Kd.zcr HO_217000.out)
                 replace HO_228002 := zab.mk (Kd.zam HO_228002.out)
                 replace BK213 := zab.mk (zac BK213.out)
                 replace BK214 := zab.mk (zac BK214.out)
                 replace BK215 := zab.mk (zac BK215.out)
                 replace BK216 := zab.mk (zac BK216.out)
                 replace BK227 := zab.mk (zac BK227.out)
                 replace HB := zab.mk (zav HB.out)
                 have p229 : 0 ≤ (x12_3 : Int) := Yod
                 have q229 : x12_3 < (x228002_3.length : Int) := Yod
                 obtain ⟨ad229, e229, hx229_0⟩ := Kd.zb1 (Kd.V_reads' HO_228002.out).2.2 x12_3 p229 q229
                 cases e229
                 replace p229 := eq_true p229
                 replace q229 := eq_true q229
                 obtain ⟨Ao121, co121, eo121⟩ := Kd.zbz HO_215000.out
                 (first | subst eo121 | (injection eo121 with f1_ f2_ f3_; have f4_ := f1_.symm; have f5_ := f3_.symm; clear f1_ f2_ f3_; subst f4_; subst f5_))
                 have p230 : 0 ≤ ((rd x228002_3 x12_3) : Int) := Yod
                 have q230 : (rd x228002_3 x12_3) < (x215000_3.length : Int) := Yod
                 obtain ⟨ad230, A230_2, c230_2, e230, hx230_0, hx230_1, hx230_2, hl230_2, hi230_2⟩ := zbn (Kd.V_reads' HO_215000.out).2.2 (rd x228002_3 x12_3) p230 q230
                 cases e230
                 obtain ⟨ce230, hce230, hMe230, hcc230⟩ := Kd.zec HO_215000.out z38 (rd x228002_3 x12_3) p230 (by first | exact q230 | exact of_decide_eq_true (by first | (with_reducible assumption) | assumption) | (have e_ := (Kd.V_reads' HO_215000.out).1; omega))
                 obtain ⟨ua230_2, uc230_2, rfl, ul230_2, ge230_2⟩ := zb5 hMe230
                 have hv230_2 := hcc230 2 _ rfl
                 rw [zb0 _ _ 2 (by omega)] at hv230_2
                 replace hv230_2 := Option.some.inj (hv230_2.symm.trans hx230_2)
                 injection hv230_2 with hva_ hvn_ hvc_
                 rw [hva_] at ge230_2
                 rw [hvc_] at ul230_2
                 have HL230_2 := zab.mk (show Kd.V (Kd.int .i64) 3 _ w.heap.size _ _ ((zaa x215000_3 (rd x228002_3 x12_3)).f2) from Kd.V_mk ul230_2 ge230_2)
                 clear hva_ hvn_ hvc_ ge230_2 ul230_2;clear hcc230 hce230;have HR230_2 := zab.mk hi230_2;have HC230_2 := zab.mk hl230_2;clear hi230_2 hl230_2
                 replace p230 := eq_true p230
                 replace q230 := eq_true q230
                 refine zbt (n := 11) (S := fun w' => w'.cell? ⟨gb214, 0, none⟩ = some (.slice (some ad230) x215000_3.length co121) ∧ w'.cell? ⟨gb227, 0, none⟩ = some (.int .i64 ((zaa x215000_2 x9_2).f0)) ∧ w'.cell? ⟨gb227, 1, none⟩ = some (.int .i64 ((zaa x215000_2 x9_2).f1)) ∧ w'.cell? ⟨gb227, 2, none⟩ = some (.slice (some ad229) x228002_3.length co119) ∧ w'.cell? (ad229.add (x12_3).toNat) = some (.int .i64 (rd x228002_3 x12_3)) ∧ w'.cell? (ad230.add (((rd x228002_3 x12_3)).toNat * 3)) = some (.int .i64 ((zaa x215000_3 (rd x228002_3 x12_3)).f0)) ∧ w'.cell? ⟨(ad230.add (((rd x228002_3 x12_3)).toNat * 3)).block, (ad230.add (((rd x228002_3 x12_3)).toNat * 3)).off + 1, none⟩ = some (.int .i64 ((zaa x215000_3 (rd x228002_3 x12_3)).f1)) ∧ w'.cell? ⟨(ad230.add (((rd x228002_3 x12_3)).toNat * 3)).block, (ad230.add (((rd x228002_3 x12_3)).toNat * 3)).off + 2, none⟩ = some (.slice A230_2 ((zaa x215000_3 (rd x228002_3 x12_3)).f2).length c230_2)) (ds := []) (Ymk 11 0) (by kernel_rfl) rfl rfl ⟨(zaf BK214.out 0).trans rfl, (zaf BK227.out 0).trans rfl, (zaf BK227.out 1).trans rfl, (zaf BK227.out 2).trans rfl, hx229_0, hx230_0, hx230_1, hx230_2⟩ (fun hHeld => ?_); refine zbo zan.tab20 zan.bits20 (fun HT_ HW_ => ?_)
                 generalize wr.drew = w120 at HO_214000 HO_215000 HO_217000 HO_228002 BK213 BK214 BK215 BK216 BK227 HB HL230_2 HR230_2 hx229_0 hx230_0 hx230_1 hx230_2 hHeld ⊢
                 refine Ypt 0 72 11 1 HT_ ?_
                 refine Ypt 2 74 11 5 HT_ ?_
                 refine Ypt 4 76 11 21 HT_ ?_
                 refine Ytt 1 73 11 23 HT_ HW_ hHeld ?_
                 refine Ytt 3 75 11 31 HT_ HW_ hHeld ?_
                 refine Ypt 5 77 11 63 HT_ ?_
                 refine Ytt 6 78 11 127 HT_ HW_ hHeld ?_
                 refine Ypt 7 79 11 255 HT_ ?_
                 refine Ytt 8 80 11 511 HT_ HW_ hHeld ?_
                 refine Yot 9 13 11 1023 HT_ (fun K hK => ?_)
                 refine zfk ?hg (N := 13) ?hd (cs := #[.int .i64 0, .int .i64 0, .slice none 0 0]) (t := 38) ?hr ?_; (case hd => rfl); (case hg => rfl); (case hr => first | (go_simp; done) | (go_simp; rfl))
                 intro gb231 hg w122 hbox hb
                 have HS4_ := (hb.cell (World.block_lt_of_cell? _ _ (hHeld.2.2.2.2.1))).trans (hHeld.2.2.2.2.1)
                 have HS5_ := (hb.cell (World.block_lt_of_cell? _ _ (hHeld.2.2.2.2.2.1))).trans (hHeld.2.2.2.2.2.1)
                 have HS6_ := (hb.cell (World.block_lt_of_cell? _ _ (hHeld.2.2.2.2.2.2.1))).trans (hHeld.2.2.2.2.2.2.1)
                 have HS7_ := (hb.cell (World.block_lt_of_cell? _ _ (hHeld.2.2.2.2.2.2.2))).trans (hHeld.2.2.2.2.2.2.2)
                 replace HO_214000 := zab.mk (Kd.zat (Kd.zbi (by (with_reducible repeat (first | apply Kd.V_alloc | apply Kd.zak | apply Kd.zam)); exact HO_214000.out) gb231 (Nat.le_of_eq hg.symm)) hb)
                 replace HO_215000 := zab.mk (Kd.zat (Kd.zbi (by (with_reducible repeat (first | apply Kd.V_alloc | apply Kd.zak | apply Kd.zam)); exact HO_215000.out) gb231 (Nat.le_of_eq hg.symm)) hb)
                 replace HO_217000 := zab.mk (Kd.zfe (Kd.N_elderB (by (with_reducible repeat (first | apply Kd.N_alloc | apply Kd.N_drewN | apply Kd.zcr)); exact HO_217000.out) gb231 (Nat.le_of_eq hg.symm)) hb)
                 replace HO_228002 := zab.mk (Kd.zat (Kd.zbi (by (with_reducible repeat (first | apply Kd.V_alloc | apply Kd.zak | apply Kd.zam)); exact HO_228002.out) gb231 (Nat.le_of_eq hg.symm)) hb)
                 replace HL230_2 := zab.mk (Kd.zat (Kd.zbi (by (with_reducible repeat (first | apply Kd.V_alloc | apply Kd.zak | apply Kd.zam)); exact HL230_2.out) gb231 (Nat.le_of_eq hg.symm)) hb)
                 replace HR230_2 := zab.mk (Kd.za4 (by repeat (first | (with_reducible exact HR230_2.out) | (with_reducible refine Kd.C_alloc ?_ _) | (with_reducible refine Kd.C_drewN ?_ _) | (with_reducible refine Kd.C_drew ?_) | exact HR230_2.out)) hb)
                 have BK231 := zab.mk (hbox)
                 have GW231 := Ygw hg Yb_PGssPushesx8_5
                 have GE231 := Ygw hg Yb_PGssPushesx8_5
                 replace HB := zab.mk (za1 Yb_PGssPushesx8_5 hb)
                 have NB213_231 := Ynl BK213 hg
                 have NB231_213 := Yng BK213 hg
                 replace BK213 := Ykb BK213 hb
                 have NB214_231 := Ynl BK214 hg
                 have NB231_214 := Yng BK214 hg
                 replace BK214 := Ykb BK214 hb
                 have NB215_231 := Ynl BK215 hg
                 have NB231_215 := Yng BK215 hg
                 replace BK215 := Ykb BK215 hb
                 have NB216_231 := Ynl BK216 hg
                 have NB231_216 := Yng BK216 hg
                 replace BK216 := Ykb BK216 hb
                 have NB227_231 := Ynl BK227 hg
                 have NB231_227 := Yng BK227 hg
                 replace BK227 := Ykb BK227 hb
                 clear hb hbox hg
                 refine hK.out _ _ ⟨(zaf BK214.out 0).trans rfl, (zaf BK227.out 0).trans rfl, (zaf BK227.out 1).trans rfl, (zaf BK227.out 2).trans rfl, HS4_, HS5_, HS6_, HS7_⟩ (fun hHeld => ?_)
                 clear hK K
                 refine Ynw 13 ?_
                 refine one_ (i := 10) (N := none) (Ymk 11 2047) rfl rfl (zf9 HT_.out (by kernel_rfl)) (by decide) (fun K hK => ?_)
                 have hs123 : w122.cell? ⟨gb231, 0, none⟩ = some (.int .i64 0) := (zaf BK231.out 0).trans rfl
                 have hfs123 := zbr BK231.out 0
                 have hns123_0 := NB213_231.out
                 have hns123_1 := NB214_231.out
                 have hns123_2 := NB215_231.out
                 have hns123_3 := NB216_231.out
                 have hns123_4 := NB227_231.out
                 have hms123_0 := NB231_213.out
                 have hms123_1 := NB231_214.out
                 have hms123_2 := NB231_215.out
                 have hms123_3 := NB231_216.out
                 have hms123_4 := NB231_227.out
                 have hs124 : w122.cell? ⟨gb231, 1, none⟩ = some (.int .i64 0) := (zaf BK231.out 1).trans rfl
                 have hfs124 := zbr BK231.out 1
                 have hns124_0 := NB213_231.out
                 have hns124_1 := NB214_231.out
                 have hns124_2 := NB215_231.out
                 have hns124_3 := NB216_231.out
                 have hns124_4 := NB227_231.out
                 have hms124_0 := NB231_213.out
                 have hms124_1 := NB231_214.out
                 have hms124_2 := NB231_215.out
                 have hms124_3 := NB231_216.out
                 have hms124_4 := NB231_227.out
                 have hs125 : w122.cell? ⟨gb231, 2, none⟩ = some (.slice none 0 0) := (zaf BK231.out 2).trans rfl
                 have hfs125 := zbr BK231.out 2
                 have hns125_0 := NB213_231.out
                 have hns125_1 := NB214_231.out
                 have hns125_2 := NB215_231.out
                 have hns125_3 := NB216_231.out
                 have hns125_4 := NB227_231.out
                 have hms125_0 := NB231_213.out
                 have hms125_1 := NB231_214.out
                 have hms125_2 := NB231_215.out
                 have hms125_3 := NB231_216.out
                 have hms125_4 := NB231_227.out
                 refine zfb (w1 := ?_) (by rfl) rfl ?_ ?_
                 rotate_left
                 ·go_simp
                  rfl
                 refine hK.out _ _ ⟨((cell_far (p := ⟨gb231, _, none⟩) NB214_231.out _).trans (((cell_far (p := ⟨gb231, _, none⟩) NB214_231.out _).trans (((cell_far (p := ⟨gb231, _, none⟩) NB214_231.out _).trans (hHeld.1)))))), ((cell_far (p := ⟨gb231, _, none⟩) NB227_231.out _).trans (((cell_far (p := ⟨gb231, _, none⟩) NB227_231.out _).trans (((cell_far (p := ⟨gb231, _, none⟩) NB227_231.out _).trans (hHeld.2.1)))))), ((cell_far (p := ⟨gb231, _, none⟩) NB227_231.out _).trans (((cell_far (p := ⟨gb231, _, none⟩) NB227_231.out _).trans (((cell_far (p := ⟨gb231, _, none⟩) NB227_231.out _).trans (hHeld.2.2.1)))))), ((cell_far (p := ⟨gb231, _, none⟩) NB227_231.out _).trans (((cell_far (p := ⟨gb231, _, none⟩) NB227_231.out _).trans (((cell_far (p := ⟨gb231, _, none⟩) NB227_231.out _).trans (hHeld.2.2.2.1)))))), ((cell_far (p := ⟨gb231, _, none⟩) (by first | exact GGivK.zbs HO_228002.out (by first | (have h1_ := of_eq_true p229; have h2_ := of_eq_true q229; omega) | omega) (fun _ hk => hk.2) (by decide) | (rw [add_block]; exact GGivK.zbs HO_228002.out (by first | (have h1_ := of_eq_true p229; have h2_ := of_eq_true q229; omega) | omega) (fun _ hk => hk.2) (by decide)) | (show (Addr.add _ _).block ≠ _; rw [add_block]; exact GGivK.zbs HO_228002.out (by first | (have h1_ := of_eq_true p229; have h2_ := of_eq_true q229; omega) | omega) (fun _ hk => hk.2) (by decide)) | (dsimp only; exact GGivK.zbs HO_228002.out (by first | (have h1_ := of_eq_true p229; have h2_ := of_eq_true q229; omega) | omega) (fun _ hk => hk.2) (by decide))) _).trans (((cell_far (p := ⟨gb231, _, none⟩) (by first | exact GGivK.zbs HO_228002.out (by first | (have h1_ := of_eq_true p229; have h2_ := of_eq_true q229; omega) | omega) (fun _ hk => hk.2) (by decide) | (rw [add_block]; exact GGivK.zbs HO_228002.out (by first | (have h1_ := of_eq_true p229; have h2_ := of_eq_true q229; omega) | omega) (fun _ hk => hk.2) (by decide)) | (show (Addr.add _ _).block ≠ _; rw [add_block]; exact GGivK.zbs HO_228002.out (by first | (have h1_ := of_eq_true p229; have h2_ := of_eq_true q229; omega) | omega) (fun _ hk => hk.2) (by decide)) | (dsimp only; exact GGivK.zbs HO_228002.out (by first | (have h1_ := of_eq_true p229; have h2_ := of_eq_true q229; omega) | omega) (fun _ hk => hk.2) (by decide))) _).trans (((cell_far (p := ⟨gb231, _, none⟩) (by first | exact GGivK.zbs HO_228002.out (by first | (have h1_ := of_eq_true p229; have h2_ := of_eq_true q229; omega) | omega) (fun _ hk => hk.2) (by decide) | (rw [add_block]; exact GGivK.zbs HO_228002.out (by first | (have h1_ := of_eq_true p229; have h2_ := of_eq_true q229; omega) | omega) (fun _ hk => hk.2) (by decide)) | (show (Addr.add _ _).block ≠ _; rw [add_block]; exact GGivK.zbs HO_228002.out (by first | (have h1_ := of_eq_true p229; have h2_ := of_eq_true q229; omega) | omega) (fun _ hk => hk.2) (by decide)) | (dsimp only; exact GGivK.zbs HO_228002.out (by first | (have h1_ := of_eq_true p229; have h2_ := of_eq_true q229; omega) | omega) (fun _ hk => hk.2) (by decide))) _).trans (hHeld.2.2.2.2.1)))))), ((cell_far (p := ⟨gb231, _, none⟩) (by first | exact GGivK.zbs HO_215000.out (by first | (have h1_ := of_eq_true p230; have h2_ := of_eq_true q230; omega) | omega) (fun _ hk => hk.2) (by decide) | (rw [add_block]; exact GGivK.zbs HO_215000.out (by first | (have h1_ := of_eq_true p230; have h2_ := of_eq_true q230; omega) | omega) (fun _ hk => hk.2) (by decide)) | (show (Addr.add _ _).block ≠ _; rw [add_block]; exact GGivK.zbs HO_215000.out (by first | (have h1_ := of_eq_true p230; have h2_ := of_eq_true q230; omega) | omega) (fun _ hk => hk.2) (by decide)) | (dsimp only; exact GGivK.zbs HO_215000.out (by first | (have h1_ := of_eq_true p230; have h2_ := of_eq_true q230; omega) | omega) (fun _ hk => hk.2) (by decide))) _).trans (((cell_far (p := ⟨gb231, _, none⟩) (by first | exact GGivK.zbs HO_215000.out (by first | (have h1_ := of_eq_true p230; have h2_ := of_eq_true q230; omega) | omega) (fun _ hk => hk.2) (by decide) | (rw [add_block]; exact GGivK.zbs HO_215000.out (by first | (have h1_ := of_eq_true p230; have h2_ := of_eq_true q230; omega) | omega) (fun _ hk => hk.2) (by decide)) | (show (Addr.add _ _).block ≠ _; rw [add_block]; exact GGivK.zbs HO_215000.out (by first | (have h1_ := of_eq_true p230; have h2_ := of_eq_true q230; omega) | omega) (fun _ hk => hk.2) (by decide)) | (dsimp only; exact GGivK.zbs HO_215000.out (by first | (have h1_ := of_eq_true p230; have h2_ := of_eq_true q230; omega) | omega) (fun _ hk => hk.2) (by decide))) _).trans (((cell_far (p := ⟨gb231, _, none⟩) (by first | exact GGivK.zbs HO_215000.out (by first | (have h1_ := of_eq_true p230; have h2_ := of_eq_true q230; omega) | omega) (fun _ hk => hk.2) (by decide) | (rw [add_block]; exact GGivK.zbs HO_215000.out (by first | (have h1_ := of_eq_true p230; have h2_ := of_eq_true q230; omega) | omega) (fun _ hk => hk.2) (by decide)) | (show (Addr.add _ _).block ≠ _; rw [add_block]; exact GGivK.zbs HO_215000.out (by first | (have h1_ := of_eq_true p230; have h2_ := of_eq_true q230; omega) | omega) (fun _ hk => hk.2) (by decide)) | (dsimp only; exact GGivK.zbs HO_215000.out (by first | (have h1_ := of_eq_true p230; have h2_ := of_eq_true q230; omega) | omega) (fun _ hk => hk.2) (by decide))) _).trans (hHeld.2.2.2.2.2.1)))))), ((cell_far (p := ⟨gb231, _, none⟩) (by first | exact GGivK.zbs HO_215000.out (by first | (have h1_ := of_eq_true p230; have h2_ := of_eq_true q230; omega) | omega) (fun _ hk => hk.2) (by decide) | (rw [add_block]; exact GGivK.zbs HO_215000.out (by first | (have h1_ := of_eq_true p230; have h2_ := of_eq_true q230; omega) | omega) (fun _ hk => hk.2) (by decide)) | (show (Addr.add _ _).block ≠ _; rw [add_block]; exact GGivK.zbs HO_215000.out (by first | (have h1_ := of_eq_true p230; have h2_ := of_eq_true q230; omega) | omega) (fun _ hk => hk.2) (by decide)) | (dsimp only; exact GGivK.zbs HO_215000.out (by first | (have h1_ := of_eq_true p230; have h2_ := of_eq_true q230; omega) | omega) (fun _ hk => hk.2) (by decide))) _).trans (((cell_far (p := ⟨gb231, _, none⟩) (by first | exact GGivK.zbs HO_215000.out (by first | (have h1_ := of_eq_true p230; have h2_ := of_eq_true q230; omega) | omega) (fun _ hk => hk.2) (by decide) | (rw [add_block]; exact GGivK.zbs HO_215000.out (by first | (have h1_ := of_eq_true p230; have h2_ := of_eq_true q230; omega) | omega) (fun _ hk => hk.2) (by decide)) | (show (Addr.add _ _).block ≠ _; rw [add_block]; exact GGivK.zbs HO_215000.out (by first | (have h1_ := of_eq_true p230; have h2_ := of_eq_true q230; omega) | omega) (fun _ hk => hk.2) (by decide)) | (dsimp only; exact GGivK.zbs HO_215000.out (by first | (have h1_ := of_eq_true p230; have h2_ := of_eq_true q230; omega) | omega) (fun _ hk => hk.2) (by decide))) _).trans (((cell_far (p := ⟨gb231, _, none⟩) (by first | exact GGivK.zbs HO_215000.out (by first | (have h1_ := of_eq_true p230; have h2_ := of_eq_true q230; omega) | omega) (fun _ hk => hk.2) (by decide) | (rw [add_block]; exact GGivK.zbs HO_215000.out (by first | (have h1_ := of_eq_true p230; have h2_ := of_eq_true q230; omega) | omega) (fun _ hk => hk.2) (by decide)) | (show (Addr.add _ _).block ≠ _; rw [add_block]; exact GGivK.zbs HO_215000.out (by first | (have h1_ := of_eq_true p230; have h2_ := of_eq_true q230; omega) | omega) (fun _ hk => hk.2) (by decide)) | (dsimp only; exact GGivK.zbs HO_215000.out (by first | (have h1_ := of_eq_true p230; have h2_ := of_eq_true q230; omega) | omega) (fun _ hk => hk.2) (by decide))) _).trans (hHeld.2.2.2.2.2.2.1)))))), ((cell_far (p := ⟨gb231, _, none⟩) (by first | exact GGivK.zbs HO_215000.out (by first | (have h1_ := of_eq_true p230; have h2_ := of_eq_true q230; omega) | omega) (fun _ hk => hk.2) (by decide) | (rw [add_block]; exact GGivK.zbs HO_215000.out (by first | (have h1_ := of_eq_true p230; have h2_ := of_eq_true q230; omega) | omega) (fun _ hk => hk.2) (by decide)) | (show (Addr.add _ _).block ≠ _; rw [add_block]; exact GGivK.zbs HO_215000.out (by first | (have h1_ := of_eq_true p230; have h2_ := of_eq_true q230; omega) | omega) (fun _ hk => hk.2) (by decide)) | (dsimp only; exact GGivK.zbs HO_215000.out (by first | (have h1_ := of_eq_true p230; have h2_ := of_eq_true q230; omega) | omega) (fun _ hk => hk.2) (by decide))) _).trans (((cell_far (p := ⟨gb231, _, none⟩) (by first | exact GGivK.zbs HO_215000.out (by first | (have h1_ := of_eq_true p230; have h2_ := of_eq_true q230; omega) | omega) (fun _ hk => hk.2) (by decide) | (rw [add_block]; exact GGivK.zbs HO_215000.out (by first | (have h1_ := of_eq_true p230; have h2_ := of_eq_true q230; omega) | omega) (fun _ hk => hk.2) (by decide)) | (show (Addr.add _ _).block ≠ _; rw [add_block]; exact GGivK.zbs HO_215000.out (by first | (have h1_ := of_eq_true p230; have h2_ := of_eq_true q230; omega) | omega) (fun _ hk => hk.2) (by decide)) | (dsimp only; exact GGivK.zbs HO_215000.out (by first | (have h1_ := of_eq_true p230; have h2_ := of_eq_true q230; omega) | omega) (fun _ hk => hk.2) (by decide))) _).trans (((cell_far (p := ⟨gb231, _, none⟩) (by first | exact GGivK.zbs HO_215000.out (by first | (have h1_ := of_eq_true p230; have h2_ := of_eq_true q230; omega) | omega) (fun _ hk => hk.2) (by decide) | (rw [add_block]; exact GGivK.zbs HO_215000.out (by first | (have h1_ := of_eq_true p230; have h2_ := of_eq_true q230; omega) | omega) (fun _ hk => hk.2) (by decide)) | (show (Addr.add _ _).block ≠ _; rw [add_block]; exact GGivK.zbs HO_215000.out (by first | (have h1_ := of_eq_true p230; have h2_ := of_eq_true q230; omega) | omega) (fun _ hk => hk.2) (by decide)) | (dsimp only; exact GGivK.zbs HO_215000.out (by first | (have h1_ := of_eq_true p230; have h2_ := of_eq_true q230; omega) | omega) (fun _ hk => hk.2) (by decide))) _).trans (hHeld.2.2.2.2.2.2.2))))))⟩ (fun hHeld => ?_)
                 clear hK K
                 refine zby (zbv HT_.out (by kernel_rfl)) ?_
                 try go_wp2
                 have n0_ : zab (Kd.V k38 38 (((w122.setCell ⟨gb231, 0, none⟩ (.int .i64 ((zaa x215000_3 (rd x228002_3 x12_3)).f0))).setCell ⟨gb231, 1, none⟩ (.int .i64 ((zaa x215000_3 (rd x228002_3 x12_3)).f1))).setCell ⟨gb231, 2, none⟩ (.slice A230_2 ((zaa x215000_3 (rd x228002_3 x12_3)).f2).length c230_2)) w.heap.size (fun k_ => ((P0_0_ k_ ∨ P1_0_ k_) ∨ w.heap.size ≤ k_) ∧ some k_ ≠ (u217000 : Value).ownBlock ∧ k_ ≠ gb213 ∧ k_ ≠ gb214 ∧ k_ ≠ gb215 ∧ k_ ≠ gb216 ∧ k_ ≠ gb227 ∧ k_ ≠ gb231) u214000 x214000_3) := ⟨by (with_reducible repeat (first | apply Kd.V_alloc | apply Kd.zak | apply Kd.zam)); exact Kd.zar (Kd.za0 (p := ⟨gb231, 2, none⟩) (Kd.za0 (p := ⟨gb231, 1, none⟩) (Kd.za0 (p := ⟨gb231, 0, none⟩) (Kd.zar HO_214000.out (fun k_ hk => (⟨hk, hk.2⟩ : _ ∧ k_ ≠ gb231))) (fun _ hk => hk.2) (.int .i64 ((zaa x215000_3 (rd x228002_3 x12_3)).f0))) (fun _ hk => hk.2) (.int .i64 ((zaa x215000_3 (rd x228002_3 x12_3)).f1))) (fun _ hk => hk.2) (.slice A230_2 ((zaa x215000_3 (rd x228002_3 x12_3)).f2).length c230_2)) (fun _ hk => ⟨hk.1.1.1, ⟨hk.1.1.2.1, ⟨hk.1.1.2.2.1, ⟨hk.1.1.2.2.2.1, ⟨hk.1.1.2.2.2.2.1, ⟨hk.1.1.2.2.2.2.2.1, ⟨hk.1.1.2.2.2.2.2.2, hk.1.2⟩⟩⟩⟩⟩⟩⟩)⟩
                 have n1_ : zab (Kd.V k38 38 (((w122.setCell ⟨gb231, 0, none⟩ (.int .i64 ((zaa x215000_3 (rd x228002_3 x12_3)).f0))).setCell ⟨gb231, 1, none⟩ (.int .i64 ((zaa x215000_3 (rd x228002_3 x12_3)).f1))).setCell ⟨gb231, 2, none⟩ (.slice A230_2 ((zaa x215000_3 (rd x228002_3 x12_3)).f2).length c230_2)) w.heap.size (fun k_ => ((P0_0_ k_ ∨ P1_0_ k_) ∨ w.heap.size ≤ k_) ∧ some k_ ≠ (u217000 : Value).ownBlock ∧ k_ ≠ gb213 ∧ k_ ≠ gb214 ∧ k_ ≠ gb215 ∧ k_ ≠ gb216 ∧ k_ ≠ gb227 ∧ k_ ≠ gb231) (.slice (some ad230) x215000_3.length co121) x215000_3) := ⟨by (with_reducible repeat (first | apply Kd.V_alloc | apply Kd.zak | apply Kd.zam)); exact Kd.zar (Kd.za0 (p := ⟨gb231, 2, none⟩) (Kd.za0 (p := ⟨gb231, 1, none⟩) (Kd.za0 (p := ⟨gb231, 0, none⟩) (Kd.zar HO_215000.out (fun k_ hk => (⟨hk, hk.2⟩ : _ ∧ k_ ≠ gb231))) (fun _ hk => hk.2) (.int .i64 ((zaa x215000_3 (rd x228002_3 x12_3)).f0))) (fun _ hk => hk.2) (.int .i64 ((zaa x215000_3 (rd x228002_3 x12_3)).f1))) (fun _ hk => hk.2) (.slice A230_2 ((zaa x215000_3 (rd x228002_3 x12_3)).f2).length c230_2)) (fun _ hk => ⟨hk.1.1.1, ⟨hk.1.1.2.1, ⟨hk.1.1.2.2.1, ⟨hk.1.1.2.2.2.1, ⟨hk.1.1.2.2.2.2.1, ⟨hk.1.1.2.2.2.2.2.1, ⟨hk.1.1.2.2.2.2.2.2, hk.1.2⟩⟩⟩⟩⟩⟩⟩)⟩
                 have n2_ : zab (Kd.N k38 38 (((w122.setCell ⟨gb231, 0, none⟩ (.int .i64 ((zaa x215000_3 (rd x228002_3 x12_3)).f0))).setCell ⟨gb231, 1, none⟩ (.int .i64 ((zaa x215000_3 (rd x228002_3 x12_3)).f1))).setCell ⟨gb231, 2, none⟩ (.slice A230_2 ((zaa x215000_3 (rd x228002_3 x12_3)).f2).length c230_2)) w.heap.size (fun k_ => ((P0_0_ k_ ∨ P1_0_ k_) ∨ w.heap.size ≤ k_) ∧ k_ ≠ gb213 ∧ k_ ≠ gb214 ∧ k_ ≠ gb215 ∧ k_ ≠ gb216 ∧ k_ ≠ gb227 ∧ k_ ≠ gb231) u217000 x217000_3) := ⟨by (with_reducible repeat (first | apply Kd.N_alloc | apply Kd.N_drewN | apply Kd.zcr)); exact Kd.zb9 (Kd.zds (p := ⟨gb231, 2, none⟩) (Kd.zds (p := ⟨gb231, 1, none⟩) (Kd.zds (p := ⟨gb231, 0, none⟩) (Kd.zb9 HO_217000.out (fun k_ hk => (⟨hk, hk.2⟩ : _ ∧ k_ ≠ gb231))) (fun _ hk => hk.2) (.int .i64 ((zaa x215000_3 (rd x228002_3 x12_3)).f0))) (fun _ hk => hk.2) (.int .i64 ((zaa x215000_3 (rd x228002_3 x12_3)).f1))) (fun _ hk => hk.2) (.slice A230_2 ((zaa x215000_3 (rd x228002_3 x12_3)).f2).length c230_2)) (fun _ hk => ⟨hk.1.1.1, ⟨hk.1.1.2.1, ⟨hk.1.1.2.2.1, ⟨hk.1.1.2.2.2.1, ⟨hk.1.1.2.2.2.2.1, ⟨hk.1.1.2.2.2.2.2, hk.1.2⟩⟩⟩⟩⟩⟩)⟩
                 have n3_ : zab (Kd.V (Kd.int .i64) 3 (((w122.setCell ⟨gb231, 0, none⟩ (.int .i64 ((zaa x215000_3 (rd x228002_3 x12_3)).f0))).setCell ⟨gb231, 1, none⟩ (.int .i64 ((zaa x215000_3 (rd x228002_3 x12_3)).f1))).setCell ⟨gb231, 2, none⟩ (.slice A230_2 ((zaa x215000_3 (rd x228002_3 x12_3)).f2).length c230_2)) w.heap.size (fun k_ => ((P0_0_ k_ ∨ P1_0_ k_) ∨ w.heap.size ≤ k_) ∧ some k_ ≠ (u217000 : Value).ownBlock ∧ k_ ≠ gb213 ∧ k_ ≠ gb214 ∧ k_ ≠ gb215 ∧ k_ ≠ gb216 ∧ k_ ≠ gb227 ∧ k_ ≠ gb231) (.slice (some ad229) x228002_3.length co119) x228002_3) := ⟨by (with_reducible repeat (first | apply Kd.V_alloc | apply Kd.zak | apply Kd.zam)); exact Kd.zar (Kd.za0 (p := ⟨gb231, 2, none⟩) (Kd.za0 (p := ⟨gb231, 1, none⟩) (Kd.za0 (p := ⟨gb231, 0, none⟩) (Kd.zar HO_228002.out (fun k_ hk => (⟨hk, hk.2⟩ : _ ∧ k_ ≠ gb231))) (fun _ hk => hk.2) (.int .i64 ((zaa x215000_3 (rd x228002_3 x12_3)).f0))) (fun _ hk => hk.2) (.int .i64 ((zaa x215000_3 (rd x228002_3 x12_3)).f1))) (fun _ hk => hk.2) (.slice A230_2 ((zaa x215000_3 (rd x228002_3 x12_3)).f2).length c230_2)) (fun _ hk => ⟨hk.1.1.1, ⟨hk.1.1.2.1, ⟨hk.1.1.2.2.1, ⟨hk.1.1.2.2.2.1, ⟨hk.1.1.2.2.2.2.1, ⟨hk.1.1.2.2.2.2.2.1, ⟨hk.1.1.2.2.2.2.2.2, hk.1.2⟩⟩⟩⟩⟩⟩⟩)⟩
                 have n4_ : zab (Kd.V (Kd.int .i64) 3 (((w122.setCell ⟨gb231, 0, none⟩ (.int .i64 ((zaa x215000_3 (rd x228002_3 x12_3)).f0))).setCell ⟨gb231, 1, none⟩ (.int .i64 ((zaa x215000_3 (rd x228002_3 x12_3)).f1))).setCell ⟨gb231, 2, none⟩ (.slice A230_2 ((zaa x215000_3 (rd x228002_3 x12_3)).f2).length c230_2)) w.heap.size (fun k_ => ((P0_0_ k_ ∨ P1_0_ k_) ∨ w.heap.size ≤ k_) ∧ some k_ ≠ (u217000 : Value).ownBlock ∧ k_ ≠ gb213 ∧ k_ ≠ gb214 ∧ k_ ≠ gb215 ∧ k_ ≠ gb216 ∧ k_ ≠ gb227 ∧ k_ ≠ gb231) (.slice A230_2 ((zaa x215000_3 (rd x228002_3 x12_3)).f2).length c230_2) ((zaa x215000_3 (rd x228002_3 x12_3)).f2)) := ⟨by (with_reducible repeat (first | apply Kd.V_alloc | apply Kd.zak | apply Kd.zam)); exact Kd.zar (Kd.za0 (p := ⟨gb231, 2, none⟩) (Kd.za0 (p := ⟨gb231, 1, none⟩) (Kd.za0 (p := ⟨gb231, 0, none⟩) (Kd.zar HL230_2.out (fun k_ hk => (⟨hk, hk.2⟩ : _ ∧ k_ ≠ gb231))) (fun _ hk => hk.2) (.int .i64 ((zaa x215000_3 (rd x228002_3 x12_3)).f0))) (fun _ hk => hk.2) (.int .i64 ((zaa x215000_3 (rd x228002_3 x12_3)).f1))) (fun _ hk => hk.2) (.slice A230_2 ((zaa x215000_3 (rd x228002_3 x12_3)).f2).length c230_2)) (fun _ hk => ⟨hk.1.1.1, ⟨hk.1.1.2.1, ⟨hk.1.1.2.2.1, ⟨hk.1.1.2.2.2.1, ⟨hk.1.1.2.2.2.2.1, ⟨hk.1.1.2.2.2.2.2.1, ⟨hk.1.1.2.2.2.2.2.2, hk.1.2⟩⟩⟩⟩⟩⟩⟩)⟩
                 have n5_ : zab ((((w122.setCell ⟨gb231, 0, none⟩ (.int .i64 ((zaa x215000_3 (rd x228002_3 x12_3)).f0))).setCell ⟨gb231, 1, none⟩ (.int .i64 ((zaa x215000_3 (rd x228002_3 x12_3)).f1))).setCell ⟨gb231, 2, none⟩ (.slice A230_2 ((zaa x215000_3 (rd x228002_3 x12_3)).f2).length c230_2)).heap[gb213]? = some (.cells #[u214000] 24 (0, 0))) := ⟨by (with_reducible repeat (first | refine zae ?_ _ | refine zac ?_ | refine zad ?_ _)); refine zaj ?_ NB213_231.out _; (with_reducible repeat (first | refine zae ?_ _ | refine zac ?_ | refine zad ?_ _)); refine zaj ?_ NB213_231.out _; (with_reducible repeat (first | refine zae ?_ _ | refine zac ?_ | refine zad ?_ _)); refine zaj ?_ NB213_231.out _; (with_reducible repeat (first | refine zae ?_ _ | refine zac ?_ | refine zad ?_ _)); exact BK213.out⟩
                 have n6_ : zab ((((w122.setCell ⟨gb231, 0, none⟩ (.int .i64 ((zaa x215000_3 (rd x228002_3 x12_3)).f0))).setCell ⟨gb231, 1, none⟩ (.int .i64 ((zaa x215000_3 (rd x228002_3 x12_3)).f1))).setCell ⟨gb231, 2, none⟩ (.slice A230_2 ((zaa x215000_3 (rd x228002_3 x12_3)).f2).length c230_2)).heap[gb214]? = some (.cells #[.slice (some ad230) x215000_3.length co121] 24 (0, 0))) := ⟨by (with_reducible repeat (first | refine zae ?_ _ | refine zac ?_ | refine zad ?_ _)); refine zaj ?_ NB214_231.out _; (with_reducible repeat (first | refine zae ?_ _ | refine zac ?_ | refine zad ?_ _)); refine zaj ?_ NB214_231.out _; (with_reducible repeat (first | refine zae ?_ _ | refine zac ?_ | refine zad ?_ _)); refine zaj ?_ NB214_231.out _; (with_reducible repeat (first | refine zae ?_ _ | refine zac ?_ | refine zad ?_ _)); exact BK214.out⟩
                 have n7_ : zab ((((w122.setCell ⟨gb231, 0, none⟩ (.int .i64 ((zaa x215000_3 (rd x228002_3 x12_3)).f0))).setCell ⟨gb231, 1, none⟩ (.int .i64 ((zaa x215000_3 (rd x228002_3 x12_3)).f1))).setCell ⟨gb231, 2, none⟩ (.slice A230_2 ((zaa x215000_3 (rd x228002_3 x12_3)).f2).length c230_2)).heap[gb215]? = some (.cells #[.slice none 0 0] 24 (0, 0))) := ⟨by (with_reducible repeat (first | refine zae ?_ _ | refine zac ?_ | refine zad ?_ _)); refine zaj ?_ NB215_231.out _; (with_reducible repeat (first | refine zae ?_ _ | refine zac ?_ | refine zad ?_ _)); refine zaj ?_ NB215_231.out _; (with_reducible repeat (first | refine zae ?_ _ | refine zac ?_ | refine zad ?_ _)); refine zaj ?_ NB215_231.out _; (with_reducible repeat (first | refine zae ?_ _ | refine zac ?_ | refine zad ?_ _)); exact BK215.out⟩
                 have n8_ : zab ((((w122.setCell ⟨gb231, 0, none⟩ (.int .i64 ((zaa x215000_3 (rd x228002_3 x12_3)).f0))).setCell ⟨gb231, 1, none⟩ (.int .i64 ((zaa x215000_3 (rd x228002_3 x12_3)).f1))).setCell ⟨gb231, 2, none⟩ (.slice A230_2 ((zaa x215000_3 (rd x228002_3 x12_3)).f2).length c230_2)).heap[gb216]? = some (.cells #[u217000] 24 (0, 0))) := ⟨by (with_reducible repeat (first | refine zae ?_ _ | refine zac ?_ | refine zad ?_ _)); refine zaj ?_ NB216_231.out _; (with_reducible repeat (first | refine zae ?_ _ | refine zac ?_ | refine zad ?_ _)); refine zaj ?_ NB216_231.out _; (with_reducible repeat (first | refine zae ?_ _ | refine zac ?_ | refine zad ?_ _)); refine zaj ?_ NB216_231.out _; (with_reducible repeat (first | refine zae ?_ _ | refine zac ?_ | refine zad ?_ _)); exact BK216.out⟩
                 have n9_ : zab ((((w122.setCell ⟨gb231, 0, none⟩ (.int .i64 ((zaa x215000_3 (rd x228002_3 x12_3)).f0))).setCell ⟨gb231, 1, none⟩ (.int .i64 ((zaa x215000_3 (rd x228002_3 x12_3)).f1))).setCell ⟨gb231, 2, none⟩ (.slice A230_2 ((zaa x215000_3 (rd x228002_3 x12_3)).f2).length c230_2)).heap[gb227]? = some (.cells #[.int .i64 ((zaa x215000_2 x9_2).f0), .int .i64 ((zaa x215000_2 x9_2).f1), .slice (some ad229) x228002_3.length co119] 38 (0, 0))) := ⟨by (with_reducible repeat (first | refine zae ?_ _ | refine zac ?_ | refine zad ?_ _)); refine zaj ?_ NB227_231.out _; (with_reducible repeat (first | refine zae ?_ _ | refine zac ?_ | refine zad ?_ _)); refine zaj ?_ NB227_231.out _; (with_reducible repeat (first | refine zae ?_ _ | refine zac ?_ | refine zad ?_ _)); refine zaj ?_ NB227_231.out _; (with_reducible repeat (first | refine zae ?_ _ | refine zac ?_ | refine zad ?_ _)); exact BK227.out⟩
                 have n10_ : zab ((((w122.setCell ⟨gb231, 0, none⟩ (.int .i64 ((zaa x215000_3 (rd x228002_3 x12_3)).f0))).setCell ⟨gb231, 1, none⟩ (.int .i64 ((zaa x215000_3 (rd x228002_3 x12_3)).f1))).setCell ⟨gb231, 2, none⟩ (.slice A230_2 ((zaa x215000_3 (rd x228002_3 x12_3)).f2).length c230_2)).heap[gb231]? = some (.cells #[.int .i64 ((zaa x215000_3 (rd x228002_3 x12_3)).f0), .int .i64 ((zaa x215000_3 (rd x228002_3 x12_3)).f1), .slice A230_2 ((zaa x215000_3 (rd x228002_3 x12_3)).f2).length c230_2] 38 (0, 0))) := ⟨by (with_reducible repeat (first | refine zae ?_ _ | refine zac ?_ | refine zad ?_ _)); refine zas (cs := #[.int .i64 ((zaa x215000_3 (rd x228002_3 x12_3)).f0), .int .i64 ((zaa x215000_3 (rd x228002_3 x12_3)).f1), .slice none 0 0]) ?_ 2 _ rfl; (with_reducible repeat (first | refine zae ?_ _ | refine zac ?_ | refine zad ?_ _)); refine zas (cs := #[.int .i64 ((zaa x215000_3 (rd x228002_3 x12_3)).f0), .int .i64 0, .slice none 0 0]) ?_ 1 _ rfl; (with_reducible repeat (first | refine zae ?_ _ | refine zac ?_ | refine zad ?_ _)); refine zas (cs := #[.int .i64 0, .int .i64 0, .slice none 0 0]) ?_ 0 _ rfl; (with_reducible repeat (first | refine zae ?_ _ | refine zac ?_ | refine zad ?_ _)); exact BK231.out⟩
                 have n11_ : zab (Below w.heap.size w (((w122.setCell ⟨gb231, 0, none⟩ (.int .i64 ((zaa x215000_3 (rd x228002_3 x12_3)).f0))).setCell ⟨gb231, 1, none⟩ (.int .i64 ((zaa x215000_3 (rd x228002_3 x12_3)).f1))).setCell ⟨gb231, 2, none⟩ (.slice A230_2 ((zaa x215000_3 (rd x228002_3 x12_3)).f2).length c230_2))) := ⟨Yb_PGssPushesx8_6⟩
                 (try clear HO_214000)
                 (try clear HO_215000)
                 (try clear HO_217000)
                 (try clear HO_228002)
                 (try clear HL230_2)
                 (try clear BK213)
                 (try clear BK214)
                 (try clear BK215)
                 (try clear BK216)
                 (try clear BK227)
                 (try clear BK231)
                 (try clear HB)
                 generalize (((w122.setCell ⟨gb231, 0, none⟩ (.int .i64 ((zaa x215000_3 (rd x228002_3 x12_3)).f0))).setCell ⟨gb231, 1, none⟩ (.int .i64 ((zaa x215000_3 (rd x228002_3 x12_3)).f1))).setCell ⟨gb231, 2, none⟩ (.slice A230_2 ((zaa x215000_3 (rd x228002_3 x12_3)).f2).length c230_2)) = w126 at n0_ n1_ n2_ n3_ n4_ n5_ n6_ n7_ n8_ n9_ n10_ n11_ ⊢
                 have HO_214000 := n0_;have HO_215000 := n1_;have HO_217000 := n2_;have HO_228002 := n3_;have HL230_2 := n4_;have BK213 := n5_;have BK214 := n6_;have BK215 := n7_;have BK216 := n8_;have BK227 := n9_;have BK231 := n10_;have HB := n11_;clear n0_ n1_ n2_ n3_ n4_ n5_ n6_ n7_ n8_ n9_ n10_ n11_
                 replace HO_214000 := zab.mk (Kd.zam HO_214000.out)
                 replace HO_215000 := zab.mk (Kd.zam HO_215000.out)
                 replace HO_217000 := zab.mk (Kd.zcr HO_217000.out)
                 replace HO_228002 := zab.mk (Kd.zam HO_228002.out)
                 replace HL230_2 := zab.mk (Kd.zam HL230_2.out)
                 replace BK213 := zab.mk (zac BK213.out)
                 replace BK214 := zab.mk (zac BK214.out)
                 replace BK215 := zab.mk (zac BK215.out)
                 replace BK216 := zab.mk (zac BK216.out)
                 replace BK227 := zab.mk (zac BK227.out)
                 replace BK231 := zab.mk (zac BK231.out)
                 replace HB := zab.mk (zav HB.out)
                 obtain ⟨Ao128, co128, eo128⟩ := Kd.zeh HO_217000.out
                 (first | subst eo128 | (injection eo128 with f1_ f2_ f3_; have f4_ := f1_.symm; have f5_ := f3_.symm; clear f1_ f2_ f3_; subst f4_; subst f5_))
                 have p232 : 0 ≤ (t228 : Int) := Yod
                 have q232 : t228 < (x217000_3.length : Int) := Yod
                 obtain ⟨ad232, A232_2, c232_2, e232, hx232_0, hx232_1, hx232_2, hl232_2, hi232_2⟩ := zbn (Kd.N_reads' HO_217000.out).2.2 t228 p232 q232
                 cases e232
                 obtain ⟨ce232, hce232, hMe232, hcc232⟩ := Kd.N_get HO_217000.out z38 t228 p232 (by first | exact q232 | exact of_decide_eq_true (by first | (with_reducible assumption) | assumption) | (have e_ := (Kd.N_reads' HO_217000.out).1; omega))
                 obtain ⟨ua232_2, uc232_2, rfl, ul232_2, ge232_2⟩ := zb5 hMe232
                 have hv232_2 := hcc232 2 _ rfl
                 rw [zb0 _ _ 2 (by omega)] at hv232_2
                 replace hv232_2 := Option.some.inj (hv232_2.symm.trans hx232_2)
                 injection hv232_2 with hva_ hvn_ hvc_
                 rw [hva_] at ge232_2
                 rw [hvc_] at ul232_2
                 have HL232_2 := zab.mk (show Kd.V (Kd.int .i64) 3 _ w.heap.size _ _ ((zaa x217000_3 t228).f2) from Kd.V_mk ul232_2 ge232_2)
                 clear hva_ hvn_ hvc_ ge232_2 ul232_2;clear hcc232 hce232;have HR232_2 := zab.mk hi232_2;have HC232_2 := zab.mk hl232_2;clear hi232_2 hl232_2
                 replace p232 := eq_true p232
                 replace q232 := eq_true q232
                 refine zbt (n := 19) (S := fun w' => w'.cell? ⟨gb216, 0, none⟩ = some (.slice (some ad232) x217000_3.length co128) ∧ w'.cell? ⟨gb231, 0, none⟩ = some (.int .i64 ((zaa x215000_3 (rd x228002_3 x12_3)).f0)) ∧ w'.cell? ⟨gb231, 1, none⟩ = some (.int .i64 ((zaa x215000_3 (rd x228002_3 x12_3)).f1)) ∧ w'.cell? ⟨gb231, 2, none⟩ = some (.slice A230_2 ((zaa x215000_3 (rd x228002_3 x12_3)).f2).length c230_2) ∧ w'.cell? (ad232.add ((t228).toNat * 3)) = some (.int .i64 ((zaa x217000_3 t228).f0)) ∧ w'.cell? ⟨(ad232.add ((t228).toNat * 3)).block, (ad232.add ((t228).toNat * 3)).off + 1, none⟩ = some (.int .i64 ((zaa x217000_3 t228).f1)) ∧ w'.cell? ⟨(ad232.add ((t228).toNat * 3)).block, (ad232.add ((t228).toNat * 3)).off + 2, none⟩ = some (.slice A232_2 ((zaa x217000_3 t228).f2).length c232_2)) (ds := [18]) (Ymk 19 0) (by kernel_rfl) rfl rfl ⟨(zaf BK216.out 0).trans rfl, (zaf BK231.out 0).trans rfl, (zaf BK231.out 1).trans rfl, (zaf BK231.out 2).trans rfl, hx232_0, hx232_1, hx232_2⟩ (fun hHeld => ?_); refine zbo zan.tab21 zan.bits21 (fun HT_ HW_ => ?_)
                 generalize w126.drew = w127 at HO_214000 HO_215000 HO_217000 HO_228002 HL230_2 BK213 BK214 BK215 BK216 BK227 BK231 HB HL232_2 HR232_2 hx232_0 hx232_1 hx232_2 hHeld ⊢
                 refine Ypt 0 81 19 1 HT_ ?_
                 refine Ypt 2 83 19 5 HT_ ?_
                 refine Ypt 3 84 19 13 HT_ ?_
                 refine Ypt 5 86 19 45 HT_ ?_
                 refine Ypt 10 91 19 1069 HT_ ?_
                 refine Ypt 12 93 19 5165 HT_ ?_
                 refine Ytt 1 82 19 5167 HT_ HW_ hHeld ?_
                 refine Ytt 4 85 19 5183 HT_ HW_ hHeld ?_
                 refine Ypt 6 87 19 5247 HT_ ?_
                 refine Ypt 7 88 19 5375 HT_ ?_
                 refine Ytt 8 89 19 5631 HT_ HW_ hHeld ?_
                 refine Ytt 9 90 19 6143 HT_ HW_ hHeld ?_
                 refine Ytt 11 92 19 8191 HT_ HW_ hHeld ?_
                 refine Ytt 13 94 19 16383 HT_ HW_ hHeld ?_
                 refine Yot 14 95 19 32767 HT_ (fun K hK => ?_)
                 refine Ygs Try.func14 #[.agg #[.slice (some ad232) x217000_3.length co128], .int .i64 ((zaa x215000_3 (rd x228002_3 x12_3)).f0), .int .i64 ((zaa x215000_3 (rd x228002_3 x12_3)).f1)] ?_
                 with_reducible refine (zaw.calls k3 _ _ x217000_3 ((zaa x215000_3 (rd x228002_3 x12_3)).f0) ((zaa x215000_3 (rd x228002_3 x12_3)).f1) t233 _ ?side1 ?side2 A111.out).mono ?_
                 (case side1 => repeat (first | exact (Kd.N_reads' HO_217000.out).2.2 | (with_reducible refine Kd.C_alloc ?_ _) | (with_reducible refine Kd.C_drewN ?_ _) | (with_reducible refine Kd.C_drew ?_)))
                 (case side2 => exact (Kd.N_reads' HO_217000.out).2.1)
                 rintro e w129 ⟨rfl, hb⟩
                 have HS4_ := (hb.cell (World.block_lt_of_cell? _ _ (hHeld.2.2.2.2.1))).trans (hHeld.2.2.2.2.1)
                 have HS5_ := (hb.cell (World.block_lt_of_cell? _ _ (hHeld.2.2.2.2.2.1))).trans (hHeld.2.2.2.2.2.1)
                 have HS6_ := (hb.cell (World.block_lt_of_cell? _ _ (hHeld.2.2.2.2.2.2))).trans (hHeld.2.2.2.2.2.2)
                 refine ⟨_, rfl, ?_⟩
                 replace HO_214000 := zab.mk (Kd.zat (by (with_reducible repeat (first | apply Kd.V_alloc | apply Kd.zak | apply Kd.zam)); exact HO_214000.out) hb)
                 replace HO_215000 := zab.mk (Kd.zat (by (with_reducible repeat (first | apply Kd.V_alloc | apply Kd.zak | apply Kd.zam)); exact HO_215000.out) hb)
                 replace HO_217000 := zab.mk (Kd.zfe (by (with_reducible repeat (first | apply Kd.N_alloc | apply Kd.N_drewN | apply Kd.zcr)); exact HO_217000.out) hb)
                 replace HO_228002 := zab.mk (Kd.zat (by (with_reducible repeat (first | apply Kd.V_alloc | apply Kd.zak | apply Kd.zam)); exact HO_228002.out) hb)
                 replace HL230_2 := zab.mk (Kd.zat (by (with_reducible repeat (first | apply Kd.V_alloc | apply Kd.zak | apply Kd.zam)); exact HL230_2.out) hb)
                 replace HL232_2 := zab.mk (Kd.zat (by (with_reducible repeat (first | apply Kd.V_alloc | apply Kd.zak | apply Kd.zam)); exact HL232_2.out) hb)
                 replace BK213 := Ykb BK213 hb
                 replace BK214 := Ykb BK214 hb
                 replace BK215 := Ykb BK215 hb
                 replace BK216 := Ykb BK216 hb
                 replace BK227 := Ykb BK227 hb
                 replace BK231 := Ykb BK231 hb
                 replace HR232_2 := zab.mk (Kd.za4 (by repeat (first | (with_reducible exact HR232_2.out) | (with_reducible refine Kd.C_alloc ?_ _) | (with_reducible refine Kd.C_drewN ?_ _) | (with_reducible refine Kd.C_drew ?_) | exact HR232_2.out)) hb)
                 replace HB := zab.mk (za1 Yb_PGssPushesx8_6 hb)
                 (try clear hb)
                 (try clear hb2)
                 (try clear hk)
                 (try clear hi)
                 refine hK.out _ _ ⟨(zaf BK216.out 0).trans rfl, (zaf BK231.out 0).trans rfl, (zaf BK231.out 1).trans rfl, (zaf BK231.out 2).trans rfl, HS4_, HS5_, HS6_⟩ (fun hHeld => ?_)
                 clear hK K
                 refine Ynw 95 ?_
                 refine Yot 15 96 19 65535 HT_ (fun K hK => ?_)
                 refine Ygs Try.func43 #[.slice A232_2 ((zaa x217000_3 t228).f2).length c232_2, .int .i64 t233] ?_
                 with_reducible refine (zbg.calls k3 (fun k_ => ((((P0_0_ k_ ∨ P1_0_ k_) ∨ w.heap.size ≤ k_) ∧ (k_ ≠ gb213 ∧ (k_ ≠ gb214 ∧ (k_ ≠ gb215 ∧ (k_ ≠ gb216 ∧ (k_ ≠ gb227 ∧ k_ ≠ gb231)))))) ∧ some k_ ≠ (.slice (some ad232) x217000_3.length co128 : Value).ownBlock)) _ _ ((zaa x217000_3 t228).f2) t233 t234 _ ?side1 A112.out).mono ?_
                 (case side1 => exact HL232_2.out)
                 rintro e w130 ⟨v235, rfl, ho0, hb⟩
                 have HS4_ := (hb.cell (World.block_lt_of_cell? _ _ (hHeld.2.2.2.2.1))).trans (hHeld.2.2.2.2.1)
                 have HS5_ := (hb.cell (World.block_lt_of_cell? _ _ (hHeld.2.2.2.2.2.1))).trans (hHeld.2.2.2.2.2.1)
                 have HS6_ := (hb.cell (World.block_lt_of_cell? _ _ (hHeld.2.2.2.2.2.2))).trans (hHeld.2.2.2.2.2.2)
                 refine ⟨_, rfl, ?_⟩
                 replace HO_214000 := zab.mk (Kd.zat (by (with_reducible repeat (first | apply Kd.V_alloc | apply Kd.zak | apply Kd.zam)); exact HO_214000.out) hb)
                 replace HO_215000 := zab.mk (Kd.zat (by (with_reducible repeat (first | apply Kd.V_alloc | apply Kd.zak | apply Kd.zam)); exact HO_215000.out) hb)
                 replace HO_228002 := zab.mk (Kd.zat (by (with_reducible repeat (first | apply Kd.V_alloc | apply Kd.zak | apply Kd.zam)); exact HO_228002.out) hb)
                 replace HL230_2 := zab.mk (Kd.zat (by (with_reducible repeat (first | apply Kd.V_alloc | apply Kd.zak | apply Kd.zam)); exact HL230_2.out) hb)
                 replace HL232_2 := zab.mk (Kd.zat (by (with_reducible repeat (first | apply Kd.V_alloc | apply Kd.zak | apply Kd.zam)); exact HL232_2.out) hb)
                 have HO236 := zab.mk (Kd.zc2 (Kd.zar (ok' := fun k_ => ((P0_0_ k_ ∨ P1_0_ k_) ∨ w.heap.size ≤ k_) ∧ some k_ ≠ (.slice (some ad232) x217000_3.length co128 : Value).ownBlock ∧ k_ ≠ gb213 ∧ k_ ≠ gb214 ∧ k_ ≠ gb215 ∧ k_ ≠ gb216 ∧ k_ ≠ gb227 ∧ k_ ≠ gb231) ho0 (fun k_ hk_ => ⟨Or.elim hk_ (fun hs_ => hs_.1.1) (fun hn_ => (.inr (Nat.le_trans (za7 Yb_PGssPushesx8_6) hn_))), Or.elim hk_ (fun hs_ => hs_.2) (fun hn_ => (Kd.fresh' (Kd.N_lt (by (with_reducible repeat (first | apply Kd.N_alloc | apply Kd.N_drewN | apply Kd.zcr)); exact HO_217000.out)) k_ hn_)), Or.elim hk_ (fun hs_ => hs_.1.2.1) (fun hn_ => (Kd.zbh (g := gb213) (o := .cells #[u214000] 24 (0, 0)) (Yg BK213) k_ hn_)), Or.elim hk_ (fun hs_ => hs_.1.2.2.1) (fun hn_ => (Kd.zbh (g := gb214) (o := .cells #[.slice (some ad230) x215000_3.length co121] 24 (0, 0)) (Yg BK214) k_ hn_)), Or.elim hk_ (fun hs_ => hs_.1.2.2.2.1) (fun hn_ => (Kd.zbh (g := gb215) (o := .cells #[.slice none 0 0] 24 (0, 0)) (Yg BK215) k_ hn_)), Or.elim hk_ (fun hs_ => hs_.1.2.2.2.2.1) (fun hn_ => (Kd.zbh (g := gb216) (o := .cells #[.slice (some ad232) x217000_3.length co128] 24 (0, 0)) (Yg BK216) k_ hn_)), Or.elim hk_ (fun hs_ => hs_.1.2.2.2.2.2.1) (fun hn_ => (Kd.zbh (g := gb227) (o := .cells #[.int .i64 ((zaa x215000_2 x9_2).f0), .int .i64 ((zaa x215000_2 x9_2).f1), .slice (some ad229) x228002_3.length co119] 38 (0, 0)) (Yg BK227) k_ hn_)), Or.elim hk_ (fun hs_ => hs_.1.2.2.2.2.2.2) (fun hn_ => (Kd.zbh (g := gb231) (o := .cells #[.int .i64 ((zaa x215000_3 (rd x228002_3 x12_3)).f0), .int .i64 ((zaa x215000_3 (rd x228002_3 x12_3)).f1), .slice A230_2 ((zaa x215000_3 (rd x228002_3 x12_3)).f2).length c230_2] 38 (0, 0)) (Yg BK231) k_ hn_))⟩)) (za7 Yb_PGssPushesx8_6))
                 replace HO_217000 := zab.mk (Kd.zfe (by (with_reducible repeat (first | apply Kd.N_alloc | apply Kd.N_drewN | apply Kd.zcr)); exact HO_217000.out) hb)
                 replace BK213 := Ykb BK213 hb
                 replace BK214 := Ykb BK214 hb
                 replace BK215 := Ykb BK215 hb
                 replace BK216 := Ykb BK216 hb
                 replace BK227 := Ykb BK227 hb
                 replace BK231 := Ykb BK231 hb
                 replace HR232_2 := zab.mk (Kd.za4 (by repeat (first | (with_reducible exact HR232_2.out) | (with_reducible refine Kd.C_alloc ?_ _) | (with_reducible refine Kd.C_drewN ?_ _) | (with_reducible refine Kd.C_drew ?_) | exact HR232_2.out)) hb)
                 replace HB := zab.mk (za1 Yb_PGssPushesx8_6 hb)
                 (try clear hb)
                 (try clear hb2)
                 (try clear hk)
                 (try clear hi)
                 (try clear ho0)
                 have p113 : 0 ≤ (t228 : Int) := Yod
                 have q113 : (t228 : Int) < ((x217000_3.length : Int) : Int) := Yod
                 obtain ⟨go113, co113, eo113, gb113, gl113, cl113, HG113⟩ := Kd.N_form HO_217000.out (by omega)
                 (first | cases eo113 | (injection eo113 with ea_ en_ ec_; (first | subst ea_ | (injection ea_ with ea_; subst ea_)); subst ec_; clear en_))
                 have GB113 := zab.mk gb113;have GG113 := zab.mk HG113;clear gb113 gl113 HG113
                 (first | simp only [add_plain] at hx232_0 | skip)
                 (first | simp only [add_plain] at hx232_1 | skip)
                 (first | simp only [add_plain] at hx232_2 | skip)
                 obtain ⟨ce113, hcl113, hM113, hcc113, hfr113⟩ := Kd.N_elem HO_217000.out z38 (t228 : Int) p113 q113
                 obtain ⟨ua113_2, uc113_2, rfl, ul113_2, ge113_2⟩ := zb5 hM113
                 have hx113_0 : World.cell? _ ⟨go113, (t228 : Int).toNat * 3, none⟩ = some (.int .i64 ((zaa x217000_3 t228).f0)) := hcc113 0 _ rfl
                 have hx113_1 : World.cell? _ ⟨go113, (t228 : Int).toNat * 3 + 1, none⟩ = some (.int .i64 ((zaa x217000_3 t228).f1)) := hcc113 1 _ rfl
                 have hx113_2 : World.cell? _ ⟨go113, (t228 : Int).toNat * 3 + 2, none⟩ = some (.slice ua113_2 ((zaa x217000_3 t228).f2).length uc113_2) := hcc113 2 _ rfl
                 have hf113_0 : World.frozen? _ ⟨go113, (t228 : Int).toNat * 3, none⟩ = false := hfr113 0
                 have hf113_1 : World.frozen? _ ⟨go113, (t228 : Int).toNat * 3 + 1, none⟩ = false := hfr113 1
                 have hf113_2 : World.frozen? _ ⟨go113, (t228 : Int).toNat * 3 + 2, none⟩ = false := hfr113 2
                 clear hcl113 hcc113 hfr113 hM113
                 replace p113 := eq_true p113
                 replace q113 := eq_true q113
                 have HX131 := zab.mk (show Kd.N k38 38 _ w.heap.size (fun k_ => ((P0_0_ k_ ∨ P1_0_ k_) ∨ w.heap.size ≤ k_) ∧ k_ ≠ gb213 ∧ k_ ≠ gb214 ∧ k_ ≠ gb215 ∧ k_ ≠ gb216 ∧ k_ ≠ gb227 ∧ k_ ≠ gb231) (.slice (some ⟨go113, 0, none⟩) x217000_3.length co128) x217000_3 from (Kd.zb9 (HO_217000.out) (fun k_ hk => ⟨hk.1, ⟨hk.2.1, ⟨hk.2.2.1, ⟨hk.2.2.2.1, ⟨hk.2.2.2.2.1, ⟨hk.2.2.2.2.2.1, hk.2.2.2.2.2.2⟩⟩⟩⟩⟩⟩)))
                 obtain ⟨ce131, hcl131, hM131, hcc131, hfr131⟩ := Kd.N_elem HX131.out z38 (t228 : Int) (of_decide_eq_true (by first | (with_reducible assumption) | assumption)) (by have h_ : (t228 : Int) < ((x217000_3.length : Int) : Int) := Yod; first | exact h_ | (have e_ := (Kd.N_reads' HO_217000.out).1; omega) | simpa using h_)
                 obtain ⟨ua131_2, uc131_2, rfl, ul131_2, ge131_2⟩ := zb5 hM131
                 obtain ⟨AvHO236, cvHO236, evHO236⟩ := Kd.zbz HO236.out
                 subst evHO236
                 have HP131 := (Kd.N_seg HX131.out (t228 : Int) (of_decide_eq_true (by first | (with_reducible assumption) | assumption)) (by have h_ : (t228 : Int) < ((x217000_3.length : Int) : Int) := Yod; first | exact h_ | (have e_ := (Kd.N_reads' HO_217000.out).1; omega) | simpa using h_) (seg := [(.slice AvHO236 t234.length cvHO236)]) (j := 2) hcl131 hcc131 (show 3 ≤ 3 from by decide) (x' := (⟨(zaa x217000_3 t228).f0, (zaa x217000_3 t228).f1, t234⟩ : S38)) (k38_mkF _ _ (⟨(zaa x217000_3 t228).f0, (zaa x217000_3 t228).f1, t234⟩ : S38) (Kd.V_reads' (Kd.zar (ok' := (fun k_ => ((fun k_ => ((P0_0_ k_ ∨ P1_0_ k_) ∨ w.heap.size ≤ k_) ∧ k_ ≠ gb213 ∧ k_ ≠ gb214 ∧ k_ ≠ gb215 ∧ k_ ≠ gb216 ∧ k_ ≠ gb227 ∧ k_ ≠ gb231)) k_ ∧ k_ ≠ go113)) (HO236.out) (fun k_ hk => ⟨⟨hk.1, ⟨hk.2.2.1, ⟨hk.2.2.2.1, ⟨hk.2.2.2.2.1, ⟨hk.2.2.2.2.2.1, ⟨hk.2.2.2.2.2.2.1, hk.2.2.2.2.2.2.2⟩⟩⟩⟩⟩⟩, fun e_ => (hk.2.1) (by rw [e_]; rfl)⟩))).2.1 (Kd.V_F (Kd.zar (ok' := (fun k_ => ((fun k_ => ((P0_0_ k_ ∨ P1_0_ k_) ∨ w.heap.size ≤ k_) ∧ k_ ≠ gb213 ∧ k_ ≠ gb214 ∧ k_ ≠ gb215 ∧ k_ ≠ gb216 ∧ k_ ≠ gb227 ∧ k_ ≠ gb231)) k_ ∧ k_ ≠ go113)) (HO236.out) (fun k_ hk => ⟨⟨hk.1, ⟨hk.2.2.1, ⟨hk.2.2.2.1, ⟨hk.2.2.2.2.1, ⟨hk.2.2.2.2.2.1, ⟨hk.2.2.2.2.2.2.1, hk.2.2.2.2.2.2.2⟩⟩⟩⟩⟩⟩, fun e_ => (hk.2.1) (by rw [e_]; rfl)⟩)))) (fun _ hk => hk)).1
                 rw [← Ny237.out] at HP131
                 have HQ131 := zab.mk HP131;clear hcl131 hcc131 hfr131 hM131 HP131
                 refine hK.out _ _ ⟨(zaf BK216.out 0).trans rfl, (zaf BK231.out 0).trans rfl, (zaf BK231.out 1).trans rfl, (zaf BK231.out 2).trans rfl, HS4_, HS5_, HS6_⟩ (fun hHeld => ?_)
                 clear hK K
                 refine Ynw 96 ?_
                 refine Ypt 16 97 19 131071 HT_ ?_
                 refine Ypt 17 98 19 262143 HT_ ?_
                 refine last_ (i := 18) (N := none) (Ymk 19 524287) rfl rfl (zf9 HT_.out (by kernel_rfl)) (by decide) (fun K hK => ?_)
                 refine zfb (w1 := ?_) (by rfl) rfl ?_ ?_
                 rotate_left
                 ·go_simp
                  rfl
                 refine hK.out _ _ ?_
                 clear hK K
                 refine zby (zbv HT_.out (by kernel_rfl)) ?_
                 try go_wp2
                 go_roundg k3
                 case measure => have := HK1.out; have := HK2.out; have := HK3.out; omega
                 case rel => exact ⟨(wrap64 (x12_3 + 1)), (x214000_3), (x215000_3), (y237), (x228002_3), (u214000), (.slice (some ad230) x215000_3.length co121), (.slice (some ⟨go113, 0, none⟩) x217000_3.length co128), (.slice (some ad229) x228002_3.length co119), Yfs, H', ⟨by have := HK1.out; have := HK2.out; have := HK3.out; omega⟩, ⟨by (with_reducible repeat (first | apply Kd.V_alloc | apply Kd.zak | apply Kd.zam)); exact Kd.zar (Kd.za0 (p := ⟨go113, (t228 : Int).toNat * 3 + 2, none⟩) (Kd.zar HO_214000.out (fun k_ hk => (⟨hk, fun e_ => hk.2.1 (by rw [e_]; rfl)⟩ : _ ∧ k_ ≠ go113))) (fun _ hk => hk.2) ((.slice AvHO236 t234.length cvHO236))) (fun _ hk => ⟨hk.1.1, ⟨hk.1.2.1, ⟨hk.1.2.2.1, ⟨hk.1.2.2.2.1, ⟨hk.1.2.2.2.2.1, ⟨hk.1.2.2.2.2.2.1, hk.1.2.2.2.2.2.2.1⟩⟩⟩⟩⟩⟩)⟩, ⟨by (with_reducible repeat (first | apply Kd.V_alloc | apply Kd.zak | apply Kd.zam)); exact Kd.zar (Kd.za0 (p := ⟨go113, (t228 : Int).toNat * 3 + 2, none⟩) (Kd.zar HO_215000.out (fun k_ hk => (⟨hk, fun e_ => hk.2.1 (by rw [e_]; rfl)⟩ : _ ∧ k_ ≠ go113))) (fun _ hk => hk.2) ((.slice AvHO236 t234.length cvHO236))) (fun _ hk => ⟨hk.1.1, ⟨hk.1.2.1, ⟨hk.1.2.2.1, ⟨hk.1.2.2.2.1, ⟨hk.1.2.2.2.2.1, ⟨hk.1.2.2.2.2.2.1, hk.1.2.2.2.2.2.2.1⟩⟩⟩⟩⟩⟩)⟩, ⟨by (with_reducible repeat (first | apply Kd.N_alloc | apply Kd.N_drewN | apply Kd.zcr)); exact Kd.zb9 HQ131.out (fun _ hk => ⟨hk.1, ⟨hk.2.1, ⟨hk.2.2.1, ⟨hk.2.2.2.1, ⟨hk.2.2.2.2.1, hk.2.2.2.2.2.1⟩⟩⟩⟩⟩)⟩, ⟨by (with_reducible repeat (first | apply Kd.V_alloc | apply Kd.zak | apply Kd.zam)); exact Kd.zar (Kd.za0 (p := ⟨go113, (t228 : Int).toNat * 3 + 2, none⟩) (Kd.zar HO_228002.out (fun k_ hk => (⟨hk, fun e_ => hk.2.1 (by rw [e_]; rfl)⟩ : _ ∧ k_ ≠ go113))) (fun _ hk => hk.2) ((.slice AvHO236 t234.length cvHO236))) (fun _ hk => ⟨hk.1.1, ⟨hk.1.2.1, ⟨hk.1.2.2.1, ⟨hk.1.2.2.2.1, ⟨hk.1.2.2.2.2.1, ⟨hk.1.2.2.2.2.2.1, hk.1.2.2.2.2.2.2.1⟩⟩⟩⟩⟩⟩)⟩, ⟨by (with_reducible repeat (first | refine zae ?_ _ | refine zac ?_ | refine zad ?_ _)); refine zaj ?_ (by have h_ := Kd.zf3 HO_217000.out (fun _ hk => hk.2.1); intro e_; exact h_ (by rw [e_]; rfl)) _; (with_reducible repeat (first | refine zae ?_ _ | refine zac ?_ | refine zad ?_ _)); exact BK213.out⟩, ⟨by (with_reducible repeat (first | refine zae ?_ _ | refine zac ?_ | refine zad ?_ _)); refine zaj ?_ (by have h_ := Kd.zf3 HO_217000.out (fun _ hk => hk.2.2.1); intro e_; exact h_ (by rw [e_]; rfl)) _; (with_reducible repeat (first | refine zae ?_ _ | refine zac ?_ | refine zad ?_ _)); exact BK214.out⟩, ⟨by (with_reducible repeat (first | refine zae ?_ _ | refine zac ?_ | refine zad ?_ _)); refine zaj ?_ (by have h_ := Kd.zf3 HO_217000.out (fun _ hk => hk.2.2.2.1); intro e_; exact h_ (by rw [e_]; rfl)) _; (with_reducible repeat (first | refine zae ?_ _ | refine zac ?_ | refine zad ?_ _)); exact BK215.out⟩, ⟨by (with_reducible repeat (first | refine zae ?_ _ | refine zac ?_ | refine zad ?_ _)); refine zaj ?_ (by have h_ := Kd.zf3 HO_217000.out (fun _ hk => hk.2.2.2.2.1); intro e_; exact h_ (by rw [e_]; rfl)) _; (with_reducible repeat (first | refine zae ?_ _ | refine zac ?_ | refine zad ?_ _)); exact BK216.out⟩, ⟨by (with_reducible repeat (first | refine zae ?_ _ | refine zac ?_ | refine zad ?_ _)); refine zaj ?_ (by have h_ := Kd.zf3 HO_217000.out (fun _ hk => hk.2.2.2.2.2.1); intro e_; exact h_ (by rw [e_]; rfl)) _; (with_reducible repeat (first | refine zae ?_ _ | refine zac ?_ | refine zad ?_ _)); exact BK227.out⟩, ⟨by repeat (first | (with_reducible first | exact HB.out | apply za8 | apply za2 | apply zav | refine zau ?_ GB113.out | refine zau ?_ GE213.out | refine zau ?_ GE214.out | refine zau ?_ GE215.out | refine zau ?_ GE216.out | refine zau ?_ GE227.out | refine zau ?_ GE231.out) | exact HB.out)⟩⟩
                ·rw [if_neg c110] at H
                 exact absurd H (by simp)
               ·rw [if_neg c109] at H
                exact absurd H (by simp)
              ·rw [if_neg c108] at H
               exact absurd H (by simp)
             ·rw [if_neg c107] at H
              exact absurd H (by simp)
            ·rw [if_neg c106] at H
             exact absurd H (by simp)
           ·rw [if_neg c105] at H
            have c105b0 := decide_eq_false c105
            clear c105
            have H' := zab.mk H
            clear H
            have hnb132 := NB227_213.out
            have hnc132 := NB213_227.out
            have hnb133 := NB227_214.out
            have hnc133 := NB214_227.out
            have hnb134 := NB227_215.out
            have hnc134 := NB215_227.out
            have hnb135 := NB227_216.out
            have hnc135 := NB216_227.out
            obtain ⟨hcz136_0, hfz136_0, hcz136_1, hfz136_1, hcz136_2, hfz136_2⟩ := Yc3 BK227.out
            obtain ⟨Ao137, co137, eo137⟩ := Kd.zbz HO_228002.out
            subst eo137;go_wp2
            go_roundg k3
            case measure => have := HK1.out; have := HK2.out; have := HK3.out; omega
            case rel => exact ⟨(wrap64 (x9_2 + 1)), (x214000_3), (x215000_3), (x217000_3), (u214000), (u215000), (u217000), Yfs, H', ⟨by have := HK1.out; have := HK2.out; have := HK3.out; omega⟩, ⟨by (with_reducible repeat (first | apply Kd.V_alloc | apply Kd.zak | apply Kd.zam)); exact Kd.zar HO_214000.out (fun _ hk => ⟨hk.1, ⟨hk.2.1, ⟨hk.2.2.1, ⟨hk.2.2.2.1, ⟨hk.2.2.2.2.1, hk.2.2.2.2.2.1⟩⟩⟩⟩⟩)⟩, ⟨by (with_reducible repeat (first | apply Kd.V_alloc | apply Kd.zak | apply Kd.zam)); exact Kd.zar HO_215000.out (fun _ hk => ⟨hk.1, ⟨hk.2.1, ⟨hk.2.2.1, ⟨hk.2.2.2.1, ⟨hk.2.2.2.2.1, hk.2.2.2.2.2.1⟩⟩⟩⟩⟩)⟩, ⟨by (with_reducible repeat (first | apply Kd.N_alloc | apply Kd.N_drewN | apply Kd.zcr)); exact Kd.zb9 HO_217000.out (fun _ hk => ⟨hk.1, ⟨hk.2.1, ⟨hk.2.2.1, ⟨hk.2.2.2.1, hk.2.2.2.2.1⟩⟩⟩⟩)⟩, ⟨Yg BK213⟩, ⟨Yg BK214⟩, ⟨Yg BK215⟩, ⟨Yg BK216⟩, ⟨Yb_PGssPushesx8_5⟩⟩
        ·rw [if_neg c87] at H
         exact absurd H (by simp)
       ·rw [if_neg c86] at H
        have c86b0 := decide_eq_false c86
        clear c86;obtain rfl := Option.some.inj H
        have hnb138 := NB214_213.out
        have hnc138 := NB213_214.out
        have hnb139 := NB214_215.out
        have hnc139 := NB215_214.out
        have hnb140 := NB214_216.out
        have hnc140 := NB216_214.out
        obtain ⟨hcz141_0, hfz141_0⟩ := Yc1 BK214.out
        obtain ⟨Ao142, co142, eo142⟩ := Kd.zbz HO_215000.out
        subst eo142
        have hnb143 := NB216_213.out
        have hnc143 := NB213_216.out
        have hnb144 := NB216_215.out
        have hnc144 := NB215_216.out
        obtain ⟨hcz145_0, hfz145_0⟩ := Yc1 BK216.out
        obtain ⟨Ao146, co146, eo146⟩ := Kd.zeh HO_217000.out
        subst eo146
        have hnb147 := NB215_213.out
        have hnc147 := NB213_215.out
        obtain ⟨hcz148_0, hfz148_0⟩ := Yc1 BK215.out
        go_wp2
        refine bodyPost_ret (results_cell_row rfl _ _ gb215 24 #[.slice Ao146 x217000_2.length co146] (0, 0) _ rfl (by (with_reducible repeat (first | refine zae ?_ _ | refine zac ?_ | refine zad ?_ _)); refine zas (cs := #[.slice none 0 0]) ?_ 0 _ rfl; (with_reducible repeat (first | refine zae ?_ _ | refine zac ?_ | refine zad ?_ _)); exact BK215.out) Try.underlying24 rfl (by kernel_rfl)) rfl ?_
        exact ⟨_, by first | rfl | (simp [errW_none, errW_some] <;> rfl) | (simp [*, errW_none, errW_some] <;> rfl), Kd.N_V (by (with_reducible repeat (first | apply Kd.N_alloc | apply Kd.N_drewN | apply Kd.zcr)); exact Kd.zb9 (Kd.zds (p := ⟨gb215, 0, none⟩) (Kd.zb9 HO_217000.out (fun k_ hk => (⟨hk, hk.2.2.2.1⟩ : _ ∧ k_ ≠ gb215))) (fun _ hk => hk.2) (.slice Ao146 x217000_2.length co146)) (fun _ hk => hk.1.1)), Yb_PGssPushesx8_3⟩
    ·rw [if_neg c74] at H
     exact absurd H (by simp)
end Go.Proofs.ZZ.PGssPushes
end
