/- Laid by this work's own program gp.py, in the form of the kit's print, with some functions told by hand. -/
import Derived.Test.YtebphbnkogianaaPSpanSizesx0
import Derived.Test.YtebphbnkogianaaPSpanSizesx1
import Derived.Test.YtebphbnkogianaaPSpanSizesx2
import Derived.Test.YtebphbnkogianaaPSpanSizesx3
namespace Go.Proofs.Ytebphbnkogianaa.PSpanSizes
open Go.RowKit Go.Proofs.YtebphbnkogianaaW.PrintWords Go.Proofs.YtebphbnkogianaaW.PrintLast Go.Proofs.YtebphbnkogianaaW.PrintMore
attribute [local go_sem] max2_int min2_int max_two min_two max_three min_three max_four min_four   -- for this text's walks alone
set_option linter.unusedVariables false
set_option linter.unusedSimpArgs false

attribute [local go_sem high] eqA34
/-! ### brambleref02_Same: function 19 -/
def brambleref02_Same.l0 : Nat → List (S34) → List (S34) → Int → Option (Bool)
  | 0, _, _, _ => none
  | k + 1, x0, x1, x5 => if x5 < (x0.length : Int) then (if 0 ≤ x5 then (if x5 < (x1.length : Int) then (if (!(((rd_T34 x0 x5).f0) == ((rd_T34 x1 x5).f0)) || (!(((rd_T34 x0 x5).f1) == ((rd_T34 x1 x5).f1)))) = true then (some false) else (brambleref02_Same.l0 k x0 x1 (wrap64 (x5 + 1)))) else (none)) else (none)) else (some true)
def brambleref02_Same.f (k : Nat) (l0 : List (S34)) (l1 : List (S34)) : Option (Bool) := if (l0.length : Int) = (l1.length : Int) then (brambleref02_Same.l0 k l0 l1 0) else (some false)
theorem brambleref02_Same.mono_l : ∀ k, (∀ y0 y1 y2, LeO (brambleref02_Same.l0 k y0 y1 y2) (brambleref02_Same.l0 (k + 1) y0 y1 y2))
  | 0 => fun _ _ _ r h => by simp [brambleref02_Same.l0] at h
  | k + 1 => by
    have ih0 := brambleref02_Same.mono_l k
    · intro y0 y1 y2
      unfold brambleref02_Same.l0
      repeat' first
      | (with_reducible exact ih0 _ _ _)
      | (with_reducible exact LeO.refl _)
      | (with_reducible exact LeO.none _)
      | (with_reducible refine LeO.ite ?_ ?_)
      | (with_reducible refine LeO.bind ?_ (fun _ => ?_))
      | exact ih0 _ _ _
      | exact LeO.none _
      | refine LeO.ite ?_ ?_
      | refine LeO.bind ?_ (fun _ => ?_)
theorem brambleref02_Same.mono : ∀ a0 a1 k, LeO (brambleref02_Same.f k a0 a1) (brambleref02_Same.f (k + 1) a0 a1) := by
  intro a0 a1 k
  have ih0 := brambleref02_Same.mono_l k
  unfold brambleref02_Same.f
  repeat' first
      | (with_reducible exact ih0 _ _ _)
      | (with_reducible exact LeO.refl _)
      | (with_reducible exact LeO.none _)
      | (with_reducible refine LeO.ite ?_ ?_)
      | (with_reducible refine LeO.bind ?_ (fun _ => ?_))
      | exact ih0 _ _ _
      | exact LeO.none _
      | refine LeO.ite ?_ ?_
      | refine LeO.bind ?_ (fun _ => ?_)
set_option maxHeartbeats 8000000 in
set_option maxRecDepth 100000 in
theorem brambleref02_Same.calls (k : Nat) (A0 : Option Addr) (c0 : Nat) (l0 : List (S34)) (A1 : Option Addr) (c1 : Nat) (l1 : List (S34)) (r : Bool) (w : World) (hr0 : Kd.C k34 w A0 l0.length l0) (hc0 : l0.length ≤ c0) (hr1 : Kd.C k34 w A1 l1.length l1) (hc1 : l1.length ≤ c1) (h : brambleref02_Same.f k l0 l1 = some r) :
    Calls Try.prog 19 #[.slice A0 l0.length c0, .slice A1 l1.length c1] w fun e w' => e = .returned (.bool r) ∧ Drawn0 w w' := by
  have hu34 := Try.underlying34
  have HR0 := Aside0.mk hr0
  have HC0 := Aside0.mk hc0
  clear hr0 hc0
  have HR1 := Aside0.mk hr1
  have HC1 := Aside0.mk hc1
  clear hr1 hc1
  have H : (if (l0.length : Int) = (l1.length : Int) then (brambleref02_Same.l0 k l0 l1 0) else (some false)) = some r := h
  clear h
  by_cases c3 : (l0.length : Int) = (l1.length : Int)
  · rw [if_pos c3] at H
    have c3b0 : ((l0.length : Int) == (l1.length : Int)) = true := beq_iff_eq.mpr c3
    have c3b1 : ((l0.length : Int) != (l1.length : Int)) = false := bne_eq_false_iff_eq.mpr c3
    have c3b2 : (l0.length == l1.length) = true := by first | simpa using c3 | (simp at c3 ⊢; omega)
    clear c3
    have H' := Aside0.mk H
    clear H
    go_enter Try.func19, Try.ntmps19
    go_wp2
    repeat (go_quiet (fail); try go_wp2)
    go_loopg [5] k (fun kq v5 w' => ∃ (x5_1 : Int), v5 = .int .i64 x5_1 ∧ Aside0 (brambleref02_Same.l0 kq l0 l1 x5_1 = some r) ∧ Aside0 (kq ≤ k) ∧ Drawn0 w w')
    case atStart => exact ⟨(0), (by first | rfl | (simp; done) | (simp [*]; done)), H', ⟨Nat.le_refl _⟩, by repeat (first | exact Drawn0.refl _ | apply Drawn0.step)⟩
    case round =>
      clear H'
      try clear c1
      try clear p2
      try clear c3
      try clear c3b0
      try clear c3b1
      try clear c3b2
      obtain ⟨x5_1, rfl, HA, HK1, ⟨m1, rfl⟩⟩ := hrel
      cases gk with
      | zero => exact absurd HA.out (by simp [brambleref02_Same.l0])
      | succ k1 =>
        have H := HA.out
        clear HA
        simp only [brambleref02_Same.l0] at H
        by_cases c4 : x5_1 < (l0.length : Int)
        · rw [if_pos c4] at H
          have c4b0 : decide (x5_1 < (l0.length : Int)) = true := decide_eq_true c4
          clear c4
          by_cases c5 : 0 ≤ x5_1
          · rw [if_pos c5] at H
            have c5b0 : decide (0 ≤ x5_1) = true := decide_eq_true c5
            clear c5
            by_cases c6 : x5_1 < (l1.length : Int)
            · rw [if_pos c6] at H
              have c6b0 : decide (x5_1 < (l1.length : Int)) = true := decide_eq_true c6
              clear c6
              by_cases c7 : (!(((rd_T34 l0 x5_1).f0) == ((rd_T34 l1 x5_1).f0)) || (!(((rd_T34 l0 x5_1).f1) == ((rd_T34 l1 x5_1).f1)))) = true
              · rw [if_pos c7] at H
                have c7b0 : (!(((rd_T34 l0 x5_1).f0) == ((rd_T34 l1 x5_1).f0)) || (!(((rd_T34 l0 x5_1).f1) == ((rd_T34 l1 x5_1).f1)))) = true := c7
                clear c7
                obtain rfl := Option.some.inj H
                have p122 : 0 ≤ (x5_1 : Int) := of_decide_eq_true (by first | (with_reducible assumption) | assumption)
                have q122 : x5_1 < (l0.length : Int) := of_decide_eq_true (by first | (with_reducible assumption) | assumption)
                obtain ⟨ad122, e122, hx122_0, hx122_1⟩ := at_T34 HR0.out x5_1 p122 q122
                cases e122
                replace p122 := eq_true p122
                replace q122 := eq_true q122
                have p123 : 0 ≤ (x5_1 : Int) := of_decide_eq_true (by first | (with_reducible assumption) | assumption)
                have q123 : x5_1 < (l1.length : Int) := of_decide_eq_true (by first | (with_reducible assumption) | assumption)
                obtain ⟨ad123, e123, hx123_0, hx123_1⟩ := at_T34 HR1.out x5_1 p123 q123
                cases e123
                replace p123 := eq_true p123
                replace q123 := eq_true q123
                go_wp2
                repeat (go_quiet (fail); try go_wp2)
                go_ret
                exact ⟨by first | rfl | (simp; done) | (simp [*]; done), by repeat (first | exact Drawn0.refl _ | apply Drawn0.step)⟩
              · rw [if_neg c7] at H
                have c7b0 : (!(((rd_T34 l0 x5_1).f0) == ((rd_T34 l1 x5_1).f0)) || (!(((rd_T34 l0 x5_1).f1) == ((rd_T34 l1 x5_1).f1)))) = false := by simpa using c7
                clear c7
                have H' := Aside0.mk H
                clear H
                have p122 : 0 ≤ (x5_1 : Int) := of_decide_eq_true (by first | (with_reducible assumption) | assumption)
                have q122 : x5_1 < (l0.length : Int) := of_decide_eq_true (by first | (with_reducible assumption) | assumption)
                obtain ⟨ad122, e122, hx122_0, hx122_1⟩ := at_T34 HR0.out x5_1 p122 q122
                cases e122
                replace p122 := eq_true p122
                replace q122 := eq_true q122
                have p123 : 0 ≤ (x5_1 : Int) := of_decide_eq_true (by first | (with_reducible assumption) | assumption)
                have q123 : x5_1 < (l1.length : Int) := of_decide_eq_true (by first | (with_reducible assumption) | assumption)
                obtain ⟨ad123, e123, hx123_0, hx123_1⟩ := at_T34 HR1.out x5_1 p123 q123
                cases e123
                replace p123 := eq_true p123
                replace q123 := eq_true q123
                go_wp2
                repeat (go_quiet (fail); try go_wp2)
                go_roundg k1
                case measure => have := HK1.out; omega
                case rel => exact ⟨(wrap64 (x5_1 + 1)), (by first | rfl | (simp; done) | (simp [*]; done)), H', ⟨by have := HK1.out; omega⟩, by repeat (first | exact Drawn0.refl _ | apply Drawn0.step)⟩
            · rw [if_neg c6] at H
              exact absurd H (by simp)
          · rw [if_neg c5] at H
            exact absurd H (by simp)
        · rw [if_neg c4] at H
          have c4b0 : decide (x5_1 < (l0.length : Int)) = false := decide_eq_false c4
          clear c4
          obtain rfl := Option.some.inj H
          go_wp2
          repeat (go_quiet (fail); try go_wp2)
          go_ret
          exact ⟨by first | rfl | (simp; done) | (simp [*]; done), by repeat (first | exact Drawn0.refl _ | apply Drawn0.step)⟩
  · rw [if_neg c3] at H
    have c3b0 : ((l0.length : Int) == (l1.length : Int)) = false := beq_eq_false_iff_ne.mpr c3
    have c3b1 : ((l0.length : Int) != (l1.length : Int)) = true := bne_iff_ne.mpr c3
    have c3b2 : (l0.length == l1.length) = false := by first | simpa using c3 | (simp at c3 ⊢; omega)
    obtain rfl := Option.some.inj H
    go_enter Try.func19, Try.ntmps19
    go_wp2
    repeat (go_quiet (fail); try go_wp2)
    go_ret
    exact ⟨by first | rfl | (simp; done) | (simp [*]; done), by repeat (first | exact Drawn0.refl _ | apply Drawn0.step)⟩

/-! ### bramblelaw02_awake: function 9 -/
def bramblelaw02_awake.f (k : Nat)  : Option (Bool) := (span_Norm.f k (([(⟨5, 7⟩ : S34), (⟨1, 3⟩ : S34), (⟨3, 4⟩ : S34)] : List (S34)))).bind fun t127 => ((span_Outer.f k t127 3).bind fun bt130 => ((brambleref02_Same.f k t127 (([(⟨1, 4⟩ : S34), (⟨5, 7⟩ : S34)] : List (S34)))).bind fun t135 => (if t135 = true then (if bt130.1 = 5 then (if bt130.2 = true then ((span_Text.f (⟨#[97, 98, 99, 100, 101, 102, 103, 104]⟩ : ByteArray) t127).bind fun t136 => (if t136.toList = ([98, 99, 100, 102, 103] : List UInt8) then ((span_Size.f k t127).bind fun t137 => (some (t137 == 5))) else (some false))) else (some false)) else (some false)) else (some false))))
theorem bramblelaw02_awake.mono : ∀ k, LeO (bramblelaw02_awake.f k ) (bramblelaw02_awake.f (k + 1) ) := by
  intro  k
  unfold bramblelaw02_awake.f
  repeat' first
      | (with_reducible exact brambleref02_Same.mono _ _ _)
      | (with_reducible exact span_Norm.mono _ _)
      | (with_reducible exact span_Outer.mono _ _ _)
      | (with_reducible exact span_Size.mono _ _)
      | (with_reducible exact LeO.refl _)
      | (with_reducible exact LeO.none _)
      | (with_reducible refine LeO.ite ?_ ?_)
      | (with_reducible refine LeO.bind ?_ (fun _ => ?_))
      | exact brambleref02_Same.mono _ _ _
      | exact span_Norm.mono _ _
      | exact span_Outer.mono _ _ _
      | exact span_Size.mono _ _
      | exact LeO.none _
      | refine LeO.ite ?_ ?_
      | refine LeO.bind ?_ (fun _ => ?_)
set_option maxHeartbeats 8000000 in
set_option maxRecDepth 100000 in
theorem bramblelaw02_awake.calls (k : Nat)  (r : Bool) (w : World) (h : bramblelaw02_awake.f k  = some r) :
    Calls Try.prog 9 #[] w fun e w' => e = .returned (.bool r) ∧ Below w.heap.size w w' := by
  have hu34 := Try.underlying34
  have HB := Aside0.mk (Below.refl w.heap.size w)
  have H : ((span_Norm.f k (([(⟨5, 7⟩ : S34), (⟨1, 3⟩ : S34), (⟨3, 4⟩ : S34)] : List (S34)))).bind fun t127 => ((span_Outer.f k t127 3).bind fun bt130 => ((brambleref02_Same.f k t127 (([(⟨1, 4⟩ : S34), (⟨5, 7⟩ : S34)] : List (S34)))).bind fun t135 => (if t135 = true then (if bt130.1 = 5 then (if bt130.2 = true then ((span_Text.f (⟨#[97, 98, 99, 100, 101, 102, 103, 104]⟩ : ByteArray) t127).bind fun t136 => (if t136.toList = ([98, 99, 100, 102, 103] : List UInt8) then ((span_Size.f k t127).bind fun t137 => (some (t137 == 5))) else (some false))) else (some false)) else (some false)) else (some false))))) = some r := h
  clear h
  obtain ⟨y124, hy124⟩ : ∃ y_ : List (S34), y_ = (([(⟨5, 7⟩ : S34), (⟨1, 3⟩ : S34), (⟨3, 4⟩ : S34)] : List (S34))) := ⟨_, rfl⟩
  replace H : ((span_Norm.f k y124).bind fun t127 => ((span_Outer.f k t127 3).bind fun bt130 => ((brambleref02_Same.f k t127 (([(⟨1, 4⟩ : S34), (⟨5, 7⟩ : S34)] : List (S34)))).bind fun t135 => (if t135 = true then (if bt130.1 = 5 then (if bt130.2 = true then ((span_Text.f (⟨#[97, 98, 99, 100, 101, 102, 103, 104]⟩ : ByteArray) t127).bind fun t136 => (if t136.toList = ([98, 99, 100, 102, 103] : List UInt8) then ((span_Size.f k t127).bind fun t137 => (some (t137 == 5))) else (some false))) else (some false)) else (some false)) else (some false))))) = some r := by first | (rw [hy124]; with_reducible exact H) | (have H2_ := (Option.bind_some _ _).symm.trans H; rw [hy124]; with_reducible exact H2_) | (have H2_ := (Option.bind_some _ _).symm.trans H; with_reducible exact H2_) | with_reducible exact H | (rw [hy124]; exact H) | exact H
  have Ny124 := Aside0.mk hy124
  clear hy124
  replace H := Option.bind_eq_some_iff.mp H
  obtain ⟨t127, A10, H⟩ := H
  replace H : ((span_Outer.f k t127 3).bind fun bt130 => ((brambleref02_Same.f k t127 (([(⟨1, 4⟩ : S34), (⟨5, 7⟩ : S34)] : List (S34)))).bind fun t135 => (if t135 = true then (if bt130.1 = 5 then (if bt130.2 = true then ((span_Text.f (⟨#[97, 98, 99, 100, 101, 102, 103, 104]⟩ : ByteArray) t127).bind fun t136 => (if t136.toList = ([98, 99, 100, 102, 103] : List UInt8) then ((span_Size.f k t127).bind fun t137 => (some (t137 == 5))) else (some false))) else (some false)) else (some false)) else (some false)))) = some r := H
  have A1 := Aside0.mk A10
  clear A10
  replace H := Option.bind_eq_some_iff.mp H
  obtain ⟨⟨t130, t131⟩, A20, H⟩ := H
  replace H : ((brambleref02_Same.f k t127 (([(⟨1, 4⟩ : S34), (⟨5, 7⟩ : S34)] : List (S34)))).bind fun t135 => (if t135 = true then (if t130 = 5 then (if t131 = true then ((span_Text.f (⟨#[97, 98, 99, 100, 101, 102, 103, 104]⟩ : ByteArray) t127).bind fun t136 => (if t136.toList = ([98, 99, 100, 102, 103] : List UInt8) then ((span_Size.f k t127).bind fun t137 => (some (t137 == 5))) else (some false))) else (some false)) else (some false)) else (some false))) = some r := H
  have A2 := Aside0.mk A20
  clear A20
  obtain ⟨y132, hy132⟩ : ∃ y_ : List (S34), y_ = (([(⟨1, 4⟩ : S34), (⟨5, 7⟩ : S34)] : List (S34))) := ⟨_, rfl⟩
  replace H : ((brambleref02_Same.f k t127 y132).bind fun t135 => (if t135 = true then (if t130 = 5 then (if t131 = true then ((span_Text.f (⟨#[97, 98, 99, 100, 101, 102, 103, 104]⟩ : ByteArray) t127).bind fun t136 => (if t136.toList = ([98, 99, 100, 102, 103] : List UInt8) then ((span_Size.f k t127).bind fun t137 => (some (t137 == 5))) else (some false))) else (some false)) else (some false)) else (some false))) = some r := by first | (rw [hy132]; with_reducible exact H) | (have H2_ := (Option.bind_some _ _).symm.trans H; rw [hy132]; with_reducible exact H2_) | (have H2_ := (Option.bind_some _ _).symm.trans H; with_reducible exact H2_) | with_reducible exact H | (rw [hy132]; exact H) | exact H
  have Ny132 := Aside0.mk hy132
  clear hy132
  replace H := Option.bind_eq_some_iff.mp H
  obtain ⟨t135, A30, H⟩ := H
  replace H : (if t135 = true then (if t130 = 5 then (if t131 = true then ((span_Text.f (⟨#[97, 98, 99, 100, 101, 102, 103, 104]⟩ : ByteArray) t127).bind fun t136 => (if t136.toList = ([98, 99, 100, 102, 103] : List UInt8) then ((span_Size.f k t127).bind fun t137 => (some (t137 == 5))) else (some false))) else (some false)) else (some false)) else (some false)) = some r := H
  have A3 := Aside0.mk A30
  clear A30
  by_cases c4 : t135 = true
  · subst c4
    have H1 : (if t130 = 5 then (if t131 = true then ((span_Text.f (⟨#[97, 98, 99, 100, 101, 102, 103, 104]⟩ : ByteArray) t127).bind fun t136 => (if t136.toList = ([98, 99, 100, 102, 103] : List UInt8) then ((span_Size.f k t127).bind fun t137 => (some (t137 == 5))) else (some false))) else (some false)) else (some false)) = some r := by rw [if_pos rfl] at H; exact H
    clear H
    have H := H1
    clear H1
    by_cases c5 : t130 = 5
    · rw [if_pos c5] at H
      have c5b0 : (t130 == 5) = true := beq_iff_eq.mpr c5
      have c5b1 : (t130 != 5) = false := bne_eq_false_iff_eq.mpr c5
      clear c5
      by_cases c6 : t131 = true
      · subst c6
        have H1 : ((span_Text.f (⟨#[97, 98, 99, 100, 101, 102, 103, 104]⟩ : ByteArray) t127).bind fun t136 => (if t136.toList = ([98, 99, 100, 102, 103] : List UInt8) then ((span_Size.f k t127).bind fun t137 => (some (t137 == 5))) else (some false))) = some r := by rw [if_pos rfl] at H; exact H
        clear H
        have H := H1
        clear H1
        replace H := Option.bind_eq_some_iff.mp H
        obtain ⟨t136, A70, H⟩ := H
        replace H : (if t136.toList = ([98, 99, 100, 102, 103] : List UInt8) then ((span_Size.f k t127).bind fun t137 => (some (t137 == 5))) else (some false)) = some r := H
        have A7 := Aside0.mk A70
        clear A70
        by_cases c8 : t136.toList = ([98, 99, 100, 102, 103] : List UInt8)
        · rw [if_pos c8] at H
          have c8b0 : (t136.toList == ([98, 99, 100, 102, 103] : List UInt8)) = true := beq_iff_eq.mpr c8
          have c8b1 : (t136.toList != ([98, 99, 100, 102, 103] : List UInt8)) = false := bne_eq_false_iff_eq.mpr c8
          clear c8
          replace H := Option.bind_eq_some_iff.mp H
          obtain ⟨t137, A90, H⟩ := H
          replace H : (some (t137 == 5)) = some r := H
          have A9 := Aside0.mk A90
          clear A90
          obtain rfl := Option.some.inj H
          go_enter Try.func9, Try.ntmps9
          go_wp2_with (first | ((with_reducible refine gate_dst (N := 7) rfl ?_); refine Kd.R_lit k34 _ 34 ?hg (N := 7) ?hd (xs := ([(⟨5, 7⟩ : S34), (⟨1, 3⟩ : S34), (⟨3, 4⟩ : S34)] : List (S34))) (inner := [.int .i64 5, .int .i64 7, .int .i64 1, .int .i64 3, .int .i64 3, .int .i64 4]) (ok := fun _ => True) (okp := fun _ => True) ?hr ?hp (fun _ hk => hk) trivial (Below.refl _ _) (Nat.le_refl _) (by simp) ?_; (case hd => rfl); (case hg => rfl); (case hr => first | (go_simp; done) | (go_simp; rfl)); (case hp => exact (Reps.c2 (show Kd.M k34 _ _ _ (⟨5, 7⟩ : S34) [.int .i64 5, .int .i64 7] from (k34_mkM _ _ _ (⟨5, 7⟩ : S34) )) (Reps.c2 (show Kd.M k34 _ _ _ (⟨1, 3⟩ : S34) [.int .i64 1, .int .i64 3] from (k34_mkM _ _ _ (⟨1, 3⟩ : S34) )) (Reps.c2 (show Kd.M k34 _ _ _ (⟨3, 4⟩ : S34) [.int .i64 3, .int .i64 4] from (k34_mkM _ _ _ (⟨3, 4⟩ : S34) )) (Reps.none _ _))))); intro v125 w10 ho11 hb hg_ hnew_; clear hg_ hnew_; (first | rw [← Ny124.out] at ho11 | (simp only [Int.reduceToNat] at ho11; rw [← Ny124.out] at ho11)); have n0_ := Aside0.mk (Kd.R_lower ho11 (below_size (by repeat (first | (with_reducible first | exact HB.out | apply below_alloc | apply pw_below_drewN | apply below_drew1) | exact HB.out)))); have n1_ := Aside0.mk (below_step (by repeat (first | (with_reducible first | exact HB.out | apply below_alloc | apply pw_below_drewN | apply below_drew1) | exact HB.out)) hb); clear HB; have HO126 := n0_; have HB := n1_; clear n0_ n1_; clear hb ho11; obtain ⟨Ao12, co12, eo12⟩ := Kd.R_slice HO126.out; subst eo12) | ((with_reducible refine gate_callee (f := 15) rfl ?_); refine goesL_ (some 8) rfl rfl Try.func15 (by kernel_rfl) rfl #[.slice Ao12 y124.length co12] rfl (by (try simp only [List.map_toArray, List.map_cons, List.map_nil]); first | done | rfl | (simp only [List.length_drop, List.length_take]; rfl)) ?_; (with_reducible refine (span_Norm.calls k _ _ y124 t127 _ ?side1 ?side2 A1.out).mono ?_); (case side1 => repeat (first | exact (Kd.R_reads' HO126.out).2.2 | (with_reducible refine Kd.C_alloc ?_ _) | (with_reducible refine Kd.C_drewN ?_ _) | (with_reducible refine Kd.C_drew ?_))); (case side2 => exact (Kd.R_reads' HO126.out).2.1); rintro e w13 ⟨v128, rfl, ho0, hb⟩; refine ⟨_, rfl, ?_⟩; have n0_ := Aside0.mk (Kd.R_elder' (by (with_reducible repeat (first | apply Kd.R_alloc | apply Kd.R_drewN | apply Kd.R_drew)); exact HO126.out) (Kd.R_base ho0) hb); have n1_ := Aside0.mk (Kd.R_lower (Kd.R_new' ho0 (Kd.R_lt (by (with_reducible repeat (first | apply Kd.R_alloc | apply Kd.R_drewN | apply Kd.R_drew)); exact HO126.out))) (below_size (by repeat (first | (with_reducible first | exact HB.out | apply below_alloc | apply pw_below_drewN | apply below_drew1) | exact HB.out)))); have n2_ := Aside0.mk (below_step (by repeat (first | (with_reducible first | exact HB.out | apply below_alloc | apply pw_below_drewN | apply below_drew1) | exact HB.out)) hb); clear HO126; clear HB; have HO126 := n0_; have HO129 := n1_; have HB := n2_; clear n0_ n1_ n2_; (try clear hb); (try clear hb2); (try clear hk); (try clear hi); (try clear ho0); obtain ⟨Ao14, co14, eo14⟩ := Kd.R_slice HO129.out; subst eo14) | ((with_reducible refine gate_callee (f := 11) rfl ?_); refine goesL_ (some 11) rfl rfl Try.func11 (by kernel_rfl) rfl #[.slice Ao14 t127.length co14, .int .i64 3] rfl (by (try simp only [List.map_toArray, List.map_cons, List.map_nil]); first | done | rfl | (simp only [List.length_drop, List.length_take]; rfl)) ?_; (with_reducible refine (span_Outer.calls k _ _ t127 3 t130 true _ ?side1 ?side2 A2.out).mono ?_); (case side1 => repeat (first | exact (Kd.R_reads' HO129.out).2.2 | (with_reducible refine Kd.C_alloc ?_ _) | (with_reducible refine Kd.C_drewN ?_ _) | (with_reducible refine Kd.C_drew ?_))); (case side2 => exact (Kd.R_reads' HO129.out).2.1); rintro e w15 ⟨rfl, hb⟩; refine ⟨_, rfl, ?_⟩; have n0_ := Aside0.mk (Kd.R_below (by (with_reducible repeat (first | apply Kd.R_alloc | apply Kd.R_drewN | apply Kd.R_drew)); exact HO126.out) hb); have n1_ := Aside0.mk (Kd.R_below (by (with_reducible repeat (first | apply Kd.R_alloc | apply Kd.R_drewN | apply Kd.R_drew)); exact HO129.out) hb); have n2_ := Aside0.mk (below_step (by repeat (first | (with_reducible first | exact HB.out | apply below_alloc | apply pw_below_drewN | apply below_drew1) | exact HB.out)) hb); clear HO126; clear HO129; clear HB; have HO126 := n0_; have HO129 := n1_; have HB := n2_; clear n0_ n1_ n2_; (try clear hb); (try clear hb2); (try clear hk); (try clear hi)) | ((with_reducible refine gate_dst (N := 17) rfl ?_); refine Kd.R_lit k34 _ 34 ?hg (N := 17) ?hd (xs := ([(⟨1, 4⟩ : S34), (⟨5, 7⟩ : S34)] : List (S34))) (inner := [.int .i64 1, .int .i64 4, .int .i64 5, .int .i64 7]) (ok := fun _ => True) (okp := fun _ => True) ?hr ?hp (fun _ hk => hk) trivial (Below.refl _ _) (Nat.le_refl _) (by simp) ?_; (case hd => rfl); (case hg => rfl); (case hr => first | (go_simp; done) | (go_simp; rfl)); (case hp => exact (Reps.c2 (show Kd.M k34 _ _ _ (⟨1, 4⟩ : S34) [.int .i64 1, .int .i64 4] from (k34_mkM _ _ _ (⟨1, 4⟩ : S34) )) (Reps.c2 (show Kd.M k34 _ _ _ (⟨5, 7⟩ : S34) [.int .i64 5, .int .i64 7] from (k34_mkM _ _ _ (⟨5, 7⟩ : S34) )) (Reps.none _ _)))); intro v133 w16 ho17 hb hg_ hnew_; clear hg_ hnew_; (first | rw [← Ny132.out] at ho17 | (simp only [Int.reduceToNat] at ho17; rw [← Ny132.out] at ho17)); have n0_ := Aside0.mk (Kd.R_elder' (by (with_reducible repeat (first | apply Kd.R_alloc | apply Kd.R_drewN | apply Kd.R_drew)); exact HO126.out) (Kd.R_base ho17) hb); have n1_ := Aside0.mk (Kd.R_elder' (by (with_reducible repeat (first | apply Kd.R_alloc | apply Kd.R_drewN | apply Kd.R_drew)); exact HO129.out) (Kd.R_base ho17) hb); have n2_ := Aside0.mk (Kd.R_lower (Kd.R_new' (Kd.R_new' ho17 (Kd.R_lt (by (with_reducible repeat (first | apply Kd.R_alloc | apply Kd.R_drewN | apply Kd.R_drew)); exact HO126.out))) (Kd.R_lt (by (with_reducible repeat (first | apply Kd.R_alloc | apply Kd.R_drewN | apply Kd.R_drew)); exact HO129.out))) (below_size (by repeat (first | (with_reducible first | exact HB.out | apply below_alloc | apply pw_below_drewN | apply below_drew1) | exact HB.out)))); have n3_ := Aside0.mk (below_step (by repeat (first | (with_reducible first | exact HB.out | apply below_alloc | apply pw_below_drewN | apply below_drew1) | exact HB.out)) hb); clear HO126; clear HO129; clear HB; have HO126 := n0_; have HO129 := n1_; have HO134 := n2_; have HB := n3_; clear n0_ n1_ n2_ n3_; clear hb ho17; obtain ⟨Ao18, co18, eo18⟩ := Kd.R_slice HO134.out; subst eo18) | ((with_reducible refine gate_callee (f := 19) rfl ?_); refine goesL_ (some 18) rfl rfl Try.func19 (by kernel_rfl) rfl #[.slice Ao14 t127.length co14, .slice Ao18 y132.length co18] rfl (by (try simp only [List.map_toArray, List.map_cons, List.map_nil]); first | done | rfl | (simp only [List.length_drop, List.length_take]; rfl)) ?_; (with_reducible refine (brambleref02_Same.calls k _ _ t127 _ _ y132 true _ ?side1 ?side2 ?side3 ?side4 A3.out).mono ?_); (case side1 => repeat (first | exact (Kd.R_reads' HO129.out).2.2 | (with_reducible refine Kd.C_alloc ?_ _) | (with_reducible refine Kd.C_drewN ?_ _) | (with_reducible refine Kd.C_drew ?_))); (case side2 => exact (Kd.R_reads' HO129.out).2.1); (case side3 => repeat (first | exact (Kd.R_reads' HO134.out).2.2 | (with_reducible refine Kd.C_alloc ?_ _) | (with_reducible refine Kd.C_drewN ?_ _) | (with_reducible refine Kd.C_drew ?_))); (case side4 => exact (Kd.R_reads' HO134.out).2.1); rintro e w' ⟨rfl, ⟨nd, rfl⟩⟩; refine ⟨_, rfl, ?_⟩) | (go_at_call 10; (with_reducible refine (span_Text.calls (⟨#[97, 98, 99, 100, 101, 102, 103, 104]⟩ : ByteArray) _ _ t127 t136 _ ?side1 ?side2 A7.out).mono ?_); (case side1 => repeat (first | exact (Kd.R_reads' HO129.out).2.2 | (with_reducible refine Kd.C_alloc ?_ _) | (with_reducible refine Kd.C_drewN ?_ _) | (with_reducible refine Kd.C_drew ?_))); (case side2 => exact (Kd.R_reads' HO129.out).2.1); rintro e w19 ⟨rfl, hb⟩; have n0_ := Aside0.mk (Kd.R_below (by (with_reducible repeat (first | apply Kd.R_alloc | apply Kd.R_drewN | apply Kd.R_drew)); exact HO126.out) hb); have n1_ := Aside0.mk (Kd.R_below (by (with_reducible repeat (first | apply Kd.R_alloc | apply Kd.R_drewN | apply Kd.R_drew)); exact HO129.out) hb); have n2_ := Aside0.mk (Kd.R_below (by (with_reducible repeat (first | apply Kd.R_alloc | apply Kd.R_drewN | apply Kd.R_drew)); exact HO134.out) hb); have n3_ := Aside0.mk (below_step (by repeat (first | (with_reducible first | exact HB.out | apply below_alloc | apply pw_below_drewN | apply below_drew1) | exact HB.out)) hb); clear HO126; clear HO129; clear HO134; clear HB; have HO126 := n0_; have HO129 := n1_; have HO134 := n2_; have HB := n3_; clear n0_ n1_ n2_ n3_; (try clear hb); (try clear hb2); (try clear hk); (try clear hi)) | (go_at_call 12; (with_reducible refine (span_Size.calls k _ _ t127 t137 _ ?side1 ?side2 A9.out).mono ?_); (case side1 => repeat (first | exact (Kd.R_reads' HO129.out).2.2 | (with_reducible refine Kd.C_alloc ?_ _) | (with_reducible refine Kd.C_drewN ?_ _) | (with_reducible refine Kd.C_drew ?_))); (case side2 => exact (Kd.R_reads' HO129.out).2.1); rintro e w20 ⟨rfl, hb⟩; have n0_ := Aside0.mk (Kd.R_below (by (with_reducible repeat (first | apply Kd.R_alloc | apply Kd.R_drewN | apply Kd.R_drew)); exact HO126.out) hb); have n1_ := Aside0.mk (Kd.R_below (by (with_reducible repeat (first | apply Kd.R_alloc | apply Kd.R_drewN | apply Kd.R_drew)); exact HO129.out) hb); have n2_ := Aside0.mk (Kd.R_below (by (with_reducible repeat (first | apply Kd.R_alloc | apply Kd.R_drewN | apply Kd.R_drew)); exact HO134.out) hb); have n3_ := Aside0.mk (below_step (by repeat (first | (with_reducible first | exact HB.out | apply below_alloc | apply pw_below_drewN | apply below_drew1) | exact HB.out)) hb); clear HO126; clear HO129; clear HO134; clear HB; have HO126 := n0_; have HO129 := n1_; have HO134 := n2_; have HB := n3_; clear n0_ n1_ n2_ n3_; (try clear hb); (try clear hb2); (try clear hk); (try clear hi)))
          go_ret
          exact ⟨by first | rfl | (simp [errW_none, errW_some] <;> rfl) | (simp [*, errW_none, errW_some] <;> rfl), by repeat (first | (with_reducible first | exact HB.out | apply below_alloc | apply pw_below_drewN | apply below_drew1) | exact HB.out)⟩
        · rw [if_neg c8] at H
          have c8b0 : (t136.toList == ([98, 99, 100, 102, 103] : List UInt8)) = false := beq_eq_false_iff_ne.mpr c8
          have c8b1 : (t136.toList != ([98, 99, 100, 102, 103] : List UInt8)) = true := bne_iff_ne.mpr c8
          obtain rfl := Option.some.inj H
          go_enter Try.func9, Try.ntmps9
          go_wp2_with (first | ((with_reducible refine gate_dst (N := 7) rfl ?_); refine Kd.R_lit k34 _ 34 ?hg (N := 7) ?hd (xs := ([(⟨5, 7⟩ : S34), (⟨1, 3⟩ : S34), (⟨3, 4⟩ : S34)] : List (S34))) (inner := [.int .i64 5, .int .i64 7, .int .i64 1, .int .i64 3, .int .i64 3, .int .i64 4]) (ok := fun _ => True) (okp := fun _ => True) ?hr ?hp (fun _ hk => hk) trivial (Below.refl _ _) (Nat.le_refl _) (by simp) ?_; (case hd => rfl); (case hg => rfl); (case hr => first | (go_simp; done) | (go_simp; rfl)); (case hp => exact (Reps.c2 (show Kd.M k34 _ _ _ (⟨5, 7⟩ : S34) [.int .i64 5, .int .i64 7] from (k34_mkM _ _ _ (⟨5, 7⟩ : S34) )) (Reps.c2 (show Kd.M k34 _ _ _ (⟨1, 3⟩ : S34) [.int .i64 1, .int .i64 3] from (k34_mkM _ _ _ (⟨1, 3⟩ : S34) )) (Reps.c2 (show Kd.M k34 _ _ _ (⟨3, 4⟩ : S34) [.int .i64 3, .int .i64 4] from (k34_mkM _ _ _ (⟨3, 4⟩ : S34) )) (Reps.none _ _))))); intro v125 w21 ho22 hb hg_ hnew_; clear hg_ hnew_; (first | rw [← Ny124.out] at ho22 | (simp only [Int.reduceToNat] at ho22; rw [← Ny124.out] at ho22)); have n0_ := Aside0.mk (Kd.R_lower ho22 (below_size (by repeat (first | (with_reducible first | exact HB.out | apply below_alloc | apply pw_below_drewN | apply below_drew1) | exact HB.out)))); have n1_ := Aside0.mk (below_step (by repeat (first | (with_reducible first | exact HB.out | apply below_alloc | apply pw_below_drewN | apply below_drew1) | exact HB.out)) hb); clear HB; have HO126 := n0_; have HB := n1_; clear n0_ n1_; clear hb ho22; obtain ⟨Ao23, co23, eo23⟩ := Kd.R_slice HO126.out; subst eo23) | ((with_reducible refine gate_callee (f := 15) rfl ?_); refine goesL_ (some 8) rfl rfl Try.func15 (by kernel_rfl) rfl #[.slice Ao23 y124.length co23] rfl (by (try simp only [List.map_toArray, List.map_cons, List.map_nil]); first | done | rfl | (simp only [List.length_drop, List.length_take]; rfl)) ?_; (with_reducible refine (span_Norm.calls k _ _ y124 t127 _ ?side1 ?side2 A1.out).mono ?_); (case side1 => repeat (first | exact (Kd.R_reads' HO126.out).2.2 | (with_reducible refine Kd.C_alloc ?_ _) | (with_reducible refine Kd.C_drewN ?_ _) | (with_reducible refine Kd.C_drew ?_))); (case side2 => exact (Kd.R_reads' HO126.out).2.1); rintro e w24 ⟨v128, rfl, ho0, hb⟩; refine ⟨_, rfl, ?_⟩; have n0_ := Aside0.mk (Kd.R_elder' (by (with_reducible repeat (first | apply Kd.R_alloc | apply Kd.R_drewN | apply Kd.R_drew)); exact HO126.out) (Kd.R_base ho0) hb); have n1_ := Aside0.mk (Kd.R_lower (Kd.R_new' ho0 (Kd.R_lt (by (with_reducible repeat (first | apply Kd.R_alloc | apply Kd.R_drewN | apply Kd.R_drew)); exact HO126.out))) (below_size (by repeat (first | (with_reducible first | exact HB.out | apply below_alloc | apply pw_below_drewN | apply below_drew1) | exact HB.out)))); have n2_ := Aside0.mk (below_step (by repeat (first | (with_reducible first | exact HB.out | apply below_alloc | apply pw_below_drewN | apply below_drew1) | exact HB.out)) hb); clear HO126; clear HB; have HO126 := n0_; have HO129 := n1_; have HB := n2_; clear n0_ n1_ n2_; (try clear hb); (try clear hb2); (try clear hk); (try clear hi); (try clear ho0); obtain ⟨Ao25, co25, eo25⟩ := Kd.R_slice HO129.out; subst eo25) | ((with_reducible refine gate_callee (f := 11) rfl ?_); refine goesL_ (some 11) rfl rfl Try.func11 (by kernel_rfl) rfl #[.slice Ao25 t127.length co25, .int .i64 3] rfl (by (try simp only [List.map_toArray, List.map_cons, List.map_nil]); first | done | rfl | (simp only [List.length_drop, List.length_take]; rfl)) ?_; (with_reducible refine (span_Outer.calls k _ _ t127 3 t130 true _ ?side1 ?side2 A2.out).mono ?_); (case side1 => repeat (first | exact (Kd.R_reads' HO129.out).2.2 | (with_reducible refine Kd.C_alloc ?_ _) | (with_reducible refine Kd.C_drewN ?_ _) | (with_reducible refine Kd.C_drew ?_))); (case side2 => exact (Kd.R_reads' HO129.out).2.1); rintro e w26 ⟨rfl, hb⟩; refine ⟨_, rfl, ?_⟩; have n0_ := Aside0.mk (Kd.R_below (by (with_reducible repeat (first | apply Kd.R_alloc | apply Kd.R_drewN | apply Kd.R_drew)); exact HO126.out) hb); have n1_ := Aside0.mk (Kd.R_below (by (with_reducible repeat (first | apply Kd.R_alloc | apply Kd.R_drewN | apply Kd.R_drew)); exact HO129.out) hb); have n2_ := Aside0.mk (below_step (by repeat (first | (with_reducible first | exact HB.out | apply below_alloc | apply pw_below_drewN | apply below_drew1) | exact HB.out)) hb); clear HO126; clear HO129; clear HB; have HO126 := n0_; have HO129 := n1_; have HB := n2_; clear n0_ n1_ n2_; (try clear hb); (try clear hb2); (try clear hk); (try clear hi)) | ((with_reducible refine gate_dst (N := 17) rfl ?_); refine Kd.R_lit k34 _ 34 ?hg (N := 17) ?hd (xs := ([(⟨1, 4⟩ : S34), (⟨5, 7⟩ : S34)] : List (S34))) (inner := [.int .i64 1, .int .i64 4, .int .i64 5, .int .i64 7]) (ok := fun _ => True) (okp := fun _ => True) ?hr ?hp (fun _ hk => hk) trivial (Below.refl _ _) (Nat.le_refl _) (by simp) ?_; (case hd => rfl); (case hg => rfl); (case hr => first | (go_simp; done) | (go_simp; rfl)); (case hp => exact (Reps.c2 (show Kd.M k34 _ _ _ (⟨1, 4⟩ : S34) [.int .i64 1, .int .i64 4] from (k34_mkM _ _ _ (⟨1, 4⟩ : S34) )) (Reps.c2 (show Kd.M k34 _ _ _ (⟨5, 7⟩ : S34) [.int .i64 5, .int .i64 7] from (k34_mkM _ _ _ (⟨5, 7⟩ : S34) )) (Reps.none _ _)))); intro v133 w27 ho28 hb hg_ hnew_; clear hg_ hnew_; (first | rw [← Ny132.out] at ho28 | (simp only [Int.reduceToNat] at ho28; rw [← Ny132.out] at ho28)); have n0_ := Aside0.mk (Kd.R_elder' (by (with_reducible repeat (first | apply Kd.R_alloc | apply Kd.R_drewN | apply Kd.R_drew)); exact HO126.out) (Kd.R_base ho28) hb); have n1_ := Aside0.mk (Kd.R_elder' (by (with_reducible repeat (first | apply Kd.R_alloc | apply Kd.R_drewN | apply Kd.R_drew)); exact HO129.out) (Kd.R_base ho28) hb); have n2_ := Aside0.mk (Kd.R_lower (Kd.R_new' (Kd.R_new' ho28 (Kd.R_lt (by (with_reducible repeat (first | apply Kd.R_alloc | apply Kd.R_drewN | apply Kd.R_drew)); exact HO126.out))) (Kd.R_lt (by (with_reducible repeat (first | apply Kd.R_alloc | apply Kd.R_drewN | apply Kd.R_drew)); exact HO129.out))) (below_size (by repeat (first | (with_reducible first | exact HB.out | apply below_alloc | apply pw_below_drewN | apply below_drew1) | exact HB.out)))); have n3_ := Aside0.mk (below_step (by repeat (first | (with_reducible first | exact HB.out | apply below_alloc | apply pw_below_drewN | apply below_drew1) | exact HB.out)) hb); clear HO126; clear HO129; clear HB; have HO126 := n0_; have HO129 := n1_; have HO134 := n2_; have HB := n3_; clear n0_ n1_ n2_ n3_; clear hb ho28; obtain ⟨Ao29, co29, eo29⟩ := Kd.R_slice HO134.out; subst eo29) | ((with_reducible refine gate_callee (f := 19) rfl ?_); refine goesL_ (some 18) rfl rfl Try.func19 (by kernel_rfl) rfl #[.slice Ao25 t127.length co25, .slice Ao29 y132.length co29] rfl (by (try simp only [List.map_toArray, List.map_cons, List.map_nil]); first | done | rfl | (simp only [List.length_drop, List.length_take]; rfl)) ?_; (with_reducible refine (brambleref02_Same.calls k _ _ t127 _ _ y132 true _ ?side1 ?side2 ?side3 ?side4 A3.out).mono ?_); (case side1 => repeat (first | exact (Kd.R_reads' HO129.out).2.2 | (with_reducible refine Kd.C_alloc ?_ _) | (with_reducible refine Kd.C_drewN ?_ _) | (with_reducible refine Kd.C_drew ?_))); (case side2 => exact (Kd.R_reads' HO129.out).2.1); (case side3 => repeat (first | exact (Kd.R_reads' HO134.out).2.2 | (with_reducible refine Kd.C_alloc ?_ _) | (with_reducible refine Kd.C_drewN ?_ _) | (with_reducible refine Kd.C_drew ?_))); (case side4 => exact (Kd.R_reads' HO134.out).2.1); rintro e w' ⟨rfl, ⟨nd, rfl⟩⟩; refine ⟨_, rfl, ?_⟩) | (go_at_call 10; (with_reducible refine (span_Text.calls (⟨#[97, 98, 99, 100, 101, 102, 103, 104]⟩ : ByteArray) _ _ t127 t136 _ ?side1 ?side2 A7.out).mono ?_); (case side1 => repeat (first | exact (Kd.R_reads' HO129.out).2.2 | (with_reducible refine Kd.C_alloc ?_ _) | (with_reducible refine Kd.C_drewN ?_ _) | (with_reducible refine Kd.C_drew ?_))); (case side2 => exact (Kd.R_reads' HO129.out).2.1); rintro e w30 ⟨rfl, hb⟩; have n0_ := Aside0.mk (Kd.R_below (by (with_reducible repeat (first | apply Kd.R_alloc | apply Kd.R_drewN | apply Kd.R_drew)); exact HO126.out) hb); have n1_ := Aside0.mk (Kd.R_below (by (with_reducible repeat (first | apply Kd.R_alloc | apply Kd.R_drewN | apply Kd.R_drew)); exact HO129.out) hb); have n2_ := Aside0.mk (Kd.R_below (by (with_reducible repeat (first | apply Kd.R_alloc | apply Kd.R_drewN | apply Kd.R_drew)); exact HO134.out) hb); have n3_ := Aside0.mk (below_step (by repeat (first | (with_reducible first | exact HB.out | apply below_alloc | apply pw_below_drewN | apply below_drew1) | exact HB.out)) hb); clear HO126; clear HO129; clear HO134; clear HB; have HO126 := n0_; have HO129 := n1_; have HO134 := n2_; have HB := n3_; clear n0_ n1_ n2_ n3_; (try clear hb); (try clear hb2); (try clear hk); (try clear hi)))
          go_ret
          exact ⟨by first | rfl | (simp [errW_none, errW_some] <;> rfl) | (simp [*, errW_none, errW_some] <;> rfl), by repeat (first | (with_reducible first | exact HB.out | apply below_alloc | apply pw_below_drewN | apply below_drew1) | exact HB.out)⟩
      · replace c6 := Bool.eq_false_iff.mpr c6
        subst c6
        have H1 : (some false) = some r := by rw [if_neg (show ¬ (false = true) by decide)] at H; exact H
        clear H
        have H := H1
        clear H1
        obtain rfl := Option.some.inj H
        go_enter Try.func9, Try.ntmps9
        go_wp2_with (first | ((with_reducible refine gate_dst (N := 7) rfl ?_); refine Kd.R_lit k34 _ 34 ?hg (N := 7) ?hd (xs := ([(⟨5, 7⟩ : S34), (⟨1, 3⟩ : S34), (⟨3, 4⟩ : S34)] : List (S34))) (inner := [.int .i64 5, .int .i64 7, .int .i64 1, .int .i64 3, .int .i64 3, .int .i64 4]) (ok := fun _ => True) (okp := fun _ => True) ?hr ?hp (fun _ hk => hk) trivial (Below.refl _ _) (Nat.le_refl _) (by simp) ?_; (case hd => rfl); (case hg => rfl); (case hr => first | (go_simp; done) | (go_simp; rfl)); (case hp => exact (Reps.c2 (show Kd.M k34 _ _ _ (⟨5, 7⟩ : S34) [.int .i64 5, .int .i64 7] from (k34_mkM _ _ _ (⟨5, 7⟩ : S34) )) (Reps.c2 (show Kd.M k34 _ _ _ (⟨1, 3⟩ : S34) [.int .i64 1, .int .i64 3] from (k34_mkM _ _ _ (⟨1, 3⟩ : S34) )) (Reps.c2 (show Kd.M k34 _ _ _ (⟨3, 4⟩ : S34) [.int .i64 3, .int .i64 4] from (k34_mkM _ _ _ (⟨3, 4⟩ : S34) )) (Reps.none _ _))))); intro v125 w31 ho32 hb hg_ hnew_; clear hg_ hnew_; (first | rw [← Ny124.out] at ho32 | (simp only [Int.reduceToNat] at ho32; rw [← Ny124.out] at ho32)); have n0_ := Aside0.mk (Kd.R_lower ho32 (below_size (by repeat (first | (with_reducible first | exact HB.out | apply below_alloc | apply pw_below_drewN | apply below_drew1) | exact HB.out)))); have n1_ := Aside0.mk (below_step (by repeat (first | (with_reducible first | exact HB.out | apply below_alloc | apply pw_below_drewN | apply below_drew1) | exact HB.out)) hb); clear HB; have HO126 := n0_; have HB := n1_; clear n0_ n1_; clear hb ho32; obtain ⟨Ao33, co33, eo33⟩ := Kd.R_slice HO126.out; subst eo33) | ((with_reducible refine gate_callee (f := 15) rfl ?_); refine goesL_ (some 8) rfl rfl Try.func15 (by kernel_rfl) rfl #[.slice Ao33 y124.length co33] rfl (by (try simp only [List.map_toArray, List.map_cons, List.map_nil]); first | done | rfl | (simp only [List.length_drop, List.length_take]; rfl)) ?_; (with_reducible refine (span_Norm.calls k _ _ y124 t127 _ ?side1 ?side2 A1.out).mono ?_); (case side1 => repeat (first | exact (Kd.R_reads' HO126.out).2.2 | (with_reducible refine Kd.C_alloc ?_ _) | (with_reducible refine Kd.C_drewN ?_ _) | (with_reducible refine Kd.C_drew ?_))); (case side2 => exact (Kd.R_reads' HO126.out).2.1); rintro e w34 ⟨v128, rfl, ho0, hb⟩; refine ⟨_, rfl, ?_⟩; have n0_ := Aside0.mk (Kd.R_elder' (by (with_reducible repeat (first | apply Kd.R_alloc | apply Kd.R_drewN | apply Kd.R_drew)); exact HO126.out) (Kd.R_base ho0) hb); have n1_ := Aside0.mk (Kd.R_lower (Kd.R_new' ho0 (Kd.R_lt (by (with_reducible repeat (first | apply Kd.R_alloc | apply Kd.R_drewN | apply Kd.R_drew)); exact HO126.out))) (below_size (by repeat (first | (with_reducible first | exact HB.out | apply below_alloc | apply pw_below_drewN | apply below_drew1) | exact HB.out)))); have n2_ := Aside0.mk (below_step (by repeat (first | (with_reducible first | exact HB.out | apply below_alloc | apply pw_below_drewN | apply below_drew1) | exact HB.out)) hb); clear HO126; clear HB; have HO126 := n0_; have HO129 := n1_; have HB := n2_; clear n0_ n1_ n2_; (try clear hb); (try clear hb2); (try clear hk); (try clear hi); (try clear ho0); obtain ⟨Ao35, co35, eo35⟩ := Kd.R_slice HO129.out; subst eo35) | ((with_reducible refine gate_callee (f := 11) rfl ?_); refine goesL_ (some 11) rfl rfl Try.func11 (by kernel_rfl) rfl #[.slice Ao35 t127.length co35, .int .i64 3] rfl (by (try simp only [List.map_toArray, List.map_cons, List.map_nil]); first | done | rfl | (simp only [List.length_drop, List.length_take]; rfl)) ?_; (with_reducible refine (span_Outer.calls k _ _ t127 3 t130 false _ ?side1 ?side2 A2.out).mono ?_); (case side1 => repeat (first | exact (Kd.R_reads' HO129.out).2.2 | (with_reducible refine Kd.C_alloc ?_ _) | (with_reducible refine Kd.C_drewN ?_ _) | (with_reducible refine Kd.C_drew ?_))); (case side2 => exact (Kd.R_reads' HO129.out).2.1); rintro e w36 ⟨rfl, hb⟩; refine ⟨_, rfl, ?_⟩; have n0_ := Aside0.mk (Kd.R_below (by (with_reducible repeat (first | apply Kd.R_alloc | apply Kd.R_drewN | apply Kd.R_drew)); exact HO126.out) hb); have n1_ := Aside0.mk (Kd.R_below (by (with_reducible repeat (first | apply Kd.R_alloc | apply Kd.R_drewN | apply Kd.R_drew)); exact HO129.out) hb); have n2_ := Aside0.mk (below_step (by repeat (first | (with_reducible first | exact HB.out | apply below_alloc | apply pw_below_drewN | apply below_drew1) | exact HB.out)) hb); clear HO126; clear HO129; clear HB; have HO126 := n0_; have HO129 := n1_; have HB := n2_; clear n0_ n1_ n2_; (try clear hb); (try clear hb2); (try clear hk); (try clear hi)) | ((with_reducible refine gate_dst (N := 17) rfl ?_); refine Kd.R_lit k34 _ 34 ?hg (N := 17) ?hd (xs := ([(⟨1, 4⟩ : S34), (⟨5, 7⟩ : S34)] : List (S34))) (inner := [.int .i64 1, .int .i64 4, .int .i64 5, .int .i64 7]) (ok := fun _ => True) (okp := fun _ => True) ?hr ?hp (fun _ hk => hk) trivial (Below.refl _ _) (Nat.le_refl _) (by simp) ?_; (case hd => rfl); (case hg => rfl); (case hr => first | (go_simp; done) | (go_simp; rfl)); (case hp => exact (Reps.c2 (show Kd.M k34 _ _ _ (⟨1, 4⟩ : S34) [.int .i64 1, .int .i64 4] from (k34_mkM _ _ _ (⟨1, 4⟩ : S34) )) (Reps.c2 (show Kd.M k34 _ _ _ (⟨5, 7⟩ : S34) [.int .i64 5, .int .i64 7] from (k34_mkM _ _ _ (⟨5, 7⟩ : S34) )) (Reps.none _ _)))); intro v133 w37 ho38 hb hg_ hnew_; clear hg_ hnew_; (first | rw [← Ny132.out] at ho38 | (simp only [Int.reduceToNat] at ho38; rw [← Ny132.out] at ho38)); have n0_ := Aside0.mk (Kd.R_elder' (by (with_reducible repeat (first | apply Kd.R_alloc | apply Kd.R_drewN | apply Kd.R_drew)); exact HO126.out) (Kd.R_base ho38) hb); have n1_ := Aside0.mk (Kd.R_elder' (by (with_reducible repeat (first | apply Kd.R_alloc | apply Kd.R_drewN | apply Kd.R_drew)); exact HO129.out) (Kd.R_base ho38) hb); have n2_ := Aside0.mk (Kd.R_lower (Kd.R_new' (Kd.R_new' ho38 (Kd.R_lt (by (with_reducible repeat (first | apply Kd.R_alloc | apply Kd.R_drewN | apply Kd.R_drew)); exact HO126.out))) (Kd.R_lt (by (with_reducible repeat (first | apply Kd.R_alloc | apply Kd.R_drewN | apply Kd.R_drew)); exact HO129.out))) (below_size (by repeat (first | (with_reducible first | exact HB.out | apply below_alloc | apply pw_below_drewN | apply below_drew1) | exact HB.out)))); have n3_ := Aside0.mk (below_step (by repeat (first | (with_reducible first | exact HB.out | apply below_alloc | apply pw_below_drewN | apply below_drew1) | exact HB.out)) hb); clear HO126; clear HO129; clear HB; have HO126 := n0_; have HO129 := n1_; have HO134 := n2_; have HB := n3_; clear n0_ n1_ n2_ n3_; clear hb ho38; obtain ⟨Ao39, co39, eo39⟩ := Kd.R_slice HO134.out; subst eo39) | ((with_reducible refine gate_callee (f := 19) rfl ?_); refine goesL_ (some 18) rfl rfl Try.func19 (by kernel_rfl) rfl #[.slice Ao35 t127.length co35, .slice Ao39 y132.length co39] rfl (by (try simp only [List.map_toArray, List.map_cons, List.map_nil]); first | done | rfl | (simp only [List.length_drop, List.length_take]; rfl)) ?_; (with_reducible refine (brambleref02_Same.calls k _ _ t127 _ _ y132 true _ ?side1 ?side2 ?side3 ?side4 A3.out).mono ?_); (case side1 => repeat (first | exact (Kd.R_reads' HO129.out).2.2 | (with_reducible refine Kd.C_alloc ?_ _) | (with_reducible refine Kd.C_drewN ?_ _) | (with_reducible refine Kd.C_drew ?_))); (case side2 => exact (Kd.R_reads' HO129.out).2.1); (case side3 => repeat (first | exact (Kd.R_reads' HO134.out).2.2 | (with_reducible refine Kd.C_alloc ?_ _) | (with_reducible refine Kd.C_drewN ?_ _) | (with_reducible refine Kd.C_drew ?_))); (case side4 => exact (Kd.R_reads' HO134.out).2.1); rintro e w' ⟨rfl, ⟨nd, rfl⟩⟩; refine ⟨_, rfl, ?_⟩))
        go_ret
        exact ⟨by first | rfl | (simp [errW_none, errW_some] <;> rfl) | (simp [*, errW_none, errW_some] <;> rfl), by repeat (first | (with_reducible first | exact HB.out | apply below_alloc | apply pw_below_drewN | apply below_drew1) | exact HB.out)⟩
    · rw [if_neg c5] at H
      have c5b0 : (t130 == 5) = false := beq_eq_false_iff_ne.mpr c5
      have c5b1 : (t130 != 5) = true := bne_iff_ne.mpr c5
      obtain rfl := Option.some.inj H
      go_enter Try.func9, Try.ntmps9
      go_wp2_with (first | ((with_reducible refine gate_dst (N := 7) rfl ?_); refine Kd.R_lit k34 _ 34 ?hg (N := 7) ?hd (xs := ([(⟨5, 7⟩ : S34), (⟨1, 3⟩ : S34), (⟨3, 4⟩ : S34)] : List (S34))) (inner := [.int .i64 5, .int .i64 7, .int .i64 1, .int .i64 3, .int .i64 3, .int .i64 4]) (ok := fun _ => True) (okp := fun _ => True) ?hr ?hp (fun _ hk => hk) trivial (Below.refl _ _) (Nat.le_refl _) (by simp) ?_; (case hd => rfl); (case hg => rfl); (case hr => first | (go_simp; done) | (go_simp; rfl)); (case hp => exact (Reps.c2 (show Kd.M k34 _ _ _ (⟨5, 7⟩ : S34) [.int .i64 5, .int .i64 7] from (k34_mkM _ _ _ (⟨5, 7⟩ : S34) )) (Reps.c2 (show Kd.M k34 _ _ _ (⟨1, 3⟩ : S34) [.int .i64 1, .int .i64 3] from (k34_mkM _ _ _ (⟨1, 3⟩ : S34) )) (Reps.c2 (show Kd.M k34 _ _ _ (⟨3, 4⟩ : S34) [.int .i64 3, .int .i64 4] from (k34_mkM _ _ _ (⟨3, 4⟩ : S34) )) (Reps.none _ _))))); intro v125 w40 ho41 hb hg_ hnew_; clear hg_ hnew_; (first | rw [← Ny124.out] at ho41 | (simp only [Int.reduceToNat] at ho41; rw [← Ny124.out] at ho41)); have n0_ := Aside0.mk (Kd.R_lower ho41 (below_size (by repeat (first | (with_reducible first | exact HB.out | apply below_alloc | apply pw_below_drewN | apply below_drew1) | exact HB.out)))); have n1_ := Aside0.mk (below_step (by repeat (first | (with_reducible first | exact HB.out | apply below_alloc | apply pw_below_drewN | apply below_drew1) | exact HB.out)) hb); clear HB; have HO126 := n0_; have HB := n1_; clear n0_ n1_; clear hb ho41; obtain ⟨Ao42, co42, eo42⟩ := Kd.R_slice HO126.out; subst eo42) | ((with_reducible refine gate_callee (f := 15) rfl ?_); refine goesL_ (some 8) rfl rfl Try.func15 (by kernel_rfl) rfl #[.slice Ao42 y124.length co42] rfl (by (try simp only [List.map_toArray, List.map_cons, List.map_nil]); first | done | rfl | (simp only [List.length_drop, List.length_take]; rfl)) ?_; (with_reducible refine (span_Norm.calls k _ _ y124 t127 _ ?side1 ?side2 A1.out).mono ?_); (case side1 => repeat (first | exact (Kd.R_reads' HO126.out).2.2 | (with_reducible refine Kd.C_alloc ?_ _) | (with_reducible refine Kd.C_drewN ?_ _) | (with_reducible refine Kd.C_drew ?_))); (case side2 => exact (Kd.R_reads' HO126.out).2.1); rintro e w43 ⟨v128, rfl, ho0, hb⟩; refine ⟨_, rfl, ?_⟩; have n0_ := Aside0.mk (Kd.R_elder' (by (with_reducible repeat (first | apply Kd.R_alloc | apply Kd.R_drewN | apply Kd.R_drew)); exact HO126.out) (Kd.R_base ho0) hb); have n1_ := Aside0.mk (Kd.R_lower (Kd.R_new' ho0 (Kd.R_lt (by (with_reducible repeat (first | apply Kd.R_alloc | apply Kd.R_drewN | apply Kd.R_drew)); exact HO126.out))) (below_size (by repeat (first | (with_reducible first | exact HB.out | apply below_alloc | apply pw_below_drewN | apply below_drew1) | exact HB.out)))); have n2_ := Aside0.mk (below_step (by repeat (first | (with_reducible first | exact HB.out | apply below_alloc | apply pw_below_drewN | apply below_drew1) | exact HB.out)) hb); clear HO126; clear HB; have HO126 := n0_; have HO129 := n1_; have HB := n2_; clear n0_ n1_ n2_; (try clear hb); (try clear hb2); (try clear hk); (try clear hi); (try clear ho0); obtain ⟨Ao44, co44, eo44⟩ := Kd.R_slice HO129.out; subst eo44) | ((with_reducible refine gate_callee (f := 11) rfl ?_); refine goesL_ (some 11) rfl rfl Try.func11 (by kernel_rfl) rfl #[.slice Ao44 t127.length co44, .int .i64 3] rfl (by (try simp only [List.map_toArray, List.map_cons, List.map_nil]); first | done | rfl | (simp only [List.length_drop, List.length_take]; rfl)) ?_; (with_reducible refine (span_Outer.calls k _ _ t127 3 t130 t131 _ ?side1 ?side2 A2.out).mono ?_); (case side1 => repeat (first | exact (Kd.R_reads' HO129.out).2.2 | (with_reducible refine Kd.C_alloc ?_ _) | (with_reducible refine Kd.C_drewN ?_ _) | (with_reducible refine Kd.C_drew ?_))); (case side2 => exact (Kd.R_reads' HO129.out).2.1); rintro e w45 ⟨rfl, hb⟩; refine ⟨_, rfl, ?_⟩; have n0_ := Aside0.mk (Kd.R_below (by (with_reducible repeat (first | apply Kd.R_alloc | apply Kd.R_drewN | apply Kd.R_drew)); exact HO126.out) hb); have n1_ := Aside0.mk (Kd.R_below (by (with_reducible repeat (first | apply Kd.R_alloc | apply Kd.R_drewN | apply Kd.R_drew)); exact HO129.out) hb); have n2_ := Aside0.mk (below_step (by repeat (first | (with_reducible first | exact HB.out | apply below_alloc | apply pw_below_drewN | apply below_drew1) | exact HB.out)) hb); clear HO126; clear HO129; clear HB; have HO126 := n0_; have HO129 := n1_; have HB := n2_; clear n0_ n1_ n2_; (try clear hb); (try clear hb2); (try clear hk); (try clear hi)) | ((with_reducible refine gate_dst (N := 17) rfl ?_); refine Kd.R_lit k34 _ 34 ?hg (N := 17) ?hd (xs := ([(⟨1, 4⟩ : S34), (⟨5, 7⟩ : S34)] : List (S34))) (inner := [.int .i64 1, .int .i64 4, .int .i64 5, .int .i64 7]) (ok := fun _ => True) (okp := fun _ => True) ?hr ?hp (fun _ hk => hk) trivial (Below.refl _ _) (Nat.le_refl _) (by simp) ?_; (case hd => rfl); (case hg => rfl); (case hr => first | (go_simp; done) | (go_simp; rfl)); (case hp => exact (Reps.c2 (show Kd.M k34 _ _ _ (⟨1, 4⟩ : S34) [.int .i64 1, .int .i64 4] from (k34_mkM _ _ _ (⟨1, 4⟩ : S34) )) (Reps.c2 (show Kd.M k34 _ _ _ (⟨5, 7⟩ : S34) [.int .i64 5, .int .i64 7] from (k34_mkM _ _ _ (⟨5, 7⟩ : S34) )) (Reps.none _ _)))); intro v133 w46 ho47 hb hg_ hnew_; clear hg_ hnew_; (first | rw [← Ny132.out] at ho47 | (simp only [Int.reduceToNat] at ho47; rw [← Ny132.out] at ho47)); have n0_ := Aside0.mk (Kd.R_elder' (by (with_reducible repeat (first | apply Kd.R_alloc | apply Kd.R_drewN | apply Kd.R_drew)); exact HO126.out) (Kd.R_base ho47) hb); have n1_ := Aside0.mk (Kd.R_elder' (by (with_reducible repeat (first | apply Kd.R_alloc | apply Kd.R_drewN | apply Kd.R_drew)); exact HO129.out) (Kd.R_base ho47) hb); have n2_ := Aside0.mk (Kd.R_lower (Kd.R_new' (Kd.R_new' ho47 (Kd.R_lt (by (with_reducible repeat (first | apply Kd.R_alloc | apply Kd.R_drewN | apply Kd.R_drew)); exact HO126.out))) (Kd.R_lt (by (with_reducible repeat (first | apply Kd.R_alloc | apply Kd.R_drewN | apply Kd.R_drew)); exact HO129.out))) (below_size (by repeat (first | (with_reducible first | exact HB.out | apply below_alloc | apply pw_below_drewN | apply below_drew1) | exact HB.out)))); have n3_ := Aside0.mk (below_step (by repeat (first | (with_reducible first | exact HB.out | apply below_alloc | apply pw_below_drewN | apply below_drew1) | exact HB.out)) hb); clear HO126; clear HO129; clear HB; have HO126 := n0_; have HO129 := n1_; have HO134 := n2_; have HB := n3_; clear n0_ n1_ n2_ n3_; clear hb ho47; obtain ⟨Ao48, co48, eo48⟩ := Kd.R_slice HO134.out; subst eo48) | ((with_reducible refine gate_callee (f := 19) rfl ?_); refine goesL_ (some 18) rfl rfl Try.func19 (by kernel_rfl) rfl #[.slice Ao44 t127.length co44, .slice Ao48 y132.length co48] rfl (by (try simp only [List.map_toArray, List.map_cons, List.map_nil]); first | done | rfl | (simp only [List.length_drop, List.length_take]; rfl)) ?_; (with_reducible refine (brambleref02_Same.calls k _ _ t127 _ _ y132 true _ ?side1 ?side2 ?side3 ?side4 A3.out).mono ?_); (case side1 => repeat (first | exact (Kd.R_reads' HO129.out).2.2 | (with_reducible refine Kd.C_alloc ?_ _) | (with_reducible refine Kd.C_drewN ?_ _) | (with_reducible refine Kd.C_drew ?_))); (case side2 => exact (Kd.R_reads' HO129.out).2.1); (case side3 => repeat (first | exact (Kd.R_reads' HO134.out).2.2 | (with_reducible refine Kd.C_alloc ?_ _) | (with_reducible refine Kd.C_drewN ?_ _) | (with_reducible refine Kd.C_drew ?_))); (case side4 => exact (Kd.R_reads' HO134.out).2.1); rintro e w' ⟨rfl, ⟨nd, rfl⟩⟩; refine ⟨_, rfl, ?_⟩))
      go_ret
      exact ⟨by first | rfl | (simp [errW_none, errW_some] <;> rfl) | (simp [*, errW_none, errW_some] <;> rfl), by repeat (first | (with_reducible first | exact HB.out | apply below_alloc | apply pw_below_drewN | apply below_drew1) | exact HB.out)⟩
  · replace c4 := Bool.eq_false_iff.mpr c4
    subst c4
    have H1 : (some false) = some r := by rw [if_neg (show ¬ (false = true) by decide)] at H; exact H
    clear H
    have H := H1
    clear H1
    obtain rfl := Option.some.inj H
    go_enter Try.func9, Try.ntmps9
    go_wp2_with (first | ((with_reducible refine gate_dst (N := 7) rfl ?_); refine Kd.R_lit k34 _ 34 ?hg (N := 7) ?hd (xs := ([(⟨5, 7⟩ : S34), (⟨1, 3⟩ : S34), (⟨3, 4⟩ : S34)] : List (S34))) (inner := [.int .i64 5, .int .i64 7, .int .i64 1, .int .i64 3, .int .i64 3, .int .i64 4]) (ok := fun _ => True) (okp := fun _ => True) ?hr ?hp (fun _ hk => hk) trivial (Below.refl _ _) (Nat.le_refl _) (by simp) ?_; (case hd => rfl); (case hg => rfl); (case hr => first | (go_simp; done) | (go_simp; rfl)); (case hp => exact (Reps.c2 (show Kd.M k34 _ _ _ (⟨5, 7⟩ : S34) [.int .i64 5, .int .i64 7] from (k34_mkM _ _ _ (⟨5, 7⟩ : S34) )) (Reps.c2 (show Kd.M k34 _ _ _ (⟨1, 3⟩ : S34) [.int .i64 1, .int .i64 3] from (k34_mkM _ _ _ (⟨1, 3⟩ : S34) )) (Reps.c2 (show Kd.M k34 _ _ _ (⟨3, 4⟩ : S34) [.int .i64 3, .int .i64 4] from (k34_mkM _ _ _ (⟨3, 4⟩ : S34) )) (Reps.none _ _))))); intro v125 w49 ho50 hb hg_ hnew_; clear hg_ hnew_; (first | rw [← Ny124.out] at ho50 | (simp only [Int.reduceToNat] at ho50; rw [← Ny124.out] at ho50)); have n0_ := Aside0.mk (Kd.R_lower ho50 (below_size (by repeat (first | (with_reducible first | exact HB.out | apply below_alloc | apply pw_below_drewN | apply below_drew1) | exact HB.out)))); have n1_ := Aside0.mk (below_step (by repeat (first | (with_reducible first | exact HB.out | apply below_alloc | apply pw_below_drewN | apply below_drew1) | exact HB.out)) hb); clear HB; have HO126 := n0_; have HB := n1_; clear n0_ n1_; clear hb ho50; obtain ⟨Ao51, co51, eo51⟩ := Kd.R_slice HO126.out; subst eo51) | ((with_reducible refine gate_callee (f := 15) rfl ?_); refine goesL_ (some 8) rfl rfl Try.func15 (by kernel_rfl) rfl #[.slice Ao51 y124.length co51] rfl (by (try simp only [List.map_toArray, List.map_cons, List.map_nil]); first | done | rfl | (simp only [List.length_drop, List.length_take]; rfl)) ?_; (with_reducible refine (span_Norm.calls k _ _ y124 t127 _ ?side1 ?side2 A1.out).mono ?_); (case side1 => repeat (first | exact (Kd.R_reads' HO126.out).2.2 | (with_reducible refine Kd.C_alloc ?_ _) | (with_reducible refine Kd.C_drewN ?_ _) | (with_reducible refine Kd.C_drew ?_))); (case side2 => exact (Kd.R_reads' HO126.out).2.1); rintro e w52 ⟨v128, rfl, ho0, hb⟩; refine ⟨_, rfl, ?_⟩; have n0_ := Aside0.mk (Kd.R_elder' (by (with_reducible repeat (first | apply Kd.R_alloc | apply Kd.R_drewN | apply Kd.R_drew)); exact HO126.out) (Kd.R_base ho0) hb); have n1_ := Aside0.mk (Kd.R_lower (Kd.R_new' ho0 (Kd.R_lt (by (with_reducible repeat (first | apply Kd.R_alloc | apply Kd.R_drewN | apply Kd.R_drew)); exact HO126.out))) (below_size (by repeat (first | (with_reducible first | exact HB.out | apply below_alloc | apply pw_below_drewN | apply below_drew1) | exact HB.out)))); have n2_ := Aside0.mk (below_step (by repeat (first | (with_reducible first | exact HB.out | apply below_alloc | apply pw_below_drewN | apply below_drew1) | exact HB.out)) hb); clear HO126; clear HB; have HO126 := n0_; have HO129 := n1_; have HB := n2_; clear n0_ n1_ n2_; (try clear hb); (try clear hb2); (try clear hk); (try clear hi); (try clear ho0); obtain ⟨Ao53, co53, eo53⟩ := Kd.R_slice HO129.out; subst eo53) | ((with_reducible refine gate_callee (f := 11) rfl ?_); refine goesL_ (some 11) rfl rfl Try.func11 (by kernel_rfl) rfl #[.slice Ao53 t127.length co53, .int .i64 3] rfl (by (try simp only [List.map_toArray, List.map_cons, List.map_nil]); first | done | rfl | (simp only [List.length_drop, List.length_take]; rfl)) ?_; (with_reducible refine (span_Outer.calls k _ _ t127 3 t130 t131 _ ?side1 ?side2 A2.out).mono ?_); (case side1 => repeat (first | exact (Kd.R_reads' HO129.out).2.2 | (with_reducible refine Kd.C_alloc ?_ _) | (with_reducible refine Kd.C_drewN ?_ _) | (with_reducible refine Kd.C_drew ?_))); (case side2 => exact (Kd.R_reads' HO129.out).2.1); rintro e w54 ⟨rfl, hb⟩; refine ⟨_, rfl, ?_⟩; have n0_ := Aside0.mk (Kd.R_below (by (with_reducible repeat (first | apply Kd.R_alloc | apply Kd.R_drewN | apply Kd.R_drew)); exact HO126.out) hb); have n1_ := Aside0.mk (Kd.R_below (by (with_reducible repeat (first | apply Kd.R_alloc | apply Kd.R_drewN | apply Kd.R_drew)); exact HO129.out) hb); have n2_ := Aside0.mk (below_step (by repeat (first | (with_reducible first | exact HB.out | apply below_alloc | apply pw_below_drewN | apply below_drew1) | exact HB.out)) hb); clear HO126; clear HO129; clear HB; have HO126 := n0_; have HO129 := n1_; have HB := n2_; clear n0_ n1_ n2_; (try clear hb); (try clear hb2); (try clear hk); (try clear hi)) | ((with_reducible refine gate_dst (N := 17) rfl ?_); refine Kd.R_lit k34 _ 34 ?hg (N := 17) ?hd (xs := ([(⟨1, 4⟩ : S34), (⟨5, 7⟩ : S34)] : List (S34))) (inner := [.int .i64 1, .int .i64 4, .int .i64 5, .int .i64 7]) (ok := fun _ => True) (okp := fun _ => True) ?hr ?hp (fun _ hk => hk) trivial (Below.refl _ _) (Nat.le_refl _) (by simp) ?_; (case hd => rfl); (case hg => rfl); (case hr => first | (go_simp; done) | (go_simp; rfl)); (case hp => exact (Reps.c2 (show Kd.M k34 _ _ _ (⟨1, 4⟩ : S34) [.int .i64 1, .int .i64 4] from (k34_mkM _ _ _ (⟨1, 4⟩ : S34) )) (Reps.c2 (show Kd.M k34 _ _ _ (⟨5, 7⟩ : S34) [.int .i64 5, .int .i64 7] from (k34_mkM _ _ _ (⟨5, 7⟩ : S34) )) (Reps.none _ _)))); intro v133 w55 ho56 hb hg_ hnew_; clear hg_ hnew_; (first | rw [← Ny132.out] at ho56 | (simp only [Int.reduceToNat] at ho56; rw [← Ny132.out] at ho56)); have n0_ := Aside0.mk (Kd.R_elder' (by (with_reducible repeat (first | apply Kd.R_alloc | apply Kd.R_drewN | apply Kd.R_drew)); exact HO126.out) (Kd.R_base ho56) hb); have n1_ := Aside0.mk (Kd.R_elder' (by (with_reducible repeat (first | apply Kd.R_alloc | apply Kd.R_drewN | apply Kd.R_drew)); exact HO129.out) (Kd.R_base ho56) hb); have n2_ := Aside0.mk (Kd.R_lower (Kd.R_new' (Kd.R_new' ho56 (Kd.R_lt (by (with_reducible repeat (first | apply Kd.R_alloc | apply Kd.R_drewN | apply Kd.R_drew)); exact HO126.out))) (Kd.R_lt (by (with_reducible repeat (first | apply Kd.R_alloc | apply Kd.R_drewN | apply Kd.R_drew)); exact HO129.out))) (below_size (by repeat (first | (with_reducible first | exact HB.out | apply below_alloc | apply pw_below_drewN | apply below_drew1) | exact HB.out)))); have n3_ := Aside0.mk (below_step (by repeat (first | (with_reducible first | exact HB.out | apply below_alloc | apply pw_below_drewN | apply below_drew1) | exact HB.out)) hb); clear HO126; clear HO129; clear HB; have HO126 := n0_; have HO129 := n1_; have HO134 := n2_; have HB := n3_; clear n0_ n1_ n2_ n3_; clear hb ho56; obtain ⟨Ao57, co57, eo57⟩ := Kd.R_slice HO134.out; subst eo57) | ((with_reducible refine gate_callee (f := 19) rfl ?_); refine goesL_ (some 18) rfl rfl Try.func19 (by kernel_rfl) rfl #[.slice Ao53 t127.length co53, .slice Ao57 y132.length co57] rfl (by (try simp only [List.map_toArray, List.map_cons, List.map_nil]); first | done | rfl | (simp only [List.length_drop, List.length_take]; rfl)) ?_; (with_reducible refine (brambleref02_Same.calls k _ _ t127 _ _ y132 false _ ?side1 ?side2 ?side3 ?side4 A3.out).mono ?_); (case side1 => repeat (first | exact (Kd.R_reads' HO129.out).2.2 | (with_reducible refine Kd.C_alloc ?_ _) | (with_reducible refine Kd.C_drewN ?_ _) | (with_reducible refine Kd.C_drew ?_))); (case side2 => exact (Kd.R_reads' HO129.out).2.1); (case side3 => repeat (first | exact (Kd.R_reads' HO134.out).2.2 | (with_reducible refine Kd.C_alloc ?_ _) | (with_reducible refine Kd.C_drewN ?_ _) | (with_reducible refine Kd.C_drew ?_))); (case side4 => exact (Kd.R_reads' HO134.out).2.1); rintro e w' ⟨rfl, ⟨nd, rfl⟩⟩; refine ⟨_, rfl, ?_⟩))
    go_ret
    exact ⟨by first | rfl | (simp [errW_none, errW_some] <;> rfl) | (simp [*, errW_none, errW_some] <;> rfl), by repeat (first | (with_reducible first | exact HB.out | apply below_alloc | apply pw_below_drewN | apply below_drew1) | exact HB.out)⟩

/-! ### span_Join: function 17, told by hand -/
def rgJ (x : S34) : Rg.R := (x.f0, x.f1)
def mkJ (x : Rg.R) : S34 := ⟨x.1, x.2⟩
theorem mapJ (l : List Rg.R) : (l.map mkJ).map rgJ = l := by
  rw [List.map_map]
  exact (List.map_congr_left (fun _ _ => rfl)).trans (List.map_id l)
theorem rows_eqJ {α : Type} {enc : α → List Value} {sz : Nat} (he : ∀ x, (enc x).length = sz) : ∀ (xs : List α) (cs : List Value), cs.length = xs.length * sz → (∀ (j : Nat) p, xs[j]? = some p → (cs.drop (j * sz)).take sz = enc p) → cs = xs.flatMap enc
  | [], cs, h1, _ => by
    have : cs.length = 0 := by simpa using h1
    simpa using List.eq_nil_of_length_eq_zero this
  | x :: t, cs, h1, h2 => by
    have e0 := h2 0 x rfl
    rw [Nat.zero_mul, List.drop_zero] at e0
    have ih := rows_eqJ he t (cs.drop sz) (by rw [List.length_drop, h1, List.length_cons, Nat.add_mul]; omega) (fun j p hj => by
      have := h2 (j + 1) p hj
      rw [List.drop_drop]
      rw [Nat.add_mul, Nat.one_mul, Nat.add_comm] at this
      exact this)
    rw [List.flatMap_cons, ← ih, ← e0, List.take_append_drop]
theorem C_isoJ {w : World} {A : Option Addr} {n : Nat} {xs : List S34} (h : Kd.C Rg.kR w A n (xs.map rgJ)) : Kd.C k34 w A n xs := by
  obtain ⟨h1, h2, h3⟩ := h
  refine ⟨by simpa using h1, h2, fun h0 => ?_⟩
  obtain ⟨ad, e, hc⟩ := h3 h0
  refine ⟨ad, e, fun j x hx => ?_⟩
  exact hc j (rgJ x) (by rw [List.getElem?_map, hx]; rfl)
theorem ownJ {w : World} {base : Nat} {v : Value} {r : List S34} (h : Kd.R k34 34 w base (fun _ => True) v r) : w.ownsRow base 34 2 v (r.map rgJ).length ((r.map rgJ).flatMap Brd.encR) := by
  obtain ⟨_, cs, ho, hr⟩ := h
  have e : cs = (r.map rgJ).flatMap Brd.encR := by
    rw [List.flatMap_map]
    exact rows_eqJ (enc := fun x => Brd.encR (rgJ x)) (fun _ => rfl) r cs hr.1 (fun j p hj => k34_openM (hr.2 j p hj))
  rw [← e, List.length_map]
  exact ho
theorem R_ofJ {w : World} {base : Nat} {v : Value} {r : List S34} (h : w.ownsRow base 34 2 v (r.map rgJ).length ((r.map rgJ).flatMap Brd.encR)) : Kd.R k34 34 w base (fun _ => True) v r := by
  rw [List.length_map, List.flatMap_map] at h
  have hl : ∀ l : List S34, (l.flatMap fun x => Brd.encR (rgJ x)).length = l.length * 2 := by
    intro l
    induction l with
    | nil => rfl
    | cons x t ih => rw [List.flatMap_cons, List.length_append, ih, List.length_cons]; simp [Brd.encR]; omega
  refine ⟨fun _ _ => trivial, _, h, hl r, fun j p hj => ?_⟩
  obtain ⟨hk, hx'⟩ := List.getElem?_eq_some_iff.1 hj
  have e : r = r.take j ++ p :: r.drop (j + 1) := by rw [← hx', ← List.drop_eq_getElem_cons hk, List.take_append_drop]
  have e2 : ((r.flatMap fun x => Brd.encR (rgJ x)).drop (j * 2)).take 2 = [.int .i64 p.f0, .int .i64 p.f1] := by
    have e3 : r.flatMap (fun x => Brd.encR (rgJ x)) = (r.take j).flatMap (fun x => Brd.encR (rgJ x)) ++ ([.int .i64 p.f0, .int .i64 p.f1] ++ (r.drop (j + 1)).flatMap fun x => Brd.encR (rgJ x)) := by
      rw [← List.singleton_append, ← List.append_assoc] at e
      conv => lhs; rw [e]
      rw [List.flatMap_append, List.flatMap_append, List.append_assoc]
      rfl
    rw [e3, List.drop_append_of_le_length (by rw [hl, List.length_take]; omega), List.drop_of_length_le (by rw [hl, List.length_take]; omega)]
    rfl
  show k34.M _ _ _ _ (((r.flatMap fun x => Brd.encR (rgJ x)).drop (j * 2)).take 2)
  rw [e2]
  exact k34_mkM _ _ _ p
theorem normJ {k : Nat} {l r : List S34} (h : span_Norm.f k l = some r) : Sift.NormAt (l.map rgJ) (r.map rgJ) := by
  intro A c w hC hc
  rw [List.length_map] at *
  refine (span_Norm.calls k A c l r w (C_isoJ hC) hc h).mono ?_
  rintro e w' ⟨v, rfl, ho, hb⟩
  exact ⟨v, rfl, ownJ ho, hb⟩
def siftF (st : Bool → Bool → Bool) (k : Nat) (l0 l1 : List S34) : Option (List S34) :=
  (span_Norm.f k l0).bind fun na => (span_Norm.f k l1).bind fun nb =>
    if na.length ≤ 1000000000 ∧ nb.length ≤ 1000000000 ∧ Has.Rise (na.map rgJ) ∧ Has.Rise (nb.map rgJ) then span_Norm.f k (((Gap.gaps (Brd.bds (na.map rgJ ++ nb.map rgJ))).filter fun x => st (Has.hasV (na.map rgJ) x.1) (Has.hasV (nb.map rgJ) x.1)).map mkJ) else none
theorem siftF_mono (st : Bool → Bool → Bool) (a0 a1 : List S34) (k : Nat) : LeO (siftF st k a0 a1) (siftF st (k + 1) a0 a1) := by
  unfold siftF
  refine LeO.bind (span_Norm.mono _ _) (fun _ => ?_)
  refine LeO.bind (span_Norm.mono _ _) (fun _ => ?_)
  exact LeO.ite (span_Norm.mono _ _) (LeO.none _)
theorem siftF_calls (st : Bool → Bool → Bool) (fc : Nat) (hen : ∀ args w, (callFunc fc args).run Try.prog w = .ok (.enter fc args) w) (hst : ∀ x y w, Calls Try.prog fc #[.bool x, .bool y] w fun e w' => e = .returned (.bool (st x y)) ∧ w' = w)
    (k : Nat) (A0 : Option Addr) (c0 : Nat) (l0 : List S34) (A1 : Option Addr) (c1 : Nat) (l1 : List S34) (r : List S34) (w : World) (hr0 : Kd.C k34 w A0 l0.length l0) (hc0 : l0.length ≤ c0) (hr1 : Kd.C k34 w A1 l1.length l1) (hc1 : l1.length ≤ c1) (h : siftF st k l0 l1 = some r) :
    Calls Try.prog 31 #[.slice A0 l0.length c0, .slice A1 l1.length c1, .func (.func fc) #[] #[]] w fun e w' => ∃ v0_ : Value, e = .returned v0_ ∧ Kd.R k34 34 w' w.heap.size (fun _ => True) v0_ r ∧ Below w.heap.size w w' := by
  unfold siftF at h
  obtain ⟨na, h0, h⟩ := Option.bind_eq_some_iff.mp h
  obtain ⟨nb, h1, h⟩ := Option.bind_eq_some_iff.mp h
  split at h
  case isFalse => cases h
  rename_i hc
  have h3 := normJ h
  rw [mapJ] at h3
  have hs := Sift.sift_calls fc st hen hst (l0.map rgJ) (l1.map rgJ) (na.map rgJ) (nb.map rgJ) (r.map rgJ) (normJ h0) (normJ h1) h3 A0 A1 c0 c1 w (by rw [List.length_map]; exact Rg.C_iso (d := Rg.kR) (f := rgJ) hr0) (by rw [List.length_map]; exact Rg.C_iso (d := Rg.kR) (f := rgJ) hr1)
    (by rw [List.length_map]; exact hc0) (by rw [List.length_map]; exact hc1) (by rw [List.length_map]; exact hc.1) (by rw [List.length_map]; exact hc.2.1) hc.2.2.1 hc.2.2.2
  rw [List.length_map, List.length_map] at hs
  refine hs.mono ?_
  rintro e w' ⟨v, rfl, ho, hb⟩
  exact ⟨v, rfl, R_ofJ ho, hb⟩
def span_Join.f (k : Nat) (l0 l1 : List S34) : Option (List S34) := siftF (fun x y => x || y) k l0 l1
theorem span_Join.mono : ∀ a0 a1 k, LeO (span_Join.f k a0 a1) (span_Join.f (k + 1) a0 a1) := siftF_mono _
theorem span_Join.closed (x y : Bool) (w : World) : Calls Try.prog 33 #[.bool x, .bool y] w fun e w' => e = .returned (.bool (x || y)) ∧ w' = w := by
  cases x <;> cases y <;>
  · go_enter Try.func33, Try.ntmps33
    go_wp2
    go_ret
    exact ⟨rfl, rfl⟩
theorem span_Join.calls (k : Nat) (A0 : Option Addr) (c0 : Nat) (l0 : List S34) (A1 : Option Addr) (c1 : Nat) (l1 : List S34) (r : List S34) (w : World) (hr0 : Kd.C k34 w A0 l0.length l0) (hc0 : l0.length ≤ c0) (hr1 : Kd.C k34 w A1 l1.length l1) (hc1 : l1.length ≤ c1) (h : span_Join.f k l0 l1 = some r) :
    Calls Try.prog 17 #[.slice A0 l0.length c0, .slice A1 l1.length c1] w fun e w' => ∃ v0_ : Value, e = .returned v0_ ∧ Kd.R k34 34 w' w.heap.size (fun _ => True) v0_ r ∧ Below w.heap.size w w' := by
  have hen : ∀ args w, (callFunc 33 args).run Try.prog w = .ok (.enter 33 args) w := enters_of Try.func33 (by kernel_rfl) rfl
  have hs := siftF_calls _ 33 hen span_Join.closed k A0 c0 l0 A1 c1 l1 r w hr0 hc0 hr1 hc1 h
  go_enter Try.func17, Try.ntmps17
  go_wp2_with (go_at_call 31; refine hs.mono ?_; rintro e w' ⟨v, rfl, hR, hB⟩)
  go_ret
  exact ⟨v, rfl, hR, hB⟩

/-! ### span_Meet: function 16, told by hand -/
def span_Meet.f (k : Nat) (l0 l1 : List S34) : Option (List S34) := siftF (fun x y => x && y) k l0 l1
theorem span_Meet.mono : ∀ a0 a1 k, LeO (span_Meet.f k a0 a1) (span_Meet.f (k + 1) a0 a1) := siftF_mono _
theorem span_Meet.closed (x y : Bool) (w : World) : Calls Try.prog 32 #[.bool x, .bool y] w fun e w' => e = .returned (.bool (x && y)) ∧ w' = w := by
  cases x <;> cases y <;>
  · go_enter Try.func32, Try.ntmps32
    go_wp2
    go_ret
    exact ⟨rfl, rfl⟩
theorem span_Meet.calls (k : Nat) (A0 : Option Addr) (c0 : Nat) (l0 : List S34) (A1 : Option Addr) (c1 : Nat) (l1 : List S34) (r : List S34) (w : World) (hr0 : Kd.C k34 w A0 l0.length l0) (hc0 : l0.length ≤ c0) (hr1 : Kd.C k34 w A1 l1.length l1) (hc1 : l1.length ≤ c1) (h : span_Meet.f k l0 l1 = some r) :
    Calls Try.prog 16 #[.slice A0 l0.length c0, .slice A1 l1.length c1] w fun e w' => ∃ v0_ : Value, e = .returned v0_ ∧ Kd.R k34 34 w' w.heap.size (fun _ => True) v0_ r ∧ Below w.heap.size w w' := by
  have hen : ∀ args w, (callFunc 32 args).run Try.prog w = .ok (.enter 32 args) w := enters_of Try.func32 (by kernel_rfl) rfl
  have hs := siftF_calls _ 32 hen span_Meet.closed k A0 c0 l0 A1 c1 l1 r w hr0 hc0 hr1 hc1 h
  go_enter Try.func16, Try.ntmps16
  go_wp2_with (go_at_call 31; refine hs.mono ?_; rintro e w' ⟨v, rfl, hR, hB⟩)
  go_ret
  exact ⟨v, rfl, hR, hB⟩

/-! ### span_Less: function 18, told by hand -/
def span_Less.f (k : Nat) (l0 l1 : List S34) : Option (List S34) := siftF (fun x y => x && !y) k l0 l1
theorem span_Less.mono : ∀ a0 a1 k, LeO (span_Less.f k a0 a1) (span_Less.f (k + 1) a0 a1) := siftF_mono _
theorem span_Less.closed (x y : Bool) (w : World) : Calls Try.prog 34 #[.bool x, .bool y] w fun e w' => e = .returned (.bool (x && !y)) ∧ w' = w := by
  cases x <;> cases y <;>
  · go_enter Try.func34, Try.ntmps34
    go_wp2
    go_ret
    exact ⟨rfl, rfl⟩
theorem span_Less.calls (k : Nat) (A0 : Option Addr) (c0 : Nat) (l0 : List S34) (A1 : Option Addr) (c1 : Nat) (l1 : List S34) (r : List S34) (w : World) (hr0 : Kd.C k34 w A0 l0.length l0) (hc0 : l0.length ≤ c0) (hr1 : Kd.C k34 w A1 l1.length l1) (hc1 : l1.length ≤ c1) (h : span_Less.f k l0 l1 = some r) :
    Calls Try.prog 18 #[.slice A0 l0.length c0, .slice A1 l1.length c1] w fun e w' => ∃ v0_ : Value, e = .returned v0_ ∧ Kd.R k34 34 w' w.heap.size (fun _ => True) v0_ r ∧ Below w.heap.size w w' := by
  have hen : ∀ args w, (callFunc 34 args).run Try.prog w = .ok (.enter 34 args) w := enters_of Try.func34 (by kernel_rfl) rfl
  have hs := siftF_calls _ 34 hen span_Less.closed k A0 c0 l0 A1 c1 l1 r w hr0 hc0 hr1 hc1 h
  go_enter Try.func18, Try.ntmps18
  go_wp2_with (go_at_call 31; refine hs.mono ?_; rintro e w' ⟨v, rfl, hR, hB⟩)
  go_ret
  exact ⟨v, rfl, hR, hB⟩

/-! ### bramblelaw02_SpanSizes: function 4, told by hand -/
def big40 (l : List S34) : Bool := decide ((0 : Int) < l.length) && decide (1099511627776 < (rd_T34 l ((l.length : Int) - 1)).f1)
def bramblelaw02_SpanSizes.f (k : Nat) (l0 l1 : List S34) : Option Bool :=
  if l0.length ≤ 100 ∧ l1.length ≤ 100 then
    (span_Norm.f k l0).bind fun x => (span_Norm.f k l1).bind fun y =>
      if (big40 x || big40 y) = true then bramblelaw02_awake.f k else
        (span_Meet.f k l0 l1).bind fun m => (span_Size.f k m).bind fun sm => (span_Join.f k l0 l1).bind fun j => (span_Size.f k j).bind fun sj => (span_Size.f k x).bind fun sx => (span_Size.f k y).bind fun sy =>
          (span_Less.f k l0 l1).bind fun q => (span_Size.f k q).bind fun sl =>
            if wrap64 (sj + sm) = wrap64 (sx + sy) ∧ wrap64 (sl + sm) = sx then bramblelaw02_awake.f k else some false
  else bramblelaw02_awake.f k
set_option maxHeartbeats 8000000 in
set_option maxRecDepth 100000 in
theorem bramblelaw02_SpanSizes.calls (k : Nat) (A0 : Option Addr) (c0 : Nat) (l0 : List S34) (A1 : Option Addr) (c1 : Nat) (l1 : List S34) (r : Bool) (w : World) (hr0 : Kd.C k34 w A0 l0.length l0) (hc0 : l0.length ≤ c0) (hr1 : Kd.C k34 w A1 l1.length l1) (hc1 : l1.length ≤ c1) (h : bramblelaw02_SpanSizes.f k l0 l1 = some r) :
    Calls Try.prog 4 #[.slice A0 l0.length c0, .slice A1 l1.length c1] w fun e w' => e = .returned (.bool r) ∧ Below w.heap.size w w' := by
  unfold bramblelaw02_SpanSizes.f at h
  have hs0' := bramblelaw02_small.calls A0 c0 l0 (decide ((l0.length : Int) ≤ 100)) w hr0 hc0 rfl
  have hs1 := fun W (hC : Kd.C k34 W A1 l1.length l1) => bramblelaw02_small.calls A1 c1 l1 (decide ((l1.length : Int) ≤ 100)) W hC hc1 rfl
  by_cases g0 : l0.length ≤ 100
  rotate_left
  · have e0 : decide ((l0.length : Int) ≤ 100) = false := by simp; omega
    rw [if_neg (fun h => g0 h.1)] at h
    rw [e0] at hs0'
    have haw := fun W => bramblelaw02_awake.calls k r W h
    clear e0 g0
    go_enter Try.func4, Try.ntmps4
    go_wp2_with (first | (go_at_call 7; refine hs0'.mono ?_; rintro e w1 ⟨rfl, hD1⟩; have hB1 : Below w.heap.size w w1 := hD1.below) | (go_at_call 9; refine (haw _).mono ?_; rintro e w2 ⟨rfl, hB2⟩))
    go_ret
    exact ⟨rfl, hB1.trans (hB2.mono hB1.size)⟩
  have e0 : decide ((l0.length : Int) ≤ 100) = true := by simp; omega
  rw [e0] at hs0'
  by_cases g1 : l1.length ≤ 100
  rotate_left
  · have e1 : decide ((l1.length : Int) ≤ 100) = false := by simp; omega
    rw [if_neg (fun h => g1 h.2)] at h
    rw [e1] at hs1
    have haw := fun W => bramblelaw02_awake.calls k r W h
    clear e0 e1 g0 g1
    go_enter Try.func4, Try.ntmps4
    go_wp2_with (first | (go_at_call 7; refine hs0'.mono ?_; clear hs0'; rintro e w1 ⟨rfl, hD1⟩; have hB1 : Below w.heap.size w w1 := hD1.below; have hs1' := hs1 w1 (Kd.C_below hr1 hB1)) | (go_at_call 7; refine hs1'.mono ?_; clear hs1'; rintro e w2 ⟨rfl, hD2⟩; have hB2 : Below w1.heap.size w1 w2 := hD2.below) | (go_at_call 9; refine (haw _).mono ?_; rintro e w3 ⟨rfl, hB3⟩))
    go_ret
    exact ⟨rfl, (hB1.trans (hB2.mono hB1.size)).trans (hB3.mono (Nat.le_trans hB1.size hB2.size))⟩
  have e1 : decide ((l1.length : Int) ≤ 100) = true := by simp; omega
  rw [e1] at hs1
  rw [if_pos ⟨g0, g1⟩] at h
  obtain ⟨x, hx, h⟩ := Option.bind_eq_some_iff.mp h
  obtain ⟨y, hy, h⟩ := Option.bind_eq_some_iff.mp h
  have hn0 := fun W hC => span_Norm.calls k A0 c0 l0 x W hC hc0 hx
  have hn1 := fun W hC => span_Norm.calls k A1 c1 l1 y W hC hc1 hy
  have H := Lib.hid h
  clear h e0 e1 hx hy
  go_enter Try.func4, Try.ntmps4
  go_wp2_with (first
    | (go_at_call 7; refine hs0'.mono ?_; clear hs0'; rintro e w1 ⟨rfl, hD1⟩; have hB1 : Below w.heap.size w w1 := hD1.below; have hs1' := hs1 w1 (Kd.C_below hr1 hB1))
    | (go_at_call 7; refine hs1'.mono ?_; clear hs1'; rintro e w2 ⟨rfl, hD2⟩; have hB2 : Below w1.heap.size w1 w2 := hD2.below; have hB02 := hB1.trans (hB2.mono hB1.size); have n0 := hn0 w2 (Kd.C_below hr0 hB02))
    | (go_at_call 15; refine n0.mono ?_; clear n0; rintro e w3 ⟨v3, rfl, R3, hB3⟩; have hB03 := hB02.trans (hB3.mono hB02.size); have n1 := hn1 w3 (Kd.C_below hr1 hB03))
    | (go_at_call 15; refine n1.mono ?_; clear n1; rintro e w4 ⟨v4, rfl, R4, hB4⟩; have hB04 := hB03.trans (hB4.mono hB03.size); obtain ⟨A3, q3, rfl, hq3, C3⟩ := Kd.R_reads R3; obtain ⟨A4, q4, rfl, hq4, C4⟩ := Kd.R_reads R4))
  obtain ⟨W5, hW5⟩ : ∃ W5, w4.alloc (Obj.cells #[.slice A3 x.length q3, .slice A4 y.length q4] 22) = W5 := ⟨_, rfl⟩
  have hB05 : Below w.heap.size w W5 := by rw [← hW5]; exact hB04.alloc hB04.size _
  have hB45 : Below w4.heap.size w4 W5 := by rw [← hW5]; exact (Below.refl _ _).alloc (Nat.le_refl _) _
  have d3 : W5.cell? ⟨w4.heap.size, 0, none⟩ = some (.slice A3 x.length q3) := by rw [← hW5]; exact blk_cell (blk_new w4 _) 0
  have d4 : W5.cell? ⟨w4.heap.size, 1, none⟩ = some (.slice A4 y.length q4) := by rw [← hW5]; exact blk_cell (blk_new w4 _) 1
  have E3 : Kd.C k34 W5 A3 x.length x := Kd.C_below (Kd.C_below C3 hB4) hB45
  have E4 : Kd.C k34 W5 A4 y.length y := Kd.C_below C4 hB45
  have D0 : Kd.C k34 W5 A0 l0.length l0 := Kd.C_below hr0 hB05
  have D1 : Kd.C k34 W5 A1 l1.length l1 := Kd.C_below hr1 hB05
  rw [hW5]
  clear hW5 hB45 C3 C4 R3 R4 hB4 hB04 hB3 hB03 hB2 hB02 hB1 hD1 hD2 hn0 hn1 hs1 hr0 hr1
  go_loopw [27] (fun i wr => ∃ n : Nat, i = .int .i64 n ∧ n ≤ 2 ∧ wr = W5 ∧ Hid (1 ≤ n → big40 x = false) ∧ Hid (2 ≤ n → big40 y = false)) (fun i _ => 2 - (intOf i).toNat)
  case atStart => exact ⟨0, rfl, by omega, rfl, Lib.hid (by omega), Lib.hid (by omega)⟩
  case round =>
    obtain ⟨n, rfl, hn, rfl, b1, b2⟩ := hrel
    by_cases hlt : n < 2
    · obtain ⟨A, q, l, hcell, hC, hbig, hnext⟩ : ∃ A q, ∃ (l : List S34), wr.cell? ⟨w4.heap.size, n, none⟩ = some (.slice A l.length q) ∧ Kd.C k34 wr A l.length l ∧ Hid (big40 l = true → bramblelaw02_awake.f k = some r) ∧ Hid (big40 l = false → (1 ≤ n + 1 → big40 x = false) ∧ (2 ≤ n + 1 → big40 y = false)) := by
        rcases (show n = 0 ∨ n = 1 by omega) with rfl | rfl
        · exact ⟨A3, q3, x, d3, E3, Lib.hid (fun hb => by have := H.out; rwa [hb, Bool.true_or, if_pos rfl] at this), Lib.hid (fun hb => ⟨fun _ => hb, fun h => by omega⟩)⟩
        · exact ⟨A4, q4, y, d4, E4, Lib.hid (fun hb => by have := H.out; rwa [hb, Bool.or_true, if_pos rfl] at this), Lib.hid (fun hb => ⟨fun _ => b1.out (by omega), fun _ => hb⟩)⟩
      by_cases hl : 0 < l.length
      · have hlm : (l.length : Int) ≤ 9223372036854775807 := by have := hC.2.1; omega
        have hj : wrap64 ((l.length : Int) - 1) = (l.length : Int) - 1 := by unfold wrap64; omega
        obtain ⟨ad, rfl, f0, f1⟩ := at_T34 hC (wrap64 ((l.length : Int) - 1)) (by omega) (by omega)
        have hjn : (wrap64 ((l.length : Int) - 1)).toNat = l.length - 1 := by omega
        rw [hjn] at f0 f1
        rw [hj] at f0 f1
        clear hjn hj
        by_cases hb : 1099511627776 < (rd_T34 l ((l.length : Int) - 1)).f1
        · have hB40 : big40 l = true := by unfold big40; rw [decide_eq_true hb, decide_eq_true (by omega)]; rfl
          have haw := fun W => bramblelaw02_awake.calls k r W (hbig.out hB40)
          clear hbig hB40
          go_wp2_with (go_at_call 9; refine (haw _).mono ?_; rintro e w6 ⟨rfl, hB6⟩)
          go_ret
          exact ⟨rfl, hB05.trans (hB6.mono hB05.size)⟩
        · have hB40 : big40 l = false := by unfold big40; rw [decide_eq_false hb, Bool.and_false]
          have hN := Lib.hid (hnext.out hB40)
          have hd : decide ((rd_T34 l ((l.length : Int) - 1)).f1 > 1099511627776) = false := by simpa using hb
          clear hnext hbig hB40
          go_wp2
          go_roundw
          case rel => exact ⟨n + 1, by go_num, by omega, (by first | rfl | trivial), Lib.hid hN.out.1, Lib.hid hN.out.2⟩
          case measure => simp [intOf]; omega
      · have hB40 : big40 l = false := by unfold big40; rw [decide_eq_false (by omega), Bool.false_and]
        have hN := Lib.hid (hnext.out hB40)
        obtain rfl : l = [] := List.eq_nil_of_length_eq_zero (by omega)
        clear hnext hbig hB40
        go_wp2
        go_roundw
        case rel => exact ⟨n + 1, by go_num, by omega, (by first | rfl | trivial), Lib.hid hN.out.1, Lib.hid hN.out.2⟩
        case measure => simp [intOf]; omega
    · obtain rfl : n = 2 := by omega
      have hH := H.out
      rw [b1.out (by omega), b2.out (by omega)] at hH
      simp only [Bool.or_self, Bool.false_eq_true, if_false] at hH
      obtain ⟨m, hm, hH⟩ := Option.bind_eq_some_iff.mp hH
      obtain ⟨sm, hsm, hH⟩ := Option.bind_eq_some_iff.mp hH
      obtain ⟨j, hj, hH⟩ := Option.bind_eq_some_iff.mp hH
      obtain ⟨sj, hsj, hH⟩ := Option.bind_eq_some_iff.mp hH
      obtain ⟨sx, hsx, hH⟩ := Option.bind_eq_some_iff.mp hH
      obtain ⟨sy, hsy, hH⟩ := Option.bind_eq_some_iff.mp hH
      obtain ⟨q, hq, hH⟩ := Option.bind_eq_some_iff.mp hH
      obtain ⟨sl, hsl, hH⟩ := Option.bind_eq_some_iff.mp hH
      have z1 := span_Meet.calls k A0 c0 l0 A1 c1 l1 m wr D0 hc0 D1 hc1 hm
      have mJ := fun W h0 h1 => span_Join.calls k A0 c0 l0 A1 c1 l1 j W h0 hc0 h1 hc1 hj
      have mL := fun W h0 h1 => span_Less.calls k A0 c0 l0 A1 c1 l1 q W h0 hc0 h1 hc1 hq
      clear b1 b2 hm hj hq d3 d4
      by_cases e1 : wrap64 (sj + sm) = wrap64 (sx + sy)
      · by_cases e2 : wrap64 (sl + sm) = sx
        · rw [if_pos ⟨e1, e2⟩] at hH
          have haw := fun W => bramblelaw02_awake.calls k r W hH
          clear hH
          go_wp2_with (first
            | (go_at_call 16; refine z1.mono ?_; clear z1; rintro e w6 ⟨v6, rfl, R6, hB6⟩; obtain ⟨A6, q6, rfl, hq6, C6⟩ := Kd.R_reads R6; have z2 := span_Size.calls k A6 q6 m sm w6 C6 hq6 hsm)
            | (go_at_call 12; refine z2.mono ?_; clear z2; rintro e w7 ⟨rfl, hB7⟩; have hBa := hB6.trans (hB7.mono hB6.size); have z3 := mJ w7 (Kd.C_below D0 hBa) (Kd.C_below D1 hBa))
            | (go_at_call 17; refine z3.mono ?_; clear z3; rintro e w8 ⟨v8, rfl, R8, hB8⟩; obtain ⟨A8, q8, rfl, hq8, C8⟩ := Kd.R_reads R8; have hBb := hBa.trans (hB8.mono hBa.size); have z4 := span_Size.calls k A8 q8 j sj w8 C8 hq8 hsj)
            | (go_at_call 12; refine z4.mono ?_; clear z4; rintro e w9 ⟨rfl, hB9⟩; have hBc := hBb.trans (hB9.mono hBb.size); have z5 := span_Size.calls k A3 q3 x sx w9 (Kd.C_below E3 hBc) hq3 hsx)
            | (go_at_call 12; refine z5.mono ?_; clear z5; rintro e w10 ⟨rfl, hB10⟩; have hBd := hBc.trans (hB10.mono hBc.size); have z6 := span_Size.calls k A4 q4 y sy w10 (Kd.C_below E4 hBd) hq4 hsy)
            | (go_at_call 12; refine z6.mono ?_; clear z6; rintro e w11 ⟨rfl, hB11⟩; have hBe := hBd.trans (hB11.mono hBd.size); have z7 := mL w11 (Kd.C_below D0 hBe) (Kd.C_below D1 hBe))
            | (go_at_call 18; refine z7.mono ?_; clear z7; rintro e w12 ⟨v12, rfl, R12, hB12⟩; obtain ⟨A12, q12, rfl, hq12, C12⟩ := Kd.R_reads R12; have hBf := hBe.trans (hB12.mono hBe.size); have z8 := span_Size.calls k A12 q12 q sl w12 C12 hq12 hsl)
            | (go_at_call 12; refine z8.mono ?_; clear z8; rintro e w13 ⟨rfl, hB13⟩; have hBg := hBf.trans (hB13.mono hBf.size); have z9 := span_Size.calls k A3 q3 x sx w13 (Kd.C_below E3 hBg) hq3 hsx)
            | (go_at_call 12; refine z9.mono ?_; clear z9; rintro e w14 ⟨rfl, hB14⟩; have hBh := hBg.trans (hB14.mono hBg.size))
            | (go_at_call 9; refine (haw _).mono ?_; rintro e w15 ⟨rfl, hB15⟩))
          go_ret
          exact ⟨rfl, hB05.trans ((hBh.trans (hB15.mono hBh.size)).mono hB05.size)⟩
        · rw [if_neg (fun h => e2 h.2)] at hH
          obtain rfl := Option.some.inj hH
          clear hH
          go_wp2_with (first
            | (go_at_call 16; refine z1.mono ?_; clear z1; rintro e w6 ⟨v6, rfl, R6, hB6⟩; obtain ⟨A6, q6, rfl, hq6, C6⟩ := Kd.R_reads R6; have z2 := span_Size.calls k A6 q6 m sm w6 C6 hq6 hsm)
            | (go_at_call 12; refine z2.mono ?_; clear z2; rintro e w7 ⟨rfl, hB7⟩; have hBa := hB6.trans (hB7.mono hB6.size); have z3 := mJ w7 (Kd.C_below D0 hBa) (Kd.C_below D1 hBa))
            | (go_at_call 17; refine z3.mono ?_; clear z3; rintro e w8 ⟨v8, rfl, R8, hB8⟩; obtain ⟨A8, q8, rfl, hq8, C8⟩ := Kd.R_reads R8; have hBb := hBa.trans (hB8.mono hBa.size); have z4 := span_Size.calls k A8 q8 j sj w8 C8 hq8 hsj)
            | (go_at_call 12; refine z4.mono ?_; clear z4; rintro e w9 ⟨rfl, hB9⟩; have hBc := hBb.trans (hB9.mono hBb.size); have z5 := span_Size.calls k A3 q3 x sx w9 (Kd.C_below E3 hBc) hq3 hsx)
            | (go_at_call 12; refine z5.mono ?_; clear z5; rintro e w10 ⟨rfl, hB10⟩; have hBd := hBc.trans (hB10.mono hBc.size); have z6 := span_Size.calls k A4 q4 y sy w10 (Kd.C_below E4 hBd) hq4 hsy)
            | (go_at_call 12; refine z6.mono ?_; clear z6; rintro e w11 ⟨rfl, hB11⟩; have hBe := hBd.trans (hB11.mono hBd.size); have z7 := mL w11 (Kd.C_below D0 hBe) (Kd.C_below D1 hBe))
            | (go_at_call 18; refine z7.mono ?_; clear z7; rintro e w12 ⟨v12, rfl, R12, hB12⟩; obtain ⟨A12, q12, rfl, hq12, C12⟩ := Kd.R_reads R12; have hBf := hBe.trans (hB12.mono hBe.size); have z8 := span_Size.calls k A12 q12 q sl w12 C12 hq12 hsl)
            | (go_at_call 12; refine z8.mono ?_; clear z8; rintro e w13 ⟨rfl, hB13⟩; have hBg := hBf.trans (hB13.mono hBf.size); have z9 := span_Size.calls k A3 q3 x sx w13 (Kd.C_below E3 hBg) hq3 hsx)
            | (go_at_call 12; refine z9.mono ?_; clear z9; rintro e w14 ⟨rfl, hB14⟩; have hBh := hBg.trans (hB14.mono hBg.size)))
          go_ret
          exact ⟨rfl, hB05.trans (hBh.mono hB05.size)⟩
      · rw [if_neg (fun h => e1 h.1)] at hH
        obtain rfl := Option.some.inj hH
        clear hH
        go_wp2_with (first
          | (go_at_call 16; refine z1.mono ?_; clear z1; rintro e w6 ⟨v6, rfl, R6, hB6⟩; obtain ⟨A6, q6, rfl, hq6, C6⟩ := Kd.R_reads R6; have z2 := span_Size.calls k A6 q6 m sm w6 C6 hq6 hsm)
          | (go_at_call 12; refine z2.mono ?_; clear z2; rintro e w7 ⟨rfl, hB7⟩; have hBa := hB6.trans (hB7.mono hB6.size); have z3 := mJ w7 (Kd.C_below D0 hBa) (Kd.C_below D1 hBa))
          | (go_at_call 17; refine z3.mono ?_; clear z3; rintro e w8 ⟨v8, rfl, R8, hB8⟩; obtain ⟨A8, q8, rfl, hq8, C8⟩ := Kd.R_reads R8; have hBb := hBa.trans (hB8.mono hBa.size); have z4 := span_Size.calls k A8 q8 j sj w8 C8 hq8 hsj)
          | (go_at_call 12; refine z4.mono ?_; clear z4; rintro e w9 ⟨rfl, hB9⟩; have hBc := hBb.trans (hB9.mono hBb.size); have z5 := span_Size.calls k A3 q3 x sx w9 (Kd.C_below E3 hBc) hq3 hsx)
          | (go_at_call 12; refine z5.mono ?_; clear z5; rintro e w10 ⟨rfl, hB10⟩; have hBd := hBc.trans (hB10.mono hBc.size); have z6 := span_Size.calls k A4 q4 y sy w10 (Kd.C_below E4 hBd) hq4 hsy)
          | (go_at_call 12; refine z6.mono ?_; clear z6; rintro e w11 ⟨rfl, hB11⟩; have hBe := hBd.trans (hB11.mono hBd.size); have z7 := mL w11 (Kd.C_below D0 hBe) (Kd.C_below D1 hBe)))
        go_ret
        exact ⟨rfl, hB05.trans (hBe.mono hB05.size)⟩

end Go.Proofs.Ytebphbnkogianaa.PSpanSizes
