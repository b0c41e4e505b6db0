/- Laid by this work's own program gp.py, in the form of the kit's print, with some functions told by hand. -/
import Derived.Test.YtkfpmolplemdlaaPSetsDerivex0
import Derived.Test.YtkfpmolplemdlaaPSetsDerivex3
import Derived.Test.YtkfpmolplemdlaaPSetsDerivex4
namespace Go.Proofs.Ytkfpmolplemdlaa.PSetsDerive
open Go.RowKit Go.Proofs.YtkfpmolplemdlaaW.PrintWords Go.Proofs.YtkfpmolplemdlaaW.PrintLast Go.Proofs.YtkfpmolplemdlaaW.PrintMore
attribute [local go_sem] max2_int min2_int max_two min_two max_three min_three max_four min_four   -- for this text's walks alone
set_option linter.unusedVariables false
set_option linter.unusedSimpArgs false

/-! ### bramblelaw10_SetsDerive: function 3, told by hand -/
/-- Which symbol is asked of. -/
def symV (a : Int) (N : Nat) : Int := a % 18446744073709551616 % (N : Int)
def bramblelaw10_SetsDerive.f (k : Nat) (l0_0 l0_1 : List ByteArray) (l0_2 : List S40) (a1 : Int) (l2 : List Int) : Option Bool :=
  (bramblelaw10_few.f k l0_0 l0_1 l0_2).bind fun c => if c = true then
    if l2.length ≤ 1000 then
      if flOk (l0_0.length + l0_1.length) l0_1.length (l0_2.map prE) = true then
        (rowV k l0_0 l0_1 l0_2 l2 62 (symV a1 (l0_0.length + l0_1.length)) 60).bind fun m => if m.2.1 = true then
          (sets_First.f k l0_0 l0_1 l0_2).bind fun Ss => (sets_Useful.f k l0_0 l0_1 l0_2).bind fun us => (sets_Empty.f k l0_0 l0_1 l0_2).bind fun em =>
            if Ss.length = l0_0.length + l0_1.length ∧ us.length = l0_0.length + l0_1.length ∧ em.length = l0_0.length + l0_1.length ∧ Deri.at_ us (symV a1 (l0_0.length + l0_1.length)) = true ∧ (m.1 = [] → Deri.at_ em (symV a1 (l0_0.length + l0_1.length)) = true) ∧ (m.1 ≠ [] → rd m.1 0 ∈ Ss.getD (symV a1 (l0_0.length + l0_1.length)).toNat []) then bramblelaw10_awake.f else none
        else bramblelaw10_awake.f
      else none
    else bramblelaw10_awake.f
  else bramblelaw10_awake.f
theorem rdDropN (l : List Int) (i : Nat) (h : i < l.length) : l.drop i = rd l (i : Int) :: l.drop (i + 1) := by
  rw [List.drop_eq_getElem_cons h]
  congr 1
  show _ = l.getD ((i : Int)).toNat _
  rw [Int.toNat_natCast, List.getD_eq_getElem?_getD, List.getElem?_eq_getElem h]
  rfl
set_option maxHeartbeats 1600000 in
set_option maxRecDepth 100000 in
theorem bramblelaw10_SetsDerive.calls (k : Nat) (A0_0 : Option Addr) (c0_0 : Nat) (l0_0 : List ByteArray) (A0_1 : Option Addr) (c0_1 : Nat) (l0_1 : List ByteArray) (A0_2 : Option Addr) (c0_2 : Nat) (l0_2 : List S40) (a1 : Int) (A2 : Option Addr) (c2 : Nat) (l2 : List Int) (r : Bool) (w : World) (hr0_0 : Kd.C Kd.string w A0_0 l0_0.length l0_0) (hc0_0 : l0_0.length ≤ c0_0) (hr0_1 : Kd.C Kd.string w A0_1 l0_1.length l0_1) (hc0_1 : l0_1.length ≤ c0_1) (hr0_2 : Kd.C k40 w A0_2 l0_2.length l0_2) (hc0_2 : l0_2.length ≤ c0_2) (hr2 : Kd.C (Kd.int .i64) w A2 l2.length l2) (hc2 : l2.length ≤ c2) (h : bramblelaw10_SetsDerive.f k l0_0 l0_1 l0_2 a1 l2 = some r) :
    Calls Try.prog 3 #[.agg #[.slice A0_0 l0_0.length c0_0, .slice A0_1 l0_1.length c0_1, .slice A0_2 l0_2.length c0_2], .int .i64 a1, .slice A2 l2.length c2] w fun e w' => e = .returned (.bool r) ∧ Below w.heap.size w w' := by
  unfold bramblelaw10_SetsDerive.f at h
  obtain ⟨c, hc, h⟩ := Option.bind_eq_some_iff.mp h
  obtain ⟨W1, hW1⟩ : ∃ W1, w.alloc (.cells #[.slice A0_0 l0_0.length c0_0, .slice A0_1 l0_1.length c0_1, .slice A0_2 l0_2.length c0_2] 25) = W1 := ⟨_, rfl⟩
  have hb1 : Below w.heap.size w W1 := by rw [← hW1]; exact (Below.refl _ _).alloc (Nat.le_refl _) _
  have f1 : W1.heap[w.heap.size]? = some (.cells #[.slice A0_0 l0_0.length c0_0, .slice A0_1 l0_1.length c0_1, .slice A0_2 l0_2.length c0_2] 25 (0, 0)) := by rw [← hW1]; exact blk_new w _
  have z0 : W1.cell? ⟨w.heap.size, 0, none⟩ = some (.slice A0_0 l0_0.length c0_0) := blk_cell f1 0
  have z1 : W1.cell? ⟨w.heap.size, 1, none⟩ = some (.slice A0_1 l0_1.length c0_1) := blk_cell f1 1
  have z2 : W1.cell? ⟨w.heap.size, 2, none⟩ = some (.slice A0_2 l0_2.length c0_2) := blk_cell f1 2
  have sz1 : W1.heap.size = w.heap.size + 1 := by rw [← hW1]; simp
  have hfew := bramblelaw10_few.calls k A0_0 c0_0 l0_0 A0_1 c0_1 l0_1 A0_2 c0_2 l0_2 c W1 (Kd.C_below hr0_0 hb1) hc0_0 (Kd.C_below hr0_1 hb1) hc0_1 (Kd.C_below hr0_2 hb1) hc0_2 hc
  clear hc
  cases c with
  | false =>
    rw [if_neg (by decide)] at h
    have haw := fun W => bramblelaw10_awake.calls r W h
    clear h hr0_0 hr0_1 hr0_2 f1
    go_enter Try.func3, Try.ntmps3
    go_wp2_with (first | (go_at_call 7; refine hfew.mono ?_; rintro e W2 ⟨rfl, hB2⟩) | (go_at_call 8; refine (haw _).mono ?_; rintro e W3 ⟨rfl, hB3⟩))
    go_ret
    exact ⟨rfl, (hb1.trans (hB2.mono hb1.size)).trans (hB3.mono (hb1.trans (hB2.mono hb1.size)).size)⟩
  | true =>
  rw [if_pos rfl] at h
  by_cases hp : l2.length ≤ 1000
  rotate_left
  · rw [if_neg hp] at h
    have haw := fun W => bramblelaw10_awake.calls r W h
    have hdp : decide ((1000 : Int) < l2.length) = true := by rw [decide_eq_true_eq]; omega
    clear h hr0_0 hr0_1 hr0_2 f1
    go_enter Try.func3, Try.ntmps3
    go_wp2_with (first | (go_at_call 7; refine hfew.mono ?_; rintro e W2 ⟨rfl, hB2⟩) | (go_at_call 8; refine (haw _).mono ?_; rintro e W3 ⟨rfl, hB3⟩))
    go_ret
    exact ⟨rfl, (hb1.trans (hB2.mono hb1.size)).trans (hB3.mono (hb1.trans (hB2.mono hb1.size)).size)⟩
  rw [if_pos hp] at h
  have hdp : decide ((1000 : Int) < l2.length) = false := by rw [decide_eq_false_iff_not]; omega
  split at h
  case isFalse => cases h
  rename_i hok
  obtain ⟨N, hN⟩ : ∃ N, l0_0.length + l0_1.length = N := ⟨_, rfl⟩
  rw [hN] at h hok
  have HN : (l0_0.length : Int) + (l0_1.length : Int) = (N : Int) := by omega
  have hN1 := (flOk_N hok).1
  have hN2 := (flOk_N hok).2
  obtain ⟨s, hs⟩ : ∃ s, symV a1 N = s := ⟨_, rfl⟩
  rw [hs] at h
  have hs0 : 0 ≤ s := by rw [← hs]; exact Int.emod_nonneg _ (by omega)
  have hs1 : s < N := by rw [← hs]; exact Int.emod_lt_of_pos _ (by omega)
  obtain ⟨m, hm, h⟩ := Option.bind_eq_some_iff.mp h
  obtain ⟨ml, mok, mf⟩ := m
  have hrow := fun bf (hbf : w.heap.size ≤ bf) W (hB : Below w.heap.size w W) (hb : W.heap[bf]? = some (.cells #[.int .i64 60] 3 (0, 0))) => row_calls k w A0_0 c0_0 l0_0 A0_1 c0_1 l0_1 A0_2 c0_2 l0_2 A2 c2 l2 hr0_0 hc0_0 hr0_1 hc0_1 hr0_2 hc0_2 hr2 hp bf hbf 62 s 60 ml mok mf W hm (by decide) (by decide) hB hb
  have hsw : wrap64 ((IntKind.u64.wrap a1).tmod (N : Int)) = s := by
    rw [← hs]
    exact pick_eq a1 N (by omega) (by omega)
  have hNz : (IntKind.u64.wrap (N : Int) == 0) = false := by rw [beq_eq_false_iff_ne, show IntKind.u64.wrap (N : Int) = N from by simp [IntKind.wrap, IntKind.bits, IntKind.signed]; omega]; omega
  clear hm hs
  have F1 := Lib.hid f1
  clear f1
  cases mok with
  | false =>
    rw [if_neg (by simp)] at h
    have haw := fun W => bramblelaw10_awake.calls r W h
    clear h
    go_enter Try.func3, Try.ntmps3
    go_wp2_with (first | (go_at_call 7; refine hfew.mono ?_; rintro e W2 ⟨rfl, hB2⟩; have HB2 := Lib.hid (hb1.trans (hB2.mono hb1.size)); have y0 := pw_cell_below hB2 z0; have y1 := pw_cell_below hB2 z1; have y2 := pw_cell_below hB2 z2; have hBa : Below W2.heap.size W2 (W2.alloc (.cells #[.int .i64 60] 3)) := (Below.refl _ _).alloc (Nat.le_refl _) _; have x0 := pw_cell_below hBa y0; have x1 := pw_cell_below hBa y1; have x2 := pw_cell_below hBa y2) | (go_at_call 8; refine (haw _).mono ?_; rintro e W3 ⟨rfl, hB3⟩) | (go_at_call 9; rw [hsw]; refine (hrow W2.heap.size HB2.out.size _ (HB2.out.trans ((Below.refl W2.heap.size W2).alloc (Nat.le_refl _) _ |>.mono HB2.out.size)) (blk_new W2 _)).mono ?_; rintro e W5 ⟨v5, rfl, hR5, hb5, hu5, hk5⟩))
    go_ret
    exact ⟨rfl, hu5.trans (hB3.mono hu5.size)⟩
  | true =>
    rw [if_pos rfl] at h
    obtain ⟨Ss, q1, h⟩ := Option.bind_eq_some_iff.mp h
    obtain ⟨us, q2, h⟩ := Option.bind_eq_some_iff.mp h
    obtain ⟨em, q3, h⟩ := Option.bind_eq_some_iff.mp h
    split at h
    case isFalse => cases h
    rename_i hg
    have haw := fun W => bramblelaw10_awake.calls r W h
    have hf1 := fun W (h : Below w.heap.size w W) => sets_First.calls k A0_0 c0_0 l0_0 A0_1 c0_1 l0_1 A0_2 c0_2 l0_2 Ss W (Kd.C_below hr0_0 h) hc0_0 (Kd.C_below hr0_1 h) hc0_1 (Kd.C_below hr0_2 h) hc0_2 q1
    have hf2 := fun W (h : Below w.heap.size w W) => sets_Useful.calls k A0_0 c0_0 l0_0 A0_1 c0_1 l0_1 A0_2 c0_2 l0_2 us W (Kd.C_below hr0_0 h) hc0_0 (Kd.C_below hr0_1 h) hc0_1 (Kd.C_below hr0_2 h) hc0_2 q2
    have hf3 := fun W (h : Below w.heap.size w W) => sets_Empty.calls k A0_0 c0_0 l0_0 A0_1 c0_1 l0_1 A0_2 c0_2 l0_2 em W (Kd.C_below hr0_0 h) hc0_0 (Kd.C_below hr0_1 h) hc0_1 (Kd.C_below hr0_2 h) hc0_2 q3
    clear q1 q2 q3
    have HG := Lib.hid hg
    clear hg h
    go_enter Try.func3, Try.ntmps3
    go_wp2_with (first | (go_at_call 7; refine hfew.mono ?_; rintro e W2 ⟨rfl, hB2⟩; have HB2 := Lib.hid (hb1.trans (hB2.mono hb1.size)); have y0 := pw_cell_below hB2 z0; have y1 := pw_cell_below hB2 z1; have y2 := pw_cell_below hB2 z2; have hBa : Below W2.heap.size W2 (W2.alloc (.cells #[.int .i64 60] 3)) := (Below.refl _ _).alloc (Nat.le_refl _) _; have x0 := pw_cell_below hBa y0; have x1 := pw_cell_below hBa y1; have x2 := pw_cell_below hBa y2; have F2 := Lib.hid (blk_below F1.out hB2)) | (go_at_call 9; rw [hsw]; refine (hrow W2.heap.size HB2.out.size _ (HB2.out.trans ((Below.refl W2.heap.size W2).alloc (Nat.le_refl _) _ |>.mono HB2.out.size)) (blk_new W2 _)).mono ?_; rintro e W5 ⟨v5, rfl, hR5, hb5, hu5, hk5⟩; obtain ⟨A5, c5, hv5, hl5, hC5⟩ := Kd.R_reads hR5; subst hv5; have F5 := Lib.hid (hk5.blk (blk_alloc F2.out (.cells #[.int .i64 60] 3)) (show w.heap.size ≠ W2.heap.size by have := hB2.size; omega) (by simp))))
    rename_i K6 hK6
    obtain ⟨e1, e2, e3, hus, hme, hmf⟩ := HG.out
    have hb5d : Below w.heap.size w W5.drew := below_drew hu5
    have F5d := blk_drew F5.out
    have hHeld : (fun X => X.cell? ⟨w.heap.size, 0, none⟩ = some (.slice A0_0 l0_0.length c0_0) ∧ X.cell? ⟨w.heap.size, 1, none⟩ = some (.slice A0_1 l0_1.length c0_1) ∧ X.cell? ⟨w.heap.size, 2, none⟩ = some (.slice A0_2 l0_2.length c0_2)) W5.drew := ⟨blk_cell F5d 0, blk_cell F5d 1, blk_cell F5d 2⟩
    have keep3 : ∀ X Y : World, Below X.heap.size X Y → (fun X => X.cell? ⟨w.heap.size, 0, none⟩ = some (.slice A0_0 l0_0.length c0_0) ∧ X.cell? ⟨w.heap.size, 1, none⟩ = some (.slice A0_1 l0_1.length c0_1) ∧ X.cell? ⟨w.heap.size, 2, none⟩ = some (.slice A0_2 l0_2.length c0_2)) X → (fun X => X.cell? ⟨w.heap.size, 0, none⟩ = some (.slice A0_0 l0_0.length c0_0) ∧ X.cell? ⟨w.heap.size, 1, none⟩ = some (.slice A0_1 l0_1.length c0_1) ∧ X.cell? ⟨w.heap.size, 2, none⟩ = some (.slice A0_2 l0_2.length c0_2)) Y := fun X Y h hh => ⟨pw_cell_below h hh.1, pw_cell_below h hh.2.1, pw_cell_below h hh.2.2⟩
    refine Ahd.wp_qz (start_ (S := (fun X => X.cell? ⟨w.heap.size, 0, none⟩ = some (.slice A0_0 l0_0.length c0_0) ∧ X.cell? ⟨w.heap.size, 1, none⟩ = some (.slice A0_1 l0_1.length c0_1) ∧ X.cell? ⟨w.heap.size, 2, none⟩ = some (.slice A0_2 l0_2.length c0_2))) (ds := []) #[false, false, false, false, false, false, false, false, false] (by kernel_rfl) rfl rfl hHeld (fun h0_ => ?_))
    clear h0_
    refine take_ (i := 0) (N := (some 47)) (v := ?_) (a' := ?_) #[true, false, false, false, false, false, false, false, false] rfl rfl (by kernel_rfl) (fun _ _ _ h => h) (Or.inl ⟨by rfl, ?_⟩) hHeld ?_ ?_
    rotate_left
    · rintro w' ⟨s0, s1, s2⟩
      go_simp
      with_reducible rfl
    rotate_left
    · simp only [Act.put, List.setIfInBounds_toArray, List.set_cons_zero, List.set_cons_succ]
      rfl
    refine take_ (i := 2) (N := (some 49)) (v := ?_) (a' := ?_) #[true, false, true, false, false, false, false, false, false] rfl rfl (by kernel_rfl) (fun _ _ _ h => h) (Or.inl ⟨by rfl, ?_⟩) hHeld ?_ ?_
    rotate_left
    · rintro w' ⟨s0, s1, s2⟩
      go_simp
      with_reducible rfl
    rotate_left
    · simp only [Act.put, List.setIfInBounds_toArray, List.set_cons_zero, List.set_cons_succ]
      rfl
    refine take_ (i := 4) (N := (some 51)) (v := ?_) (a' := ?_) #[true, false, true, false, true, false, false, false, false] rfl rfl (by kernel_rfl) (fun _ _ _ h => h) (Or.inl ⟨by rfl, ?_⟩) hHeld ?_ ?_
    rotate_left
    · rintro w' ⟨s0, s1, s2⟩
      go_simp
      with_reducible rfl
    rotate_left
    · simp only [Act.put, List.setIfInBounds_toArray, List.set_cons_zero, List.set_cons_succ]
      rfl
    refine one_ (i := 1) (N := (some 48)) #[true, true, true, false, true, false, false, false, false] rfl rfl (by kernel_rfl) (by decide) (fun K hK => ?_)
    refine goes_ Try.func10 (by kernel_rfl) rfl #[.agg #[.slice A0_0 l0_0.length c0_0, .slice A0_1 l0_1.length c0_1, .slice A0_2 l0_2.length c0_2]] (by rfl) rfl rfl (by first | rfl | (simp [Act.eval]; done) | (simp [go_sem]; done)) ?_
    refine (hf2 W5.drew hb5d).mono ?_
    rintro e W6 ⟨v6, rfl, hR6, hB6⟩
    obtain ⟨B6, d6, hv6, hl6, hC6⟩ := Kd.R_reads hR6
    rw [e2] at hv6 hl6 hC6
    subst hv6
    have hb6 := hb5d.trans (hB6.mono hb5d.size)
    refine ⟨_, rfl, ?_⟩
    have hh6 := keep3 _ _ hB6 hHeld
    refine hK.out _ _ hh6 (fun h0_ => ?_)
    clear hK K h0_
    refine one_ (i := 3) (N := (some 50)) #[true, true, true, true, true, false, false, false, false] rfl rfl (by kernel_rfl) (by decide) (fun K hK => ?_)
    refine goes_ Try.func11 (by kernel_rfl) rfl #[.agg #[.slice A0_0 l0_0.length c0_0, .slice A0_1 l0_1.length c0_1, .slice A0_2 l0_2.length c0_2]] (by rfl) rfl rfl (by first | rfl | (simp [Act.eval]; done) | (simp [go_sem]; done)) ?_
    refine (hf3 W6 hb6).mono ?_
    rintro e W7 ⟨v7, rfl, hR7, hB7⟩
    obtain ⟨B7, d7, hv7, hl7, hC7⟩ := Kd.R_reads hR7
    rw [e3] at hv7 hl7 hC7
    subst hv7
    have hb7 := hb6.trans (hB7.mono hb6.size)
    refine ⟨_, rfl, ?_⟩
    have hh7 := keep3 _ _ hB7 hh6
    refine hK.out _ _ hh7 (fun h0_ => ?_)
    clear hK K h0_
    refine one_ (i := 5) (N := (some 52)) #[true, true, true, true, true, true, false, false, false] rfl rfl (by kernel_rfl) (by decide) (fun K hK => ?_)
    refine goes_ Try.func12 (by kernel_rfl) rfl #[.agg #[.slice A0_0 l0_0.length c0_0, .slice A0_1 l0_1.length c0_1, .slice A0_2 l0_2.length c0_2]] (by rfl) rfl rfl (by first | rfl | (simp [Act.eval]; done) | (simp [go_sem]; done)) ?_
    refine (hf1 W7 hb7).mono ?_
    rintro e W8 ⟨v8, rfl, hR8, hB8⟩
    obtain ⟨B8, d8, hv8, hl8, hC8⟩ := Kd.R_reads hR8
    rw [e1] at hv8 hl8 hC8
    subst hv8
    have hb8 := hb7.trans (hB8.mono hb7.size)
    refine ⟨_, rfl, ?_⟩
    have hh8 := keep3 _ _ hB8 hh7
    refine hK.out _ _ hh8 (fun h0_ => ?_)
    clear hK K h0_
    refine pure_ (i := 6) (N := (some 11)) (v := ?_) (a' := ?_) #[true, true, true, true, true, true, true, false, false] rfl rfl (by kernel_rfl) (fun _ _ _ h => h) (Or.inl ⟨by rfl, ?_⟩) ?_ ?_
    rotate_left
    · intro w'
      go_simp
      with_reducible rfl
    rotate_left
    · simp only [Act.put, List.setIfInBounds_toArray, List.set_cons_zero, List.set_cons_succ]
      rfl
    refine pure_ (i := 7) (N := (some 12)) (v := ?_) (a' := ?_) #[true, true, true, true, true, true, true, true, false] rfl rfl (by kernel_rfl) (fun _ _ _ h => h) (Or.inl ⟨by rfl, ?_⟩) ?_ ?_
    rotate_left
    · intro w'
      go_simp
      with_reducible rfl
    rotate_left
    · simp only [Act.put, List.setIfInBounds_toArray, List.set_cons_zero, List.set_cons_succ]
      rfl
    refine pure_ (i := 8) (N := (some 13)) (v := ?_) (a' := ?_) #[true, true, true, true, true, true, true, true, true] rfl rfl (by kernel_rfl) (fun _ _ _ h => h) (Or.inl ⟨by rfl, ?_⟩) ?_ ?_
    rotate_left
    · intro w'
      go_simp
      with_reducible rfl
    rotate_left
    · simp only [Act.put, List.setIfInBounds_toArray, List.set_cons_zero, List.set_cons_succ]
      rfl
    refine done_ (by kernel_rfl) ?_
    refine hK6 _ _ ?_
    obtain ⟨z0, z1, z2⟩ := hh8
    have hC5d : Kd.C (Kd.int .i64) W5.drew A5 ml.length ml := Kd.C_drew hC5
    have C5 := Kd.C_below (Kd.C_below (Kd.C_below hC5d hB6) hB7) hB8
    obtain ⟨a6, ha6, k6⟩ := Kd.at_bool hC6 s hs0 hs1
    obtain ⟨a7, ha7, k7⟩ := Kd.at_bool hC7 s hs0 hs1
    obtain ⟨a8, A9, c9, ha8, k8, l9, C9⟩ := RAhead.atL hC8 s.toNat (by omega)
    subst ha6 ha7 ha8
    have k6' : W8.cell? (a6.add s.toNat) = some (.bool (Deri.at_ us s)) := pw_cell_below hB8 (pw_cell_below hB7 k6)
    rw [hus] at k6'
    have k7' : W8.cell? (a7.add s.toNat) = some (.bool (Deri.at_ em s)) := pw_cell_below hB8 k7
    obtain ⟨Sl, hSl⟩ : ∃ S, Ss.getD s.toNat [] = S := ⟨_, rfl⟩
    rw [hSl] at k8 l9 C9 hmf
    have hSll : Sl.length ≤ 9223372036854775807 := C9.2.1
    have hmll : ml.length ≤ 9223372036854775807 := C5.2.1
    have hsN : decide ((N : Int) ≤ s) = false := by rw [decide_eq_false_iff_not]; omega
    clear hK6 keep3 hHeld hh6 hh7 hfew hR5 hR6 hR7 hR8 hf1 hf2 hf3 e1 e2 e3 hW1 hC5 hC5d hk5 hB6 hB7 hC6 hC7 hC8 k6 k7 F5d F5 hb5 hb5d hb6 hb7 hu5 HB2 hrow hsw hNz
    by_cases hm : ml = []
    · subst hm
      rw [hme rfl] at k7'
      go_wp2_with (go_at_call 8; refine (haw _).mono ?_; rintro e W9 ⟨rfl, hB9⟩)
      go_ret
      exact ⟨rfl, hb8.trans (hB9.mono hb8.size)⟩
    · have hml0 : 0 < ml.length := List.length_pos_iff.2 hm
      have hmz : ((ml.length : Int) == 0) = false := by rw [beq_eq_false_iff_ne]; omega
      obtain ⟨a5, ha5, k5⟩ := Kd.at_int C5 0 (by omega) (by omega)
      subst ha5
      obtain ⟨hd, hhd⟩ : ∃ x, rd ml 0 = x := ⟨_, rfl⟩
      rw [hhd] at k5 hmf
      have k5' : W8.cell? a5 = some (.int .i64 hd) := by rw [show a5.add (0 : Int).toNat = a5 from by unfold Addr.add; cases a5; split <;> simp_all] at k5; exact k5
      have HM := Lib.hid (show hd ∈ Sl.drop 0 from hmf hm)
      clear hmf hm hme k5 C5 hhd k7'
      go_wp2
      go_loopw [15, 91] (fun x i wx => ∃ j : Nat, i = .int .i64 (j : Int) ∧ j ≤ Sl.length ∧ Hid (hd ∈ Sl.drop j) ∧ Below W8.heap.size W8 wx) (fun _ i _ => Sl.length - (Go.RowKit.intOf i).toNat)
      case atStart => exact ⟨0, rfl, Nat.zero_le _, HM, Below.refl _ _⟩
      case round =>
        clear HM
        obtain ⟨j, rfl, hj, HM, hbx⟩ := hrel
        by_cases hlt : j < Sl.length
        · obtain ⟨a9, ha9, k9⟩ := Kd.at_int (Kd.C_below C9 hbx) (j : Int) (by omega) (by omega)
          subst ha9
          have k5x := pw_cell_below hbx k5'
          have hdx : Sl.drop j = rd Sl (j : Int) :: Sl.drop (j + 1) := rdDropN Sl j hlt
          obtain ⟨x, hx⟩ : ∃ x, rd Sl (j : Int) = x := ⟨_, rfl⟩
          rw [hx] at k9 hdx
          simp only [Int.toNat_natCast] at k9
          by_cases he : x = hd
          · have hxe : ((x : Int) == hd) = true := by simpa using he
            clear hx hdx HM
            subst he
            go_wp2_with (go_at_call 8; refine (haw _).mono ?_; rintro e W9 ⟨rfl, hB9⟩)
            go_ret
            have h8x := hb8.trans (hbx.mono hb8.size)
            exact ⟨rfl, h8x.trans (hB9.mono h8x.size)⟩
          · have hxe : ((x : Int) == hd) = false := by simpa using he
            have HM2 := Lib.hid (show hd ∈ Sl.drop (j + 1) from by have := HM.out; rw [hdx, List.mem_cons] at this; exact this.resolve_left (fun e => he e.symm))
            clear hx hdx HM
            go_wp2
            go_roundw
            case rel => exact ⟨j + 1, by go_num, by omega, HM2, hbx⟩
            case measure => simp [Go.RowKit.intOf]; omega
        · exfalso
          have := HM.out
          rw [List.drop_eq_nil_of_le (by omega)] at this
          cases this

end Go.Proofs.Ytkfpmolplemdlaa.PSetsDerive
