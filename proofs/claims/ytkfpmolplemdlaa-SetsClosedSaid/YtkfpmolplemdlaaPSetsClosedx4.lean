/- Laid by this work's own program gp.py, in the form of the kit's print, with some functions told by hand. -/
import Derived.Test.YtkfpmolplemdlaaPSetsClosedx0
import Derived.Test.YtkfpmolplemdlaaPSetsClosedx3
namespace Go.Proofs.Ytkfpmolplemdlaa.PSetsClosed
open Go.RowKit Go.Proofs.YtkfpmolplemdlaaW.PrintWords Go.Proofs.YtkfpmolplemdlaaW.PrintLast Go.Proofs.YtkfpmolplemdlaaW.PrintMore
attribute [local go_sem] max2_int min2_int max_two min_two max_three min_three max_four min_four   -- for this text's walks alone
set_option linter.unusedVariables false
set_option linter.unusedSimpArgs false
/-! ### bramblelaw10_within: function 14, told by hand -/
def withinB (a b : List (List Int)) : Bool := decide (a.length = b.length) && decide (a.length ≤ 1000000) && (List.range a.length).all fun i => decide ((a.getD i []).length + (b.getD i []).length ≤ 1000000000) && decide (MSet.unionV (b.getD i []) (a.getD i []) = b.getD i [])
theorem withinB_of {a b : List (List Int)} (h : withinB a b = true) : a.length = b.length ∧ a.length ≤ 1000000 ∧ ∀ i, i < a.length → (a.getD i []).length + (b.getD i []).length ≤ 1000000000 ∧ MSet.unionV (b.getD i []) (a.getD i []) = b.getD i [] := by
 simp only [withinB, Bool.and_eq_true, decide_eq_true_eq, List.all_eq_true, List.mem_range] at h
 exact ⟨h.1.1, h.1.2, h.2⟩
def bramblelaw10_within.f (k : Nat) (a b : List (List Int)) : Option Bool :=
 if (withinB a b && (List.range a.length).all fun i => decide (brambleref10_Ints.f k (b.getD i []) (b.getD i []) = some true)) = true then some true else none
set_option maxHeartbeats 4000000 in
set_option maxRecDepth 100000 in
theorem bramblelaw10_within.calls (k : Nat) (A0 : Option Addr) (c0 : Nat) (l0 : List (List Int)) (A1 : Option Addr) (c1 : Nat) (l1 : List (List Int)) (r : Bool) (w : World) (hr0 : Kd.C (Kd.slice 3 (Kd.int .i64)) w A0 l0.length l0) (hc0 : l0.length ≤ c0) (hr1 : Kd.C (Kd.slice 3 (Kd.int .i64)) w A1 l1.length l1) (hc1 : l1.length ≤ c1) (h : bramblelaw10_within.f k l0 l1 = some r) :
  Calls Try.prog 14 #[.slice A0 l0.length c0, .slice A1 l1.length c1] w fun e w' => e = .returned (.bool r) ∧ Below w.heap.size w w' := by
 unfold bramblelaw10_within.f at h
 split at h
 case isFalse => cases h
 rename_i hok
 obtain rfl := Option.some.inj h
 rw [Bool.and_eq_true] at hok
 obtain ⟨hok, hints⟩ := hok
 obtain ⟨he, hlen, hall⟩ := withinB_of hok
 have hI : ∀ i, i < l0.length → brambleref10_Ints.f k (l1.getD i []) (l1.getD i []) = some true := by
  simp only [decide_eq_true_eq, List.all_eq_true, List.mem_range] at hints
  exact hints
 have HE := Lib.hid he
 have HA := Lib.hid hall
 have HI := Lib.hid hI
 clear hok hints h he hall hI
 have hB0 : Below w.heap.size w w := Below.refl _ _
 go_enter Try.func14, Try.ntmps14
 go_wp2
 go_loopw [8] (fun i wr => ∃ j : Nat, i = .int .i64 (j : Int) ∧ j ≤ l0.length ∧ Below w.heap.size w wr) (fun i _ => l0.length - (Go.RowKit.intOf i).toNat)
 case atStart => exact ⟨0, rfl, Nat.zero_le _, hB0⟩
 case round =>
  obtain ⟨j, rfl, hj, hb⟩ := hrel
  by_cases hlt : j < l0.length
  ·have hlt1 : j < l1.length := by have := HE.out; omega
   obtain ⟨hsum, hun⟩ := HA.out j hlt
   have hin := HI.out j hlt
   obtain ⟨ada, B0, d0, rfl, ka, hlA, hCA⟩ := RAhead.atL hr0 j hlt
   obtain ⟨adb, B1, d1, rfl, kb, hlB, hCB⟩ := RAhead.atL hr1 j hlt1
   obtain ⟨LA, hLA⟩ : ∃ L, l0.getD j [] = L := ⟨_, rfl⟩
   obtain ⟨LB, hLB⟩ : ∃ L, l1.getD j [] = L := ⟨_, rfl⟩
   rw [hLA] at ka hlA hCA hsum hun
   rw [hLB] at kb hlB hCB hsum hun hin
   clear HI HA
   have HU := Lib.hid hun
   have HI := Lib.hid hin
   clear hLA hLB hun hin
   have hdn : decide (l1.length ≤ j) = false := by simp; omega
   go_wp2
   rename_i K6 hK6
   have hHeld : (fun X => X.cell? (adb.add j) = some (.slice B1 LB.length d1) ∧ X.cell? (ada.add j) = some (.slice B0 LA.length d0)) wr.drew := ⟨pw_cell_below (below_drew hb) kb, pw_cell_below (below_drew hb) ka⟩
   have keep : ∀ X Y : World, Below X.heap.size X Y → (fun X => X.cell? (adb.add j) = some (.slice B1 LB.length d1) ∧ X.cell? (ada.add j) = some (.slice B0 LA.length d0)) X → (fun X => X.cell? (adb.add j) = some (.slice B1 LB.length d1) ∧ X.cell? (ada.add j) = some (.slice B0 LA.length d0)) Y := fun X Y h hh => ⟨pw_cell_below h hh.1, pw_cell_below h hh.2⟩
   refine Ahd.wp_qz (start_ (S := (fun X => X.cell? (adb.add j) = some (.slice B1 LB.length d1) ∧ X.cell? (ada.add j) = some (.slice B0 LA.length d0))) (ds := []) #[false, false, false, false, false, false, false, false, false, false, false, false, false, false, false, false, false, false, false, false, false] (by kernel_rfl) rfl rfl hHeld (fun h0_ => ?_))
   clear h0_
   refine pure_ (i := 0) (N := some 11) (v := ?_) (a' := ?_) #[true, false, false, false, false, false, false, false, false, false, false, false, false, false, false, false, false, false, false, false, false] rfl rfl (by kernel_rfl) (fun _ _ _ h => h) (Or.inl ⟨by rfl, ?_⟩) ?_ ?_
   rotate_left
   ·intro w'
    go_simp
    with_reducible rfl
   rotate_left
   ·simp only [Act.put, List.setIfInBounds_toArray, List.set_cons_zero, List.set_cons_succ]
    rfl
   refine pure_ (i := 1) (N := some 12) (v := ?_) (a' := ?_) #[true, true, false, false, false, false, false, false, false, false, false, false, false, false, false, false, false, false, false, false, false] rfl rfl (by kernel_rfl) (fun _ _ _ h => h) (Or.inl ⟨by rfl, ?_⟩) ?_ ?_
   rotate_left
   ·intro w'
    go_simp
    with_reducible rfl
   rotate_left
   ·simp only [Act.put, List.setIfInBounds_toArray, List.set_cons_zero, List.set_cons_succ]
    rfl
   refine pure_ (i := 2) (N := some 13) (v := ?_) (a' := ?_) #[true, true, true, false, false, false, false, false, false, false, false, false, false, false, false, false, false, false, false, false, false] rfl rfl (by kernel_rfl) (fun _ _ _ h => h) (Or.inl ⟨by rfl, ?_⟩) ?_ ?_
   rotate_left
   ·intro w'
    go_simp
    with_reducible rfl
   rotate_left
   ·simp only [Act.put, List.setIfInBounds_toArray, List.set_cons_zero, List.set_cons_succ]
    rfl
   refine pure_ (i := 3) (N := some 14) (v := ?_) (a' := ?_) #[true, true, true, true, false, false, false, false, false, false, false, false, false, false, false, false, false, false, false, false, false] rfl rfl (by kernel_rfl) (fun _ _ _ h => h) (Or.inl ⟨by rfl, ?_⟩) ?_ ?_
   rotate_left
   ·intro w'
    go_simp
    with_reducible rfl
   rotate_left
   ·simp only [Act.put, List.setIfInBounds_toArray, List.set_cons_zero, List.set_cons_succ]
    rfl
   refine pure_ (i := 4) (N := some 15) (v := ?_) (a' := ?_) #[true, true, true, true, true, false, false, false, false, false, false, false, false, false, false, false, false, false, false, false, false] rfl rfl (by kernel_rfl) (fun _ _ _ h => h) (Or.inl ⟨by rfl, ?_⟩) ?_ ?_
   rotate_left
   ·intro w'
    go_simp
    with_reducible rfl
   rotate_left
   ·simp only [Act.put, List.setIfInBounds_toArray, List.set_cons_zero, List.set_cons_succ]
    rfl
   refine pure_ (i := 5) (N := some 16) (v := ?_) (a' := ?_) #[true, true, true, true, true, true, false, false, false, false, false, false, false, false, false, false, false, false, false, false, false] rfl rfl (by kernel_rfl) (fun _ _ _ h => h) (Or.inl ⟨by rfl, ?_⟩) ?_ ?_
   rotate_left
   ·intro w'
    go_simp
    with_reducible rfl
   rotate_left
   ·simp only [Act.put, List.setIfInBounds_toArray, List.set_cons_zero, List.set_cons_succ]
    rfl
   refine pure_ (i := 6) (N := some 17) (v := ?_) (a' := ?_) #[true, true, true, true, true, true, true, false, false, false, false, false, false, false, false, false, false, false, false, false, false] rfl rfl (by kernel_rfl) (fun _ _ _ h => h) (Or.inl ⟨by rfl, ?_⟩) ?_ ?_
   rotate_left
   ·intro w'
    go_simp
    with_reducible rfl
   rotate_left
   ·simp only [Act.put, List.setIfInBounds_toArray, List.set_cons_zero, List.set_cons_succ]
    rfl
   refine pure_ (i := 7) (N := some 18) (v := ?_) (a' := ?_) #[true, true, true, true, true, true, true, true, false, false, false, false, false, false, false, false, false, false, false, false, false] rfl rfl (by kernel_rfl) (fun _ _ _ h => h) (Or.inl ⟨by rfl, ?_⟩) ?_ ?_
   rotate_left
   ·intro w'
    go_simp
    with_reducible rfl
   rotate_left
   ·simp only [Act.put, List.setIfInBounds_toArray, List.set_cons_zero, List.set_cons_succ]
    rfl
   refine take_ (i := 8) (N := some 19) (v := ?_) (a' := ?_) #[true, true, true, true, true, true, true, true, true, false, false, false, false, false, false, false, false, false, false, false, false] rfl rfl (by kernel_rfl) (fun _ _ _ h => h) (Or.inl ⟨by rfl, ?_⟩) hHeld ?_ ?_
   rotate_left
   ·rintro w' ⟨s0, s1⟩
    go_simp
    with_reducible rfl
   rotate_left
   ·simp only [Act.put, List.setIfInBounds_toArray, List.set_cons_zero, List.set_cons_succ]
    rfl
   refine pure_ (i := 9) (N := some 20) (v := ?_) (a' := ?_) #[true, true, true, true, true, true, true, true, true, true, false, false, false, false, false, false, false, false, false, false, false] rfl rfl (by kernel_rfl) (fun _ _ _ h => h) (Or.inl ⟨by rfl, ?_⟩) ?_ ?_
   rotate_left
   ·intro w'
    go_simp
    with_reducible rfl
   rotate_left
   ·simp only [Act.put, List.setIfInBounds_toArray, List.set_cons_zero, List.set_cons_succ]
    rfl
   refine pure_ (i := 10) (N := some 21) (v := ?_) (a' := ?_) #[true, true, true, true, true, true, true, true, true, true, true, false, false, false, false, false, false, false, false, false, false] rfl rfl (by kernel_rfl) (fun _ _ _ h => h) (Or.inl ⟨by rfl, ?_⟩) ?_ ?_
   rotate_left
   ·intro w'
    go_simp
    with_reducible rfl
   rotate_left
   ·simp only [Act.put, List.setIfInBounds_toArray, List.set_cons_zero, List.set_cons_succ]
    rfl
   refine pure_ (i := 11) (N := some 22) (v := ?_) (a' := ?_) #[true, true, true, true, true, true, true, true, true, true, true, true, false, false, false, false, false, false, false, false, false] rfl rfl (by kernel_rfl) (fun _ _ _ h => h) (Or.inl ⟨by rfl, ?_⟩) ?_ ?_
   rotate_left
   ·intro w'
    go_simp
    with_reducible rfl
   rotate_left
   ·simp only [Act.put, List.setIfInBounds_toArray, List.set_cons_zero, List.set_cons_succ]
    rfl
   refine take_ (i := 12) (N := some 23) (v := ?_) (a' := ?_) #[true, true, true, true, true, true, true, true, true, true, true, true, true, false, false, false, false, false, false, false, false] rfl rfl (by kernel_rfl) (fun _ _ _ h => h) (Or.inl ⟨by rfl, ?_⟩) hHeld ?_ ?_
   rotate_left
   ·rintro w' ⟨s0, s1⟩
    go_simp
    with_reducible rfl
   rotate_left
   ·simp only [Act.put, List.setIfInBounds_toArray, List.set_cons_zero, List.set_cons_succ]
    rfl
   refine pure_ (i := 14) (N := some 25) (v := ?_) (a' := ?_) #[true, true, true, true, true, true, true, true, true, true, true, true, true, false, true, false, false, false, false, false, false] rfl rfl (by kernel_rfl) (fun _ _ _ h => h) (Or.inl ⟨by rfl, ?_⟩) ?_ ?_
   rotate_left
   ·intro w'
    go_simp
    with_reducible rfl
   rotate_left
   ·simp only [Act.put, List.setIfInBounds_toArray, List.set_cons_zero, List.set_cons_succ]
    rfl
   refine pure_ (i := 15) (N := some 26) (v := ?_) (a' := ?_) #[true, true, true, true, true, true, true, true, true, true, true, true, true, false, true, true, false, false, false, false, false] rfl rfl (by kernel_rfl) (fun _ _ _ h => h) (Or.inl ⟨by rfl, ?_⟩) ?_ ?_
   rotate_left
   ·intro w'
    go_simp
    with_reducible rfl
   rotate_left
   ·simp only [Act.put, List.setIfInBounds_toArray, List.set_cons_zero, List.set_cons_succ]
    rfl
   refine pure_ (i := 16) (N := some 27) (v := ?_) (a' := ?_) #[true, true, true, true, true, true, true, true, true, true, true, true, true, false, true, true, true, false, false, false, false] rfl rfl (by kernel_rfl) (fun _ _ _ h => h) (Or.inl ⟨by rfl, ?_⟩) ?_ ?_
   rotate_left
   ·intro w'
    go_simp
    with_reducible rfl
   rotate_left
   ·simp only [Act.put, List.setIfInBounds_toArray, List.set_cons_zero, List.set_cons_succ]
    rfl
   refine take_ (i := 17) (N := some 28) (v := ?_) (a' := ?_) #[true, true, true, true, true, true, true, true, true, true, true, true, true, false, true, true, true, true, false, false, false] rfl rfl (by kernel_rfl) (fun _ _ _ h => h) (Or.inl ⟨by rfl, ?_⟩) hHeld ?_ ?_
   rotate_left
   ·rintro w' ⟨s0, s1⟩
    go_simp
    with_reducible rfl
   rotate_left
   ·simp only [Act.put, List.setIfInBounds_toArray, List.set_cons_zero, List.set_cons_succ]
    rfl
   refine one_ (i := 13) (N := some 24) #[true, true, true, true, true, true, true, true, true, true, true, true, true, true, true, true, true, true, false, false, false] rfl rfl (by kernel_rfl) (by decide) (fun K hK => ?_)
   refine goes_ Try.func33 (by kernel_rfl) rfl #[.slice B1 LB.length d1, .slice B0 LA.length d0] (by rfl) rfl rfl (by first | rfl | (simp [Act.eval]; done) | (simp [go_sem]; done)) ?_
   refine (Refs.union_calls B1 d1 LB B0 d0 LA wr.drew (Kd.C_below hCB (below_drew hb)) hlB (Kd.C_below hCA (below_drew hb)) (by omega)).mono ?_
   rintro e W4 ⟨v4, rfl, hR4, hB4⟩
   have hb4 : Below w.heap.size w W4 := (below_drew hb).trans (hB4.mono hb.size)
   obtain ⟨A4, c4, rfl, hl4, hC4⟩ : ∃ A c, v4 = .slice A LB.length c ∧ LB.length ≤ c ∧ Kd.C (Kd.int .i64) W4 A LB.length LB := by
    rcases hR4 with ⟨h1, _⟩ | h
    ·exact ⟨_, _, h1, hlB, Kd.C_below hCB hb4⟩
    ·rw [HU.out] at h
     exact Kd.R_reads h
   refine ⟨_, rfl, ?_⟩
   have hh1 := keep wr.drew W4 hB4 hHeld
   refine hK.out _ _ hh1 (fun h0_ => ?_)
   clear hK K h0_
   refine one_ (i := 18) (N := some 29) #[true, true, true, true, true, true, true, true, true, true, true, true, true, true, true, true, true, true, true, false, false] rfl rfl (by kernel_rfl) (by decide) (fun K hK => ?_)
   refine goes_ Try.func22 (by kernel_rfl) rfl #[.slice A4 LB.length c4, .slice B1 LB.length d1] (by rfl) rfl rfl (by first | rfl | (simp [Act.eval]; done) | (simp [go_sem]; done)) ?_
   refine (brambleref10_Ints.calls k A4 c4 LB B1 d1 LB true W4 hC4 hl4 (Kd.C_below hCB hb4) hlB HI.out).mono ?_
   rintro e W5 ⟨rfl, hD5⟩
   have hB5 : Below W4.heap.size W4 W5 := hD5.below
   have hb5 := hb4.trans (hB5.mono hb4.size)
   refine ⟨_, rfl, ?_⟩
   have hh2 := keep W4 W5 hB5 hh1
   refine hK.out _ _ hh2 (fun h0_ => ?_)
   clear hK K h0_
   refine pure_ (i := 19) (N := some 30) (v := ?_) (a' := ?_) #[true, true, true, true, true, true, true, true, true, true, true, true, true, true, true, true, true, true, true, true, false] rfl rfl (by kernel_rfl) (fun _ _ _ h => h) (Or.inl ⟨by rfl, ?_⟩) ?_ ?_
   rotate_left
   ·intro w'
    go_simp
    with_reducible rfl
   rotate_left
   ·simp only [Act.put, List.setIfInBounds_toArray, List.set_cons_zero, List.set_cons_succ]
    rfl
   refine pure_ (i := 20) (N := some 31) (v := ?_) (a' := ?_) #[true, true, true, true, true, true, true, true, true, true, true, true, true, true, true, true, true, true, true, true, true] rfl rfl (by kernel_rfl) (fun _ _ _ h => h) (Or.inl ⟨by rfl, ?_⟩) ?_ ?_
   rotate_left
   ·intro w'
    go_simp
    with_reducible rfl
   rotate_left
   ·simp only [Act.put, List.setIfInBounds_toArray, List.set_cons_zero, List.set_cons_succ]
    rfl
   refine done_ (by kernel_rfl) ?_
   refine hK6 _ _ ?_
   clear hK6 keep hHeld hh1 hh2 hC4 hR4 ka kb
   go_wp2
   go_roundw
   case rel => exact ⟨j + 1, by go_num, by omega, hb5⟩
   case measure => simp [Go.RowKit.intOf]; omega
  ·obtain rfl : j = l0.length := by omega
   have he := HE.out
   clear HE HA HI
   go_wp2
   go_ret
   exact ⟨by first | rfl | simp [he], hb⟩
/-! ### sets_Ahead: function 23, told by hand -/
theorem exVals : ∀ l : List Int, (∀ x ∈ l, (Lit.int .i64 x).wf = true) → ∃ xs : List Seqs.I64, Seqs.vals xs = l
 | [], _ => ⟨[], rfl⟩
 | x :: t, h => by
  obtain ⟨xs, e⟩ := exVals t (fun y hy => h y (by simp [hy]))
  exact ⟨⟨x, h x (by simp)⟩ :: xs, by simp only [Seqs.vals, List.map_cons]; rw [← e]; rfl⟩
theorem rowI_of {w : World} {A : Option Addr} {n : Nat} {xs : List Seqs.I64} (h : Kd.C (Kd.int .i64) w A n (Seqs.vals xs)) : Seqs.RowI w A xs := by
 intro hne
 obtain ⟨h1, h2, h3⟩ := h
 obtain ⟨ad, e, hc⟩ := h3 (by
  cases xs with
  | nil => exact absurd rfl hne
  | cons x t => simp [Seqs.vals] at h1; omega)
 refine ⟨ad, e, fun j x hx => ?_⟩
 obtain ⟨c, _, rfl, hcell⟩ := hc j x.1 (by unfold Seqs.vals; rw [List.getElem?_map, hx]; rfl)
 have := hcell 0 _ rfl
 rwa [show j * (Kd.int .i64).sz + 0 = j from Nat.mul_one j] at this
def ahOk (l : List Fl.I) (b : List Int) : Bool := decide (l.length ≤ 1000) && decide (b.length ≤ 1000) && b.all fun x => (Lit.int .i64 x).wf
theorem ahOk_of {l : List Fl.I} {b : List Int} (h : ahOk l b = true) : l.length ≤ 1000 ∧ b.length ≤ 1000 ∧ ∀ x ∈ b, (Lit.int .i64 x).wf = true := by
 simp only [ahOk, Bool.and_eq_true, decide_eq_true_eq, List.all_eq_true] at h
 exact ⟨h.1.1, h.1.2, h.2⟩
def sets_Ahead.f (k : Nat) (l0_0 l0_1 : List ByteArray) (l0_2 : List S40) (l1 : List S48) (l2 : List Int) : Option (List Int) :=
 if flOk (l0_0.length + l0_1.length) l0_1.length (l0_2.map prE) = true ∧ ahOk (l1.map itE) l2 = true then (Grow.growV Deri.stepD (l0_2.map prE) k (List.replicate (l0_0.length + l0_1.length) false)).bind fun em => (Grow.growV (Begin.stepF (l0_0.length + l0_1.length) em) (l0_2.map prE) k (Begun.initV (l0_0.length + l0_1.length) l0_0.length)).bind fun Ss => some (Begin.ahV (l0_0.length + l0_1.length) em Ss (l1.map itE) (MSet.unionV [] l2)) else none
theorem sets_Ahead.mono : ∀ a0 a1 a2 a3 a4 k, LeO (sets_Ahead.f k a0 a1 a2 a3 a4) (sets_Ahead.f (k + 1) a0 a1 a2 a3 a4) := fun _ _ _ _ _ _ => LeO.ite (LeO.bind (growMono _ _ _ _) (fun _ => LeO.bind (growMono _ _ _ _) (fun _ => LeO.refl _))) (LeO.none _)
theorem sets_Ahead.calls (k : Nat) (A0_0 : Option Addr) (c0_0 : Nat) (l0_0 : List ByteArray) (A0_1 : Option Addr) (c0_1 : Nat) (l0_1 : List ByteArray) (A0_2 : Option Addr) (c0_2 : Nat) (l0_2 : List S40) (A1 : Option Addr) (c1 : Nat) (l1 : List S48) (A2 : Option Addr) (c2 : Nat) (l2 : List Int) (r : List Int) (w : World) (hr0_0 : Kd.C Kd.string w A0_0 l0_0.length l0_0) (hc0_0 : l0_0.length ≤ c0_0) (hr0_1 : Kd.C Kd.string w A0_1 l0_1.length l0_1) (hc0_1 : l0_1.length ≤ c0_1) (hr0_2 : Kd.C k40 w A0_2 l0_2.length l0_2) (hc0_2 : l0_2.length ≤ c0_2) (hr1 : Kd.C k48 w A1 l1.length l1) (hc1 : l1.length ≤ c1) (hr2 : Kd.C (Kd.int .i64) w A2 l2.length l2) (hc2 : l2.length ≤ c2) (h : sets_Ahead.f k l0_0 l0_1 l0_2 l1 l2 = some r) :
  Calls Try.prog 23 #[.agg #[.slice A0_0 l0_0.length c0_0, .slice A0_1 l0_1.length c0_1, .slice A0_2 l0_2.length c0_2], .slice A1 l1.length c1, .slice A2 l2.length c2] w fun e w' => ∃ v0_ : Value, e = .returned v0_ ∧ Kd.R (Kd.int .i64) 3 w' w.heap.size (fun _ => True) v0_ r ∧ Below w.heap.size w w' := by
 unfold sets_Ahead.f at h
 split at h
 case isFalse => cases h
 rename_i hok
 obtain ⟨em, he, h⟩ := Option.bind_eq_some_iff.mp h
 obtain ⟨Ss, hs, h⟩ := Option.bind_eq_some_iff.mp h
 obtain rfl := Option.some.inj h
 obtain ⟨q1, q2, q3⟩ := ahOk_of hok.2
 obtain ⟨xs, rfl⟩ := exVals l2 q3
 have hxl : (Seqs.vals xs).length = xs.length := by simp [Seqs.vals]
 have hl : (l0_2.map prE).length = l0_2.length := by simp
 have hl1 : (l1.map itE).length = l1.length := by simp
 have hc := Aheads.aheads_calls w A0_0 A0_1 A0_2 l0_0.length l0_1.length c0_0 c0_1 c0_2 _ rfl (by have := (flOk_N hok.1).2; omega) (l0_2.map prE) (by rw [hl]; exact C_kP hr0_2) (by have := (flOk_N hok.1).1; omega) (flOk_ps hok.1) k em he k Ss hs A1 c1 (l1.map itE) (by rw [hl1]; exact C_kI hr1) q1 A2 c2 xs (by rw [← hxl]; exact q2) (rowI_of hr2)
 rw [hl, hl1] at hc
 rw [hxl]
 exact hc
end Go.Proofs.Ytkfpmolplemdlaa.PSetsClosed
