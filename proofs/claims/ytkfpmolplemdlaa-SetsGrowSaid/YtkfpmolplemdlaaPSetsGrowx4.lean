/- Laid by this work's own program gp.py, in the form of the kit's print, with some functions told by hand. -/
import Derived.Test.YtkfpmolplemdlaaPSetsGrowx0
import Derived.Test.YtkfpmolplemdlaaPSetsGrowx2
import Derived.Test.YtkfpmolplemdlaaPSetsGrowx3
namespace Go.Proofs.Ytkfpmolplemdlaa.PSetsGrow
open Go.RowKit Go.Proofs.YtkfpmolplemdlaaW.PrintWords Go.Proofs.YtkfpmolplemdlaaW.PrintLast Go.Proofs.YtkfpmolplemdlaaW.PrintMore
attribute [local go_sem] max2_int min2_int max_two min_two max_three min_three max_four min_four   -- for this text's walks alone
set_option linter.unusedVariables false
set_option linter.unusedSimpArgs false

/-! ### bramblelaw10_within: function 14, told by hand -/
def withinB (a b : List (List Int)) : Bool := decide (a.length = b.length) && decide (a.length ≤ 1000000) && (List.range a.length).all fun i => decide ((a.getD i []).length + (b.getD i []).length ≤ 1000000000) && decide (MSet.unionV (b.getD i []) (a.getD i []) = b.getD i [])
theorem withinB_of {a b : List (List Int)} (h : withinB a b = true) : a.length = b.length ∧ a.length ≤ 1000000 ∧ ∀ i, i < a.length → (a.getD i []).length + (b.getD i []).length ≤ 1000000000 ∧ MSet.unionV (b.getD i []) (a.getD i []) = b.getD i [] := by
  simp only [withinB, Bool.and_eq_true, decide_eq_true_eq, List.all_eq_true, List.mem_range] at h
  exact ⟨h.1.1, h.1.2, h.2⟩
def bramblelaw10_within.f (k : Nat) (a b : List (List Int)) : Option Bool :=
  if (withinB a b && (List.range a.length).all fun i => decide (brambleref10_Ints.f k (b.getD i []) (b.getD i []) = some true)) = true then some true else none
set_option maxHeartbeats 4000000 in
set_option maxRecDepth 100000 in
theorem bramblelaw10_within.calls (k : Nat) (A0 : Option Addr) (c0 : Nat) (l0 : List (List Int)) (A1 : Option Addr) (c1 : Nat) (l1 : List (List Int)) (r : Bool) (w : World) (hr0 : Kd.C (Kd.slice 3 (Kd.int .i64)) w A0 l0.length l0) (hc0 : l0.length ≤ c0) (hr1 : Kd.C (Kd.slice 3 (Kd.int .i64)) w A1 l1.length l1) (hc1 : l1.length ≤ c1) (h : bramblelaw10_within.f k l0 l1 = some r) :
    Calls Try.prog 14 #[.slice A0 l0.length c0, .slice A1 l1.length c1] w fun e w' => e = .returned (.bool r) ∧ Below w.heap.size w w' := by
  unfold bramblelaw10_within.f at h
  split at h
  case isFalse => cases h
  rename_i hok
  obtain rfl := Option.some.inj h
  rw [Bool.and_eq_true] at hok
  obtain ⟨hok, hints⟩ := hok
  obtain ⟨he, hlen, hall⟩ := withinB_of hok
  have hI : ∀ i, i < l0.length → brambleref10_Ints.f k (l1.getD i []) (l1.getD i []) = some true := by
    simp only [decide_eq_true_eq, List.all_eq_true, List.mem_range] at hints
    exact hints
  have HE := Lib.hid he
  have HA := Lib.hid hall
  have HI := Lib.hid hI
  clear hok hints h he hall hI
  have hB0 : Below w.heap.size w w := Below.refl _ _
  go_enter Try.func14, Try.ntmps14
  go_wp2
  go_loopw [8] (fun i wr => ∃ j : Nat, i = .int .i64 (j : Int) ∧ j ≤ l0.length ∧ Below w.heap.size w wr) (fun i _ => l0.length - (Go.RowKit.intOf i).toNat)
  case atStart => exact ⟨0, rfl, Nat.zero_le _, hB0⟩
  case round =>
    obtain ⟨j, rfl, hj, hb⟩ := hrel
    by_cases hlt : j < l0.length
    · have hlt1 : j < l1.length := by have := HE.out; omega
      obtain ⟨hsum, hun⟩ := HA.out j hlt
      have hin := HI.out j hlt
      obtain ⟨ada, B0, d0, rfl, ka, hlA, hCA⟩ := RAhead.atL hr0 j hlt
      obtain ⟨adb, B1, d1, rfl, kb, hlB, hCB⟩ := RAhead.atL hr1 j hlt1
      obtain ⟨LA, hLA⟩ : ∃ L, l0.getD j [] = L := ⟨_, rfl⟩
      obtain ⟨LB, hLB⟩ : ∃ L, l1.getD j [] = L := ⟨_, rfl⟩
      rw [hLA] at ka hlA hCA hsum hun
      rw [hLB] at kb hlB hCB hsum hun hin
      clear HI HA
      have HU := Lib.hid hun
      have HI := Lib.hid hin
      clear hLA hLB hun hin
      have hdn : decide (l1.length ≤ j) = false := by simp; omega
      go_wp2
      rename_i K6 hK6
      have hHeld : (fun X => X.cell? (adb.add j) = some (.slice B1 LB.length d1) ∧ X.cell? (ada.add j) = some (.slice B0 LA.length d0)) wr.drew := ⟨pw_cell_below (below_drew hb) kb, pw_cell_below (below_drew hb) ka⟩
      have keep : ∀ X Y : World, Below X.heap.size X Y → (fun X => X.cell? (adb.add j) = some (.slice B1 LB.length d1) ∧ X.cell? (ada.add j) = some (.slice B0 LA.length d0)) X → (fun X => X.cell? (adb.add j) = some (.slice B1 LB.length d1) ∧ X.cell? (ada.add j) = some (.slice B0 LA.length d0)) Y := fun X Y h hh => ⟨pw_cell_below h hh.1, pw_cell_below h hh.2⟩
      refine Ahd.wp_qz (start_ (S := (fun X => X.cell? (adb.add j) = some (.slice B1 LB.length d1) ∧ X.cell? (ada.add j) = some (.slice B0 LA.length d0))) (ds := []) #[false, false, false, false, false, false, false, false, false, false, false, false, false, false, false, false, false, false, false, false, false] (by kernel_rfl) rfl rfl hHeld (fun h0_ => ?_))
      clear h0_
      refine pure_ (i := 0) (N := some 11) (v := ?_) (a' := ?_) #[true, false, false, false, false, false, false, false, false, false, false, false, false, false, false, false, false, false, false, false, false] rfl rfl (by kernel_rfl) (fun _ _ _ h => h) (Or.inl ⟨by rfl, ?_⟩) ?_ ?_
      rotate_left
      · intro w'
        go_simp
        with_reducible rfl
      rotate_left
      · simp only [Act.put, List.setIfInBounds_toArray, List.set_cons_zero, List.set_cons_succ]
        rfl
      refine pure_ (i := 1) (N := some 12) (v := ?_) (a' := ?_) #[true, true, false, false, false, false, false, false, false, false, false, false, false, false, false, false, false, false, false, false, false] rfl rfl (by kernel_rfl) (fun _ _ _ h => h) (Or.inl ⟨by rfl, ?_⟩) ?_ ?_
      rotate_left
      · intro w'
        go_simp
        with_reducible rfl
      rotate_left
      · simp only [Act.put, List.setIfInBounds_toArray, List.set_cons_zero, List.set_cons_succ]
        rfl
      refine pure_ (i := 2) (N := some 13) (v := ?_) (a' := ?_) #[true, true, true, false, false, false, false, false, false, false, false, false, false, false, false, false, false, false, false, false, false] rfl rfl (by kernel_rfl) (fun _ _ _ h => h) (Or.inl ⟨by rfl, ?_⟩) ?_ ?_
      rotate_left
      · intro w'
        go_simp
        with_reducible rfl
      rotate_left
      · simp only [Act.put, List.setIfInBounds_toArray, List.set_cons_zero, List.set_cons_succ]
        rfl
      refine pure_ (i := 3) (N := some 14) (v := ?_) (a' := ?_) #[true, true, true, true, false, false, false, false, false, false, false, false, false, false, false, false, false, false, false, false, false] rfl rfl (by kernel_rfl) (fun _ _ _ h => h) (Or.inl ⟨by rfl, ?_⟩) ?_ ?_
      rotate_left
      · intro w'
        go_simp
        with_reducible rfl
      rotate_left
      · simp only [Act.put, List.setIfInBounds_toArray, List.set_cons_zero, List.set_cons_succ]
        rfl
      refine pure_ (i := 4) (N := some 15) (v := ?_) (a' := ?_) #[true, true, true, true, true, false, false, false, false, false, false, false, false, false, false, false, false, false, false, false, false] rfl rfl (by kernel_rfl) (fun _ _ _ h => h) (Or.inl ⟨by rfl, ?_⟩) ?_ ?_
      rotate_left
      · intro w'
        go_simp
        with_reducible rfl
      rotate_left
      · simp only [Act.put, List.setIfInBounds_toArray, List.set_cons_zero, List.set_cons_succ]
        rfl
      refine pure_ (i := 5) (N := some 16) (v := ?_) (a' := ?_) #[true, true, true, true, true, true, false, false, false, false, false, false, false, false, false, false, false, false, false, false, false] rfl rfl (by kernel_rfl) (fun _ _ _ h => h) (Or.inl ⟨by rfl, ?_⟩) ?_ ?_
      rotate_left
      · intro w'
        go_simp
        with_reducible rfl
      rotate_left
      · simp only [Act.put, List.setIfInBounds_toArray, List.set_cons_zero, List.set_cons_succ]
        rfl
      refine pure_ (i := 6) (N := some 17) (v := ?_) (a' := ?_) #[true, true, true, true, true, true, true, false, false, false, false, false, false, false, false, false, false, false, false, false, false] rfl rfl (by kernel_rfl) (fun _ _ _ h => h) (Or.inl ⟨by rfl, ?_⟩) ?_ ?_
      rotate_left
      · intro w'
        go_simp
        with_reducible rfl
      rotate_left
      · simp only [Act.put, List.setIfInBounds_toArray, List.set_cons_zero, List.set_cons_succ]
        rfl
      refine pure_ (i := 7) (N := some 18) (v := ?_) (a' := ?_) #[true, true, true, true, true, true, true, true, false, false, false, false, false, false, false, false, false, false, false, false, false] rfl rfl (by kernel_rfl) (fun _ _ _ h => h) (Or.inl ⟨by rfl, ?_⟩) ?_ ?_
      rotate_left
      · intro w'
        go_simp
        with_reducible rfl
      rotate_left
      · simp only [Act.put, List.setIfInBounds_toArray, List.set_cons_zero, List.set_cons_succ]
        rfl
      refine take_ (i := 8) (N := some 19) (v := ?_) (a' := ?_) #[true, true, true, true, true, true, true, true, true, false, false, false, false, false, false, false, false, false, false, false, false] rfl rfl (by kernel_rfl) (fun _ _ _ h => h) (Or.inl ⟨by rfl, ?_⟩) hHeld ?_ ?_
      rotate_left
      · rintro w' ⟨s0, s1⟩
        go_simp
        with_reducible rfl
      rotate_left
      · simp only [Act.put, List.setIfInBounds_toArray, List.set_cons_zero, List.set_cons_succ]
        rfl
      refine pure_ (i := 9) (N := some 20) (v := ?_) (a' := ?_) #[true, true, true, true, true, true, true, true, true, true, false, false, false, false, false, false, false, false, false, false, false] rfl rfl (by kernel_rfl) (fun _ _ _ h => h) (Or.inl ⟨by rfl, ?_⟩) ?_ ?_
      rotate_left
      · intro w'
        go_simp
        with_reducible rfl
      rotate_left
      · simp only [Act.put, List.setIfInBounds_toArray, List.set_cons_zero, List.set_cons_succ]
        rfl
      refine pure_ (i := 10) (N := some 21) (v := ?_) (a' := ?_) #[true, true, true, true, true, true, true, true, true, true, true, false, false, false, false, false, false, false, false, false, false] rfl rfl (by kernel_rfl) (fun _ _ _ h => h) (Or.inl ⟨by rfl, ?_⟩) ?_ ?_
      rotate_left
      · intro w'
        go_simp
        with_reducible rfl
      rotate_left
      · simp only [Act.put, List.setIfInBounds_toArray, List.set_cons_zero, List.set_cons_succ]
        rfl
      refine pure_ (i := 11) (N := some 22) (v := ?_) (a' := ?_) #[true, true, true, true, true, true, true, true, true, true, true, true, false, false, false, false, false, false, false, false, false] rfl rfl (by kernel_rfl) (fun _ _ _ h => h) (Or.inl ⟨by rfl, ?_⟩) ?_ ?_
      rotate_left
      · intro w'
        go_simp
        with_reducible rfl
      rotate_left
      · simp only [Act.put, List.setIfInBounds_toArray, List.set_cons_zero, List.set_cons_succ]
        rfl
      refine take_ (i := 12) (N := some 23) (v := ?_) (a' := ?_) #[true, true, true, true, true, true, true, true, true, true, true, true, true, false, false, false, false, false, false, false, false] rfl rfl (by kernel_rfl) (fun _ _ _ h => h) (Or.inl ⟨by rfl, ?_⟩) hHeld ?_ ?_
      rotate_left
      · rintro w' ⟨s0, s1⟩
        go_simp
        with_reducible rfl
      rotate_left
      · simp only [Act.put, List.setIfInBounds_toArray, List.set_cons_zero, List.set_cons_succ]
        rfl
      refine pure_ (i := 14) (N := some 25) (v := ?_) (a' := ?_) #[true, true, true, true, true, true, true, true, true, true, true, true, true, false, true, false, false, false, false, false, false] rfl rfl (by kernel_rfl) (fun _ _ _ h => h) (Or.inl ⟨by rfl, ?_⟩) ?_ ?_
      rotate_left
      · intro w'
        go_simp
        with_reducible rfl
      rotate_left
      · simp only [Act.put, List.setIfInBounds_toArray, List.set_cons_zero, List.set_cons_succ]
        rfl
      refine pure_ (i := 15) (N := some 26) (v := ?_) (a' := ?_) #[true, true, true, true, true, true, true, true, true, true, true, true, true, false, true, true, false, false, false, false, false] rfl rfl (by kernel_rfl) (fun _ _ _ h => h) (Or.inl ⟨by rfl, ?_⟩) ?_ ?_
      rotate_left
      · intro w'
        go_simp
        with_reducible rfl
      rotate_left
      · simp only [Act.put, List.setIfInBounds_toArray, List.set_cons_zero, List.set_cons_succ]
        rfl
      refine pure_ (i := 16) (N := some 27) (v := ?_) (a' := ?_) #[true, true, true, true, true, true, true, true, true, true, true, true, true, false, true, true, true, false, false, false, false] rfl rfl (by kernel_rfl) (fun _ _ _ h => h) (Or.inl ⟨by rfl, ?_⟩) ?_ ?_
      rotate_left
      · intro w'
        go_simp
        with_reducible rfl
      rotate_left
      · simp only [Act.put, List.setIfInBounds_toArray, List.set_cons_zero, List.set_cons_succ]
        rfl
      refine take_ (i := 17) (N := some 28) (v := ?_) (a' := ?_) #[true, true, true, true, true, true, true, true, true, true, true, true, true, false, true, true, true, true, false, false, false] rfl rfl (by kernel_rfl) (fun _ _ _ h => h) (Or.inl ⟨by rfl, ?_⟩) hHeld ?_ ?_
      rotate_left
      · rintro w' ⟨s0, s1⟩
        go_simp
        with_reducible rfl
      rotate_left
      · simp only [Act.put, List.setIfInBounds_toArray, List.set_cons_zero, List.set_cons_succ]
        rfl
      refine one_ (i := 13) (N := some 24) #[true, true, true, true, true, true, true, true, true, true, true, true, true, true, true, true, true, true, false, false, false] rfl rfl (by kernel_rfl) (by decide) (fun K hK => ?_)
      refine goes_ Try.func33 (by kernel_rfl) rfl #[.slice B1 LB.length d1, .slice B0 LA.length d0] (by rfl) rfl rfl (by first | rfl | (simp [Act.eval]; done) | (simp [go_sem]; done)) ?_
      refine (Refs.union_calls B1 d1 LB B0 d0 LA wr.drew (Kd.C_below hCB (below_drew hb)) hlB (Kd.C_below hCA (below_drew hb)) (by omega)).mono ?_
      rintro e W4 ⟨v4, rfl, hR4, hB4⟩
      have hb4 : Below w.heap.size w W4 := (below_drew hb).trans (hB4.mono hb.size)
      obtain ⟨A4, c4, rfl, hl4, hC4⟩ : ∃ A c, v4 = .slice A LB.length c ∧ LB.length ≤ c ∧ Kd.C (Kd.int .i64) W4 A LB.length LB := by
        rcases hR4 with ⟨h1, _⟩ | h
        · exact ⟨_, _, h1, hlB, Kd.C_below hCB hb4⟩
        · rw [HU.out] at h
          exact Kd.R_reads h
      refine ⟨_, rfl, ?_⟩
      have hh1 := keep wr.drew W4 hB4 hHeld
      refine hK.out _ _ hh1 (fun h0_ => ?_)
      clear hK K h0_
      refine one_ (i := 18) (N := some 29) #[true, true, true, true, true, true, true, true, true, true, true, true, true, true, true, true, true, true, true, false, false] rfl rfl (by kernel_rfl) (by decide) (fun K hK => ?_)
      refine goes_ Try.func22 (by kernel_rfl) rfl #[.slice A4 LB.length c4, .slice B1 LB.length d1] (by rfl) rfl rfl (by first | rfl | (simp [Act.eval]; done) | (simp [go_sem]; done)) ?_
      refine (brambleref10_Ints.calls k A4 c4 LB B1 d1 LB true W4 hC4 hl4 (Kd.C_below hCB hb4) hlB HI.out).mono ?_
      rintro e W5 ⟨rfl, hD5⟩
      have hB5 : Below W4.heap.size W4 W5 := hD5.below
      have hb5 := hb4.trans (hB5.mono hb4.size)
      refine ⟨_, rfl, ?_⟩
      have hh2 := keep W4 W5 hB5 hh1
      refine hK.out _ _ hh2 (fun h0_ => ?_)
      clear hK K h0_
      refine pure_ (i := 19) (N := some 30) (v := ?_) (a' := ?_) #[true, true, true, true, true, true, true, true, true, true, true, true, true, true, true, true, true, true, true, true, false] rfl rfl (by kernel_rfl) (fun _ _ _ h => h) (Or.inl ⟨by rfl, ?_⟩) ?_ ?_
      rotate_left
      · intro w'
        go_simp
        with_reducible rfl
      rotate_left
      · simp only [Act.put, List.setIfInBounds_toArray, List.set_cons_zero, List.set_cons_succ]
        rfl
      refine pure_ (i := 20) (N := some 31) (v := ?_) (a' := ?_) #[true, true, true, true, true, true, true, true, true, true, true, true, true, true, true, true, true, true, true, true, true] rfl rfl (by kernel_rfl) (fun _ _ _ h => h) (Or.inl ⟨by rfl, ?_⟩) ?_ ?_
      rotate_left
      · intro w'
        go_simp
        with_reducible rfl
      rotate_left
      · simp only [Act.put, List.setIfInBounds_toArray, List.set_cons_zero, List.set_cons_succ]
        rfl
      refine done_ (by kernel_rfl) ?_
      refine hK6 _ _ ?_
      clear hK6 keep hHeld hh1 hh2 hC4 hR4 ka kb
      go_wp2
      go_roundw
      case rel => exact ⟨j + 1, by go_num, by omega, hb5⟩
      case measure => simp [Go.RowKit.intOf]; omega
    · obtain rfl : j = l0.length := by omega
      have he := HE.out
      clear HE HA HI
      go_wp2
      go_ret
      exact ⟨by first | rfl | simp [he], hb⟩

/-! ### bramblelaw10_SetsGrow: function 4, told by hand -/
/-- A production as it lies: its right side's place alone. -/
abbrev Rw := Int × (Option Addr × Nat × Nat) × Int
def kSl : Kd (Option Addr × Nat × Nat) := Kd.scalar (fun x => Value.slice x.1 x.2.1 x.2.2) (fun _ => rfl)
def kRw : Kd Rw := Kd.pair (Kd.int .i64) (Kd.pair kSl (Kd.int .i64))
theorem kRw_K (W : World) (x : Rw) : kRw.K W x [.int .i64 x.1, .slice x.2.1.1 x.2.1.2.1 x.2.1.2.2, .int .i64 x.2.2] := ⟨[.int .i64 x.1], [.slice x.2.1.1 x.2.1.2.1 x.2.1.2.2, .int .i64 x.2.2], rfl, rfl, ⟨[.slice x.2.1.1 x.2.1.2.1 x.2.1.2.2], [.int .i64 x.2.2], rfl, rfl, rfl⟩⟩
theorem kRw_open {W : World} {x : Rw} {cs : List Value} (h : kRw.K W x cs) : cs = [.int .i64 x.1, .slice x.2.1.1 x.2.1.2.1 x.2.1.2.2, .int .i64 x.2.2] := by
  obtain ⟨_, _, rfl, rfl, ⟨_, _, rfl, rfl, rfl⟩⟩ := h
  exact rfl
theorem kRw_KM {W : World} {base : Nat} {ok : Nat → Prop} (x : Rw) (cs : List Value) (h : kRw.K W x cs) : kRw.M W base ok x cs := by
  obtain ⟨c0, _, rfl, h0, ⟨c1, c2, rfl, h1, h2⟩⟩ := h
  exact ⟨c0, _, rfl, h0, ⟨c1, c2, rfl, h1, h2⟩⟩
theorem kRw_empty (W : World) (base : Nat) (hb : base ≤ W.heap.size) : Kd.R kRw 40 (W.alloc (.cells #[] 40)) base (fun _ => True) (.slice (some ⟨W.heap.size, 0, none⟩) 0 0) [] := by
  refine ⟨fun _ _ => trivial, [], ⟨rfl, .inr ⟨W.heap.size, 0, #[], rfl, hb, blk_new _ _, by simp, by simp [maxLen], rfl, rfl⟩⟩, rfl, fun j p hj => ?_⟩
  simp at hj
/-- Where the right sides of a row of productions lie. -/
def RwOf (W : World) (x : S40) (r : Rw) : Prop := r.1 = x.f0 ∧ r.2.2 = x.f2 ∧ r.2.1.2.1 = x.f1.length ∧ x.f1.length ≤ r.2.1.2.2 ∧ Kd.C k48 W r.2.1.1 x.f1.length x.f1
theorem C_raw {W : World} {A : Option Addr} {n : Nat} {l : List S40} (h : Kd.C k40 W A n l) : ∃ ys : List Rw, Kd.C kRw W A n ys ∧ ys.length = l.length ∧ ∀ (j : Nat) x, l[j]? = some x → ∃ r, ys[j]? = some r ∧ RwOf W x r := by
  obtain ⟨h1, h2, h3⟩ := h
  by_cases h0 : 0 < n
  · obtain ⟨ad, e, hc⟩ := h3 h0
    have hex : ∀ j : Fin l.length, ∃ r : Rw, RwOf W l[j] r ∧ ∀ i u, ([Value.int .i64 r.1, .slice r.2.1.1 r.2.1.2.1 r.2.1.2.2, .int .i64 r.2.2] : List Value)[i]? = some u → W.cell? (ad.add (j.1 * 3 + i)) = some u := fun j => by
      obtain ⟨c, hl, hK, hcell⟩ := hc j.1 l[j] (List.getElem?_eq_getElem j.2)
      obtain ⟨A1, c1, rfl, l1, g1⟩ := k40_open hK
      exact ⟨(l[j].f0, (A1, l[j].f1.length, c1), l[j].f2), ⟨rfl, rfl, rfl, l1, g1⟩, hcell⟩
    refine ⟨(List.finRange l.length).map fun j => Classical.choose (hex j), ⟨by simp; exact h1, h2, fun _ => ⟨ad, e, fun j p hj => ?_⟩⟩, by simp, fun j x hx => ?_⟩
    · rw [List.getElem?_map] at hj
      obtain ⟨q, hq, rfl⟩ := Option.map_eq_some_iff.1 hj
      have hq2 : q.1 = j := by
        obtain ⟨hjl, he⟩ := List.getElem?_eq_some_iff.1 hq
        rw [← he]
        simp
      subst hq2
      exact ⟨_, by rfl, kRw_K _ _, (Classical.choose_spec (hex q)).2⟩
    · obtain ⟨hj, he⟩ := List.getElem?_eq_some_iff.1 hx
      refine ⟨Classical.choose (hex ⟨j, hj⟩), ?_, ?_⟩
      · rw [List.getElem?_map, List.getElem?_eq_getElem (by simpa using hj)]
        simp
      · have := (Classical.choose_spec (hex ⟨j, hj⟩)).1
        rw [← he]
        exact this
  · refine ⟨[], ⟨by simp; omega, h2, fun h => absurd h h0⟩, by have := h1; simp; omega, fun j x hx => ?_⟩
    have := (List.getElem?_eq_some_iff.1 hx).1
    omega
theorem C_prods {W : World} {A : Option Addr} {n : Nat} {l : List S40} {ys : List Rw} (h : Kd.C kRw W A n ys) (hl : ys.length = l.length) (hy : ∀ (j : Nat) x, l[j]? = some x → ∃ r, ys[j]? = some r ∧ RwOf W x r) : Kd.C k40 W A n l := by
  obtain ⟨h1, h2, h3⟩ := h
  refine ⟨by omega, h2, fun h0 => ?_⟩
  obtain ⟨ad, e, hc⟩ := h3 h0
  refine ⟨ad, e, fun j x hx => ?_⟩
  obtain ⟨r, hr, q1, q2, q3, q4, q5⟩ := hy j x hx
  obtain ⟨c, hcl, hK, hcell⟩ := hc j r hr
  obtain rfl := kRw_open hK
  rw [q1, q2, q3] at hcell
  exact ⟨_, by rfl, k40_mk W x q4 q5, hcell⟩
theorem RwOf.below {W W' : World} {x : S40} {r : Rw} (h : RwOf W x r) (hb : Below W.heap.size W W') : RwOf W' x r := ⟨h.1, h.2.1, h.2.2.1, h.2.2.2.1, Kd.C_below h.2.2.2.2 hb⟩
theorem grown_setB (W : World) (b i : Nat) (v : Value) : W.grownBy (W.setCell ⟨b, i, none⟩ v) (some b) := ⟨rfl, rfl, rfl, by show W.heap.size ≤ (W.heap.modify _ _).size; rw [Array.size_modify]; exact Nat.le_refl _, fun k _ hne => Below.heap_setCell _ _ _ _ (fun e => hne (by rw [e]))⟩
theorem cellFarG {W : World} {g i : Nat} {v u : Value} {a : Addr} (hne : a.block ≠ g) (h : W.cell? a = some u) : (W.setCell ⟨g, i, none⟩ v).cell? a = some u := by
  have e : (W.setCell ⟨g, i, none⟩ v).heap[a.block]? = W.heap[a.block]? := Below.heap_setCell _ _ _ _ hne
  unfold World.cell? at h ⊢
  rw [e]
  exact h
def bramblelaw10_SetsGrow.f (k : Nat) (l0_0 l0_1 : List ByteArray) (l0_2 : List S40) (a1_0 : Int) (l1_1 : List S48) (a1_2 : Int) : Option Bool :=
  (bramblelaw10_few.f k l0_0 l0_1 l0_2).bind fun c =>
    if c = true ∧ l1_1.length ≤ 64 then
      if l0_2.length ≤ 1000 then
        (brambleref09_Fit.f k l0_0 l0_1 (l0_2 ++ [⟨a1_0, l1_1, a1_2⟩])).bind fun b => if b = true then
          (sets_First.f k l0_0 l0_1 l0_2).bind fun F1 => (sets_First.f k l0_0 l0_1 (l0_2 ++ [⟨a1_0, l1_1, a1_2⟩])).bind fun F2 => if bramblelaw10_within.f k F1 F2 = some true then
          (sets_Follow.f k l0_0 l0_1 l0_2).bind fun L1 => (sets_Follow.f k l0_0 l0_1 (l0_2 ++ [⟨a1_0, l1_1, a1_2⟩])).bind fun L2 => if bramblelaw10_within.f k L1 L2 = some true then bramblelaw10_awake.f else none else none
          else bramblelaw10_awake.f
      else none
    else bramblelaw10_awake.f
set_option maxHeartbeats 8000000 in
set_option maxRecDepth 100000 in
theorem bramblelaw10_SetsGrow.calls (k : Nat) (A0_0 : Option Addr) (c0_0 : Nat) (l0_0 : List ByteArray) (A0_1 : Option Addr) (c0_1 : Nat) (l0_1 : List ByteArray) (A0_2 : Option Addr) (c0_2 : Nat) (l0_2 : List S40) (a1_0 : Int) (A1_1 : Option Addr) (c1_1 : Nat) (l1_1 : List S48) (a1_2 : Int) (r : Bool) (w : World) (hr0_0 : Kd.C Kd.string w A0_0 l0_0.length l0_0) (hc0_0 : l0_0.length ≤ c0_0) (hr0_1 : Kd.C Kd.string w A0_1 l0_1.length l0_1) (hc0_1 : l0_1.length ≤ c0_1) (hr0_2 : Kd.C k40 w A0_2 l0_2.length l0_2) (hc0_2 : l0_2.length ≤ c0_2) (hr1_1 : Kd.C k48 w A1_1 l1_1.length l1_1) (hc1_1 : l1_1.length ≤ c1_1) (h : bramblelaw10_SetsGrow.f k l0_0 l0_1 l0_2 a1_0 l1_1 a1_2 = some r) :
    Calls Try.prog 4 #[.agg #[.slice A0_0 l0_0.length c0_0, .slice A0_1 l0_1.length c0_1, .slice A0_2 l0_2.length c0_2], .agg #[.int .i64 a1_0, .slice A1_1 l1_1.length c1_1, .int .i64 a1_2]] w fun e w' => e = .returned (.bool r) ∧ Below w.heap.size w w' := by
  unfold bramblelaw10_SetsGrow.f at h
  obtain ⟨c, hc, h⟩ := Option.bind_eq_some_iff.mp h
  have alB : ∀ (W : World) (o : Obj), Below W.heap.size W (W.alloc o) := fun W o => (Below.refl _ _).alloc (Nat.le_refl _) o
  obtain ⟨W0, hW0⟩ : ∃ W0, w.alloc (.cells #[.slice A0_0 l0_0.length c0_0, .slice A0_1 l0_1.length c0_1, .slice A0_2 l0_2.length c0_2] 25) = W0 := ⟨_, rfl⟩
  obtain ⟨W1, hW1⟩ : ∃ W1, W0.alloc (.cells #[.int .i64 a1_0, .slice A1_1 l1_1.length c1_1, .int .i64 a1_2] 40) = W1 := ⟨_, rfl⟩
  have s0 : W0.heap.size = w.heap.size + 1 := by rw [← hW0]; simp
  have s1 : W1.heap.size = w.heap.size + 2 := by rw [← hW1]; simp [s0]
  have hb01 : Below w.heap.size w W1 := by rw [← hW1, ← hW0]; exact ((Below.refl _ _).alloc (Nat.le_refl _) _).alloc (by simp) _
  have f1 : W1.heap[w.heap.size]? = some (.cells #[.slice A0_0 l0_0.length c0_0, .slice A0_1 l0_1.length c0_1, .slice A0_2 l0_2.length c0_2] 25 (0, 0)) := by rw [← hW1, ← hW0]; exact blk_alloc (blk_new w _) _
  have g1 : W1.heap[w.heap.size + 1]? = some (.cells #[.int .i64 a1_0, .slice A1_1 l1_1.length c1_1, .int .i64 a1_2] 40 (0, 0)) := by rw [← s0, ← hW1]; exact blk_new W0 _
  have z0 : W1.cell? ⟨w.heap.size, 0, none⟩ = some (.slice A0_0 l0_0.length c0_0) := blk_cell f1 0
  have z1 : W1.cell? ⟨w.heap.size, 1, none⟩ = some (.slice A0_1 l0_1.length c0_1) := blk_cell f1 1
  have z2 : W1.cell? ⟨w.heap.size, 2, none⟩ = some (.slice A0_2 l0_2.length c0_2) := blk_cell f1 2
  have p0 : W1.cell? ⟨w.heap.size + 1, 0, none⟩ = some (.int .i64 a1_0) := blk_cell g1 0
  have p1 : W1.cell? ⟨w.heap.size + 1, 1, none⟩ = some (.slice A1_1 l1_1.length c1_1) := blk_cell g1 1
  have p2 : W1.cell? ⟨w.heap.size + 1, 2, none⟩ = some (.int .i64 a1_2) := blk_cell g1 2
  have hfew := bramblelaw10_few.calls k A0_0 c0_0 l0_0 A0_1 c0_1 l0_1 A0_2 c0_2 l0_2 c W1 (Kd.C_below hr0_0 hb01) hc0_0 (Kd.C_below hr0_1 hb01) hc0_1 (Kd.C_below hr0_2 hb01) hc0_2 hc
  have hlp : l1_1.length ≤ 9223372036854775807 := hr1_1.2.1
  clear f1 g1 hc
  by_cases hg : c = true ∧ l1_1.length ≤ 64
  rotate_left
  · rw [if_neg hg] at h
    have haw := fun W => bramblelaw10_awake.calls r W h
    clear h hr0_0 hr0_1 hr0_2 hr1_1
    cases c with
    | false =>
      clear hg
      go_enter Try.func4, Try.ntmps4
      go_wp2_with (first | (go_at_call 7; refine hfew.mono ?_; rintro e W2 ⟨rfl, hB2⟩) | (go_at_call 8; refine (haw _).mono ?_; rintro e W3 ⟨rfl, hB3⟩))
      go_ret
      exact ⟨rfl, (hb01.trans (hB2.mono hb01.size)).trans (hB3.mono (hb01.trans (hB2.mono hb01.size)).size)⟩
    | true =>
      have h1 : 64 < l1_1.length := by
        apply Decidable.byContradiction
        intro hh
        exact hg ⟨rfl, by omega⟩
      clear hg
      go_enter Try.func4, Try.ntmps4
      go_wp2_with (first | (go_at_call 7; refine hfew.mono ?_; rintro e W2 ⟨rfl, hB2⟩; have q1 := pw_cell_below hB2 p1) | (go_at_call 8; refine (haw _).mono ?_; rintro e W3 ⟨rfl, hB3⟩))
      go_ret
      exact ⟨rfl, (hb01.trans (hB2.mono hb01.size)).trans (hB3.mono (hb01.trans (hB2.mono hb01.size)).size)⟩
  rw [if_pos hg] at h
  obtain ⟨rfl, hl64⟩ := hg
  by_cases hlk : l0_2.length ≤ 1000
  rotate_left
  · rw [if_neg hlk] at h; cases h
  rw [if_pos hlk] at h
  obtain ⟨b, hfit, h⟩ := Option.bind_eq_some_iff.mp h
  have HH := Lib.hid h
  have HFIT := Lib.hid hfit
  obtain ⟨ys, hCr, hysl, hyo⟩ := C_raw hr0_2
  have HYS := Lib.hid (And.intro hysl hyo)
  clear h hfit hysl hyo
  go_enter Try.func4, Try.ntmps4
  go_wp2_with (go_at_call 7; refine hfew.mono ?_; rintro e W2 ⟨rfl, hB2⟩; have y0 := pw_cell_below hB2 z0; have y1 := pw_cell_below hB2 z1; have y2 := pw_cell_below hB2 z2; have q0 := pw_cell_below hB2 p0; have q1 := pw_cell_below hB2 p1; have q2 := pw_cell_below hB2 p2)
  rename_i K6 hK6
  obtain ⟨hysl, hyo⟩ := HYS.out
  obtain ⟨gb, hgbe⟩ : ∃ gb, W2.heap.size = gb := ⟨_, rfl⟩
  obtain ⟨Wg, hWg⟩ : ∃ W, W2.alloc (.cells #[.slice A0_0 l0_0.length c0_0, .slice A0_1 l0_1.length c0_1, .slice A0_2 l0_2.length c0_2] 25) = W := ⟨_, rfl⟩
  have hgbg : Wg.heap[gb]? = some (.cells #[.slice A0_0 l0_0.length c0_0, .slice A0_1 l0_1.length c0_1, .slice A0_2 l0_2.length c0_2] 25 (0, 0)) := by rw [← hWg, ← hgbe]; exact blk_new W2 _
  have sg : Wg.heap.size = gb + 1 := by rw [← hWg, ← hgbe]; simp
  have hB2g : Below W2.heap.size W2 Wg := by rw [← hWg]; exact alB _ _
  rw [hWg, hgbe]
  have hb2 := hb01.trans (hB2.mono hb01.size)
  have hgw : w.heap.size + 2 ≤ gb := by have := hB2.size; omega
  obtain ⟨Wd, hWd⟩ : ∃ W, Wg.drew = W := ⟨_, rfl⟩
  have hBd : Below w.heap.size w Wd := by rw [← hWd]; exact below_drew (hb2.trans (hB2g.mono hb2.size))
  have hgb : Wd.heap[gb]? = some (.cells #[.slice A0_0 l0_0.length c0_0, .slice A0_1 l0_1.length c0_1, .slice A0_2 l0_2.length c0_2] 25 (0, 0)) := by rw [← hWd]; exact blk_drew hgbg
  have sd : Wd.heap.size = gb + 1 := by rw [← hWd]; exact sg
  have hHeld : (fun X => X.cell? ⟨w.heap.size, 0, none⟩ = some (.slice A0_0 l0_0.length c0_0) ∧ X.cell? ⟨w.heap.size, 1, none⟩ = some (.slice A0_1 l0_1.length c0_1) ∧ X.cell? ⟨w.heap.size, 2, none⟩ = some (.slice A0_2 l0_2.length c0_2) ∧ X.cell? ⟨w.heap.size + 1, 0, none⟩ = some (.int .i64 a1_0) ∧ X.cell? ⟨w.heap.size + 1, 1, none⟩ = some (.slice A1_1 l1_1.length c1_1) ∧ X.cell? ⟨w.heap.size + 1, 2, none⟩ = some (.int .i64 a1_2)) Wd := by
    rw [← hWd]
    exact ⟨pw_cell_below hB2g y0, pw_cell_below hB2g y1, pw_cell_below hB2g y2, pw_cell_below hB2g q0, pw_cell_below hB2g q1, pw_cell_below hB2g q2⟩
  have hHeldX : (fun X => X.cell? ⟨w.heap.size, 0, none⟩ = some (.slice A0_0 l0_0.length c0_0) ∧ X.cell? ⟨w.heap.size, 1, none⟩ = some (.slice A0_1 l0_1.length c0_1) ∧ X.cell? ⟨w.heap.size, 2, none⟩ = some (.slice A0_2 l0_2.length c0_2) ∧ X.cell? ⟨w.heap.size + 1, 0, none⟩ = some (.int .i64 a1_0) ∧ X.cell? ⟨w.heap.size + 1, 1, none⟩ = some (.slice A1_1 l1_1.length c1_1) ∧ X.cell? ⟨w.heap.size + 1, 2, none⟩ = some (.int .i64 a1_2)) Wg.drew := by rw [hWd]; exact hHeld
  have keep4 : ∀ X Y : World, Below X.heap.size X Y → (fun X => X.cell? ⟨w.heap.size, 0, none⟩ = some (.slice A0_0 l0_0.length c0_0) ∧ X.cell? ⟨w.heap.size, 1, none⟩ = some (.slice A0_1 l0_1.length c0_1) ∧ X.cell? ⟨w.heap.size, 2, none⟩ = some (.slice A0_2 l0_2.length c0_2) ∧ X.cell? ⟨w.heap.size + 1, 0, none⟩ = some (.int .i64 a1_0) ∧ X.cell? ⟨w.heap.size + 1, 1, none⟩ = some (.slice A1_1 l1_1.length c1_1) ∧ X.cell? ⟨w.heap.size + 1, 2, none⟩ = some (.int .i64 a1_2)) X → (fun X => X.cell? ⟨w.heap.size, 0, none⟩ = some (.slice A0_0 l0_0.length c0_0) ∧ X.cell? ⟨w.heap.size, 1, none⟩ = some (.slice A0_1 l0_1.length c0_1) ∧ X.cell? ⟨w.heap.size, 2, none⟩ = some (.slice A0_2 l0_2.length c0_2) ∧ X.cell? ⟨w.heap.size + 1, 0, none⟩ = some (.int .i64 a1_0) ∧ X.cell? ⟨w.heap.size + 1, 1, none⟩ = some (.slice A1_1 l1_1.length c1_1) ∧ X.cell? ⟨w.heap.size + 1, 2, none⟩ = some (.int .i64 a1_2)) Y := fun X Y h hh => ⟨pw_cell_below h hh.1, pw_cell_below h hh.2.1, pw_cell_below h hh.2.2.1, pw_cell_below h hh.2.2.2.1, pw_cell_below h hh.2.2.2.2.1, pw_cell_below h hh.2.2.2.2.2⟩
  have hHD := hHeld
  have hlen7 : (ys ++ [((a1_0, (A1_1, l1_1.length, c1_1), a1_2) : Rw)]).length = l0_2.length + 1 := by rw [List.length_append, hysl]; rfl
  clear hWg hgbg hB2g hW0 hW1 z0 z1 z2 p0 p1 p2 y0 y1 y2 q0 q1 q2 hfew sg hgbe
  refine Ahd.wp_qz (start_ (S := (fun X => X.cell? ⟨w.heap.size, 0, none⟩ = some (.slice A0_0 l0_0.length c0_0) ∧ X.cell? ⟨w.heap.size, 1, none⟩ = some (.slice A0_1 l0_1.length c0_1) ∧ X.cell? ⟨w.heap.size, 2, none⟩ = some (.slice A0_2 l0_2.length c0_2) ∧ X.cell? ⟨w.heap.size + 1, 0, none⟩ = some (.int .i64 a1_0) ∧ X.cell? ⟨w.heap.size + 1, 1, none⟩ = some (.slice A1_1 l1_1.length c1_1) ∧ X.cell? ⟨w.heap.size + 1, 2, none⟩ = some (.int .i64 a1_2))) (ds := [8]) #[false, false, false, false, false, false, false, false, false] (by kernel_rfl) rfl rfl hHeldX (fun h0_ => ?_))
  clear h0_
  rw [hWd]
  refine pure_ (i := 1) (N := (some 18)) (v := ?_) (a' := ?_) #[false, true, false, false, false, false, false, false, false] rfl rfl (by kernel_rfl) (fun _ _ _ h => h) (Or.inl ⟨by rfl, ?_⟩) ?_ ?_
  rotate_left
  · intro w'
    go_simp
    with_reducible rfl
  rotate_left
  · simp only [Act.put, List.setIfInBounds_toArray, List.set_cons_zero, List.set_cons_succ]
    rfl
  refine take_ (i := 2) (N := (some 19)) (v := ?_) (a' := ?_) #[false, true, true, false, false, false, false, false, false] rfl rfl (by kernel_rfl) (fun _ _ _ h => h) (Or.inl ⟨by rfl, ?_⟩) hHeld ?_ ?_
  rotate_left
  · rintro w' ⟨s0, s1, s2, s3, s4, s5⟩
    go_simp
    with_reducible rfl
  rotate_left
  · simp only [Act.put, List.setIfInBounds_toArray, List.set_cons_zero, List.set_cons_succ]
    rfl
  refine take_ (i := 4) (N := (some 21)) (v := ?_) (a' := ?_) #[false, true, true, false, true, false, false, false, false] rfl rfl (by kernel_rfl) (fun _ _ _ h => h) (Or.inl ⟨by rfl, ?_⟩) hHeld ?_ ?_
  rotate_left
  · rintro w' ⟨s0, s1, s2, s3, s4, s5⟩
    go_simp
    with_reducible rfl
  rotate_left
  · simp only [Act.put, List.setIfInBounds_toArray, List.set_cons_zero, List.set_cons_succ]
    rfl
  refine join_ (σ := Value × Value × Value) 3 #[true, true, true, true, true, true, false, false, false] (fun s => [(17, s.1), (20, s.2.1), (22, s.2.2)]) (fun s w' => (∃ g5 : Nat, s.2.2 = .slice (some ⟨g5, 0, none⟩) 1 1 ∧ w'.heap[g5]? = some (.cells [Value.int .i64 a1_0, .slice A1_1 l1_1.length c1_1, .int .i64 a1_2].toArray 40 (0, 0))) ∧ Kd.R kRw 40 w' Wd.heap.size (fun _ => True) s.2.1 ys ∧ Below Wd.heap.size Wd w' ∧ (fun X => X.cell? ⟨w.heap.size, 0, none⟩ = some (.slice A0_0 l0_0.length c0_0) ∧ X.cell? ⟨w.heap.size, 1, none⟩ = some (.slice A0_1 l0_1.length c0_1) ∧ X.cell? ⟨w.heap.size, 2, none⟩ = some (.slice A0_2 l0_2.length c0_2) ∧ X.cell? ⟨w.heap.size + 1, 0, none⟩ = some (.int .i64 a1_0) ∧ X.cell? ⟨w.heap.size + 1, 1, none⟩ = some (.slice A1_1 l1_1.length c1_1) ∧ X.cell? ⟨w.heap.size + 1, 2, none⟩ = some (.int .i64 a1_2)) w') ?_ ?_
  rotate_left
  · intro hCont
    refine two_ (i := 0) (j := 5) (Ni := (some 17)) (Nj := (some 22)) #[true, true, true, false, true, false, false, false, false] #[false, true, true, false, true, true, false, false, false] rfl rfl rfl rfl (by kernel_rfl) (by decide) (by decide) (fun K hK => ?_) (fun K hK => ?_)
    · skip
      refine value_ (w1 := Wd.alloc (Obj.cells #[] 40)) (v := .slice (some ⟨Wd.heap.size, 0, none⟩) 0 0) (by rfl) rfl ?_ ?_
      · go_simp
        done
      obtain ⟨Y0, hY0⟩ : ∃ Y, Wd.alloc (Obj.cells #[] 40) = Y := ⟨_, rfl⟩
      have bY0 : Below Wd.heap.size Wd Y0 := by rw [← hY0]; exact alB _ _
      have bbY0 : Below Wd.heap.size Wd Y0 := ((Below.refl Wd.heap.size Wd)).trans (bY0.mono ((Below.refl Wd.heap.size Wd)).size)
      have sY0 : Y0.heap.size = Wd.heap.size + 1 := by rw [← hY0]; simp
      have hhY0 := keep4 _ _ bY0 hHeld
      rw [hY0]
      have r0Y0 : Kd.R kRw 40 Y0 Wd.heap.size (fun _ => True) (.slice (some ⟨Wd.heap.size, 0, none⟩) 0 0) [] := by rw [← hY0]; exact kRw_empty _ _ ((Below.refl Wd.heap.size Wd)).size
      refine hK.out _ _ hhY0 (fun h0_ => ?_)
      clear hK K h0_
      refine norm_ (a' := ?_) ?_ ?_
      rotate_left
      · show Act.put _ (some 17) _ = _
        simp only [Act.put, List.setIfInBounds_toArray, List.set_cons_zero, List.set_cons_succ]
        rfl
      refine two_ (i := 3) (j := 5) (Ni := (some 20)) (Nj := (some 22)) #[true, true, true, true, true, false, false, false, false] #[true, true, true, false, true, true, false, false, false] rfl rfl rfl rfl (by kernel_rfl) (by decide) (by decide) (fun K hK => ?_) (fun K hK => ?_)
      · skip
        refine Kd.R_append_rows_step kRw (w0 := Wd) Wd.heap.size (by rfl) (.tmp 17) (.tmp 19) 23 40 (.agg #[.int .i64 0, .slice none 0 0, .int .i64 0]) 40 rfl Try.underlying23 (by kernel_rfl) rfl (by decide) (by decide) (.slice (some ⟨Wd.heap.size, 0, none⟩) 0 0) [] ys A0_2 l0_2.length c0_2 (fun _ => True) (fun _ => False) rfl rfl r0Y0 (Kd.C_below hCr (hBd.trans (bbY0.mono hBd.size))) kRw_KM (fun _ h => h.elim) (fun _ _ => trivial) bbY0 (bbY0).size (by simp; omega) ?_
        intro v20 Y03 r3Y03 bbY03 hg20 _
        have hhY03 := keep4 _ _ bbY03 hHeld
        refine hK.out _ _ hhY03 (fun h0_ => ?_)
        clear hK K h0_
        refine norm_ (a' := ?_) ?_ ?_
        rotate_left
        · show Act.put _ (some 20) _ = _
          simp only [Act.put, List.setIfInBounds_toArray, List.set_cons_zero, List.set_cons_succ]
          rfl
        refine one_ (i := 5) (N := (some 22)) #[true, true, true, true, true, true, false, false, false] rfl rfl (by kernel_rfl) (by decide) (fun K hK => ?_)
        refine value_ (w1 := Y03.alloc (Obj.cells #[Value.int .i64 a1_0, .slice A1_1 l1_1.length c1_1, .int .i64 a1_2] 40)) (v := .slice (some ⟨Y03.heap.size, 0, none⟩) 1 1) (by rfl) rfl ?_ ?_
        · go_simp
          done
        obtain ⟨Y035, hY035⟩ : ∃ Y, Y03.alloc (Obj.cells #[Value.int .i64 a1_0, .slice A1_1 l1_1.length c1_1, .int .i64 a1_2] 40) = Y := ⟨_, rfl⟩
        have bY035 : Below Y03.heap.size Y03 Y035 := by rw [← hY035]; exact alB _ _
        have bbY035 : Below Wd.heap.size Wd Y035 := (bbY03).trans (bY035.mono (bbY03).size)
        have sY035 : Y035.heap.size = Y03.heap.size + 1 := by rw [← hY035]; simp
        have hhY035 := keep4 _ _ bY035 hhY03
        rw [hY035]
        have r5Y035 : Y035.heap[Y03.heap.size]? = some (.cells [Value.int .i64 a1_0, .slice A1_1 l1_1.length c1_1, .int .i64 a1_2].toArray 40 (0, 0)) := by rw [← hY035]; exact blk_new _ _
        have r3Y035 := Kd.R_below r3Y03 bY035
        refine hK.out _ _ hhY035 (fun h0_ => ?_)
        clear hK K h0_
        refine norm_ (a' := ?_) ?_ ?_
        rotate_left
        · show Act.put _ (some 22) _ = _
          simp only [Act.put, List.setIfInBounds_toArray, List.set_cons_zero, List.set_cons_succ]
          rfl
        exact norm_ (by first | (simp only [putAll, Act.put, List.setIfInBounds_toArray, List.set_cons_zero, List.set_cons_succ]; done) | (simp only [putAll, Act.put, List.setIfInBounds_toArray, List.set_cons_zero, List.set_cons_succ]; rfl)) (hCont (.slice (some ⟨Wd.heap.size, 0, none⟩) 0 0, v20, .slice (some ⟨Y03.heap.size, 0, none⟩) 1 1) _ ⟨⟨Y03.heap.size, rfl, r5Y035⟩, r3Y035, bbY035, hhY035⟩)
      · skip
        refine value_ (w1 := Y0.alloc (Obj.cells #[Value.int .i64 a1_0, .slice A1_1 l1_1.length c1_1, .int .i64 a1_2] 40)) (v := .slice (some ⟨Y0.heap.size, 0, none⟩) 1 1) (by rfl) rfl ?_ ?_
        · go_simp
          done
        obtain ⟨Y05, hY05⟩ : ∃ Y, Y0.alloc (Obj.cells #[Value.int .i64 a1_0, .slice A1_1 l1_1.length c1_1, .int .i64 a1_2] 40) = Y := ⟨_, rfl⟩
        have bY05 : Below Y0.heap.size Y0 Y05 := by rw [← hY05]; exact alB _ _
        have bbY05 : Below Wd.heap.size Wd Y05 := (bbY0).trans (bY05.mono (bbY0).size)
        have sY05 : Y05.heap.size = Y0.heap.size + 1 := by rw [← hY05]; simp
        have hhY05 := keep4 _ _ bY05 hhY0
        rw [hY05]
        have r5Y05 : Y05.heap[Y0.heap.size]? = some (.cells [Value.int .i64 a1_0, .slice A1_1 l1_1.length c1_1, .int .i64 a1_2].toArray 40 (0, 0)) := by rw [← hY05]; exact blk_new _ _
        have r0Y05 := Kd.R_below r0Y0 bY05
        refine hK.out _ _ hhY05 (fun h0_ => ?_)
        clear hK K h0_
        refine norm_ (a' := ?_) ?_ ?_
        rotate_left
        · show Act.put _ (some 22) _ = _
          simp only [Act.put, List.setIfInBounds_toArray, List.set_cons_zero, List.set_cons_succ]
          rfl
        refine one_ (i := 3) (N := (some 20)) #[true, true, true, true, true, true, false, false, false] rfl rfl (by kernel_rfl) (by decide) (fun K hK => ?_)
        refine Kd.R_append_rows_step kRw (w0 := Wd) Wd.heap.size (by rfl) (.tmp 17) (.tmp 19) 23 40 (.agg #[.int .i64 0, .slice none 0 0, .int .i64 0]) 40 rfl Try.underlying23 (by kernel_rfl) rfl (by decide) (by decide) (.slice (some ⟨Wd.heap.size, 0, none⟩) 0 0) [] ys A0_2 l0_2.length c0_2 (fun _ => True) (fun _ => False) rfl rfl r0Y05 (Kd.C_below hCr (hBd.trans (bbY05.mono hBd.size))) kRw_KM (fun _ h => h.elim) (fun _ _ => trivial) bbY05 (bbY05).size (by simp; omega) ?_
        intro v20 Y053 r3Y053 bbY053 hg20 _
        have hhY053 := keep4 _ _ bbY053 hHeld
        have r5Y053 := blk_grown r5Y05 hg20 (by simp [Value.ownBlock]; omega)
        refine hK.out _ _ hhY053 (fun h0_ => ?_)
        clear hK K h0_
        refine norm_ (a' := ?_) ?_ ?_
        rotate_left
        · show Act.put _ (some 20) _ = _
          simp only [Act.put, List.setIfInBounds_toArray, List.set_cons_zero, List.set_cons_succ]
          rfl
        exact norm_ (by first | (simp only [putAll, Act.put, List.setIfInBounds_toArray, List.set_cons_zero, List.set_cons_succ]; done) | (simp only [putAll, Act.put, List.setIfInBounds_toArray, List.set_cons_zero, List.set_cons_succ]; rfl)) (hCont (.slice (some ⟨Wd.heap.size, 0, none⟩) 0 0, v20, .slice (some ⟨Y0.heap.size, 0, none⟩) 1 1) _ ⟨⟨Y0.heap.size, rfl, r5Y053⟩, r3Y053, bbY053, hhY053⟩)
    · skip
      refine value_ (w1 := Wd.alloc (Obj.cells #[Value.int .i64 a1_0, .slice A1_1 l1_1.length c1_1, .int .i64 a1_2] 40)) (v := .slice (some ⟨Wd.heap.size, 0, none⟩) 1 1) (by rfl) rfl ?_ ?_
      · go_simp
        done
      obtain ⟨Y5, hY5⟩ : ∃ Y, Wd.alloc (Obj.cells #[Value.int .i64 a1_0, .slice A1_1 l1_1.length c1_1, .int .i64 a1_2] 40) = Y := ⟨_, rfl⟩
      have bY5 : Below Wd.heap.size Wd Y5 := by rw [← hY5]; exact alB _ _
      have bbY5 : Below Wd.heap.size Wd Y5 := ((Below.refl Wd.heap.size Wd)).trans (bY5.mono ((Below.refl Wd.heap.size Wd)).size)
      have sY5 : Y5.heap.size = Wd.heap.size + 1 := by rw [← hY5]; simp
      have hhY5 := keep4 _ _ bY5 hHeld
      rw [hY5]
      have r5Y5 : Y5.heap[Wd.heap.size]? = some (.cells [Value.int .i64 a1_0, .slice A1_1 l1_1.length c1_1, .int .i64 a1_2].toArray 40 (0, 0)) := by rw [← hY5]; exact blk_new _ _
      refine hK.out _ _ hhY5 (fun h0_ => ?_)
      clear hK K h0_
      refine norm_ (a' := ?_) ?_ ?_
      rotate_left
      · show Act.put _ (some 22) _ = _
        simp only [Act.put, List.setIfInBounds_toArray, List.set_cons_zero, List.set_cons_succ]
        rfl
      refine one_ (i := 0) (N := (some 17)) #[true, true, true, false, true, true, false, false, false] rfl rfl (by kernel_rfl) (by decide) (fun K hK => ?_)
      refine value_ (w1 := Y5.alloc (Obj.cells #[] 40)) (v := .slice (some ⟨Y5.heap.size, 0, none⟩) 0 0) (by rfl) rfl ?_ ?_
      · go_simp
        done
      obtain ⟨Y50, hY50⟩ : ∃ Y, Y5.alloc (Obj.cells #[] 40) = Y := ⟨_, rfl⟩
      have bY50 : Below Y5.heap.size Y5 Y50 := by rw [← hY50]; exact alB _ _
      have bbY50 : Below Wd.heap.size Wd Y50 := (bbY5).trans (bY50.mono (bbY5).size)
      have sY50 : Y50.heap.size = Y5.heap.size + 1 := by rw [← hY50]; simp
      have hhY50 := keep4 _ _ bY50 hhY5
      rw [hY50]
      have r0Y50 : Kd.R kRw 40 Y50 Wd.heap.size (fun _ => True) (.slice (some ⟨Y5.heap.size, 0, none⟩) 0 0) [] := by rw [← hY50]; exact kRw_empty _ _ (bbY5).size
      have r5Y50 := blk_below r5Y5 bY50
      refine hK.out _ _ hhY50 (fun h0_ => ?_)
      clear hK K h0_
      refine norm_ (a' := ?_) ?_ ?_
      rotate_left
      · show Act.put _ (some 17) _ = _
        simp only [Act.put, List.setIfInBounds_toArray, List.set_cons_zero, List.set_cons_succ]
        rfl
      refine one_ (i := 3) (N := (some 20)) #[true, true, true, true, true, true, false, false, false] rfl rfl (by kernel_rfl) (by decide) (fun K hK => ?_)
      refine Kd.R_append_rows_step kRw (w0 := Wd) Wd.heap.size (by rfl) (.tmp 17) (.tmp 19) 23 40 (.agg #[.int .i64 0, .slice none 0 0, .int .i64 0]) 40 rfl Try.underlying23 (by kernel_rfl) rfl (by decide) (by decide) (.slice (some ⟨Y5.heap.size, 0, none⟩) 0 0) [] ys A0_2 l0_2.length c0_2 (fun _ => True) (fun _ => False) rfl rfl r0Y50 (Kd.C_below hCr (hBd.trans (bbY50.mono hBd.size))) kRw_KM (fun _ h => h.elim) (fun _ _ => trivial) bbY50 (bbY50).size (by simp; omega) ?_
      intro v20 Y503 r3Y503 bbY503 hg20 _
      have hhY503 := keep4 _ _ bbY503 hHeld
      have r5Y503 := blk_grown r5Y50 hg20 (by simp [Value.ownBlock]; omega)
      refine hK.out _ _ hhY503 (fun h0_ => ?_)
      clear hK K h0_
      refine norm_ (a' := ?_) ?_ ?_
      rotate_left
      · show Act.put _ (some 20) _ = _
        simp only [Act.put, List.setIfInBounds_toArray, List.set_cons_zero, List.set_cons_succ]
        rfl
      exact norm_ (by first | (simp only [putAll, Act.put, List.setIfInBounds_toArray, List.set_cons_zero, List.set_cons_succ]; done) | (simp only [putAll, Act.put, List.setIfInBounds_toArray, List.set_cons_zero, List.set_cons_succ]; rfl)) (hCont (.slice (some ⟨Y5.heap.size, 0, none⟩) 0 0, v20, .slice (some ⟨Wd.heap.size, 0, none⟩) 1 1) _ ⟨⟨Wd.heap.size, rfl, r5Y503⟩, r3Y503, bbY503, hhY503⟩)
  rintro ⟨v1, v2, v3⟩ W6 ⟨⟨g5, h5, hg5⟩, r3, bb6, hHeld⟩
  cases h5
  have r3 : Kd.R kRw 40 W6 Wd.heap.size (fun _ => True) v2 ys := r3
  refine norm_ (a' := ?_) ?_ ?_
  rotate_left
  · simp only [putAll, Act.put, List.setIfInBounds_toArray, List.set_cons_zero, List.set_cons_succ]
    rfl
  refine one_ (i := 6) (N := (some 23)) #[true, true, true, true, true, true, true, false, false] rfl rfl (by kernel_rfl) (by decide) (fun K hK => ?_)
  refine Kd.R_append_rows_step kRw (w0 := Wd) Wd.heap.size (by rfl) (.tmp 20) (.tmp 22) 23 40 (.agg #[.int .i64 0, .slice none 0 0, .int .i64 0]) 40 rfl Try.underlying23 (by kernel_rfl) rfl (by decide) (by decide) v2 ys [((a1_0, (A1_1, l1_1.length, c1_1), a1_2) : Rw)] (some ⟨g5, 0, none⟩) 1 1 (fun _ => True) (fun _ => False) rfl rfl r3 (exC1 (d := kRw) rfl hg5 (kRw_K _ _)) kRw_KM (fun _ h => h.elim) (fun _ _ => trivial) bb6 bb6.size (by rw [hysl]; omega) ?_
  intro v7 W7 r7 bb7 _ _
  obtain ⟨A7, c7, hv7, hl7, hC7⟩ := Kd.R_reads r7
  rw [hlen7] at hv7 hl7 hC7
  subst hv7
  have hh7 := keep4 _ _ bb7 hHD
  refine hK.out _ _ hh7 (fun h0_ => ?_)
  clear hK K h0_
  refine pure_ (i := 7) (N := (some 24)) (v := ?_) (a' := ?_) #[true, true, true, true, true, true, true, true, false] rfl rfl (by kernel_rfl) (fun _ _ _ h => h) (Or.inl ⟨by rfl, ?_⟩) ?_ ?_
  rotate_left
  · intro w'
    go_simp
    with_reducible rfl
  rotate_left
  · simp only [Act.put, List.setIfInBounds_toArray, List.set_cons_zero, List.set_cons_succ]
    rfl
  refine last_ (i := 8) (N := none) #[true, true, true, true, true, true, true, true, true] rfl rfl (by kernel_rfl) (by decide) (fun K hK => ?_)
  have gbb : W7.heap[gb]? = some (.cells #[.slice A0_0 l0_0.length c0_0, .slice A0_1 l0_1.length c0_1, .slice A0_2 l0_2.length c0_2] 25 (0, 0)) := (bb7.block gb (by omega)).trans hgb
  have gc2 : W7.cell? ⟨gb, 2, none⟩ = some (.slice A0_2 l0_2.length c0_2) := blk_cell gbb 2
  have gf2 : W7.frozen? ⟨gb, 2, none⟩ = false := blk_frozen gbb 2
  refine skip_ (w1 := W7.setCell ⟨gb, 2, none⟩ (.slice A7 (l0_2.length + 1) c7)) (by rfl) rfl ?_ ?_
  · go_simp
  refine hK.out _ _ ?_
  clear hK K
  refine done_ (by kernel_rfl) ?_
  refine hK6 _ _ ?_
  obtain ⟨W8, hW8⟩ : ∃ W, W7.setCell ⟨gb, 2, none⟩ (.slice A7 (l0_2.length + 1) c7) = W := ⟨_, rfl⟩
  have hb7 : Below w.heap.size w W7 := hBd.trans (bb7.mono hBd.size)
  have hb8 : Below w.heap.size w W8 := by rw [← hW8]; exact hb7.setCell (p := ⟨gb, 2, none⟩) (by show w.heap.size ≤ gb; omega) _
  have r8 : Kd.R kRw 40 W8 Wd.heap.size (fun k => k ≠ gb) (.slice A7 (l0_2.length + 1) c7) (ys ++ [((a1_0, (A1_1, l1_1.length, c1_1), a1_2) : Rw)]) := by
    rw [← hW8]
    exact Kd.R_grown (Kd.R_mono (Kd.R_bound r7) (fun k hk => by have := hk.2.1; omega)) (grown_setB W7 gb 2 _) (fun k hk e => by cases e; exact hk rfl)
  have hC8 : Kd.C k40 W8 A7 (l0_2.length + 1) (l0_2 ++ [⟨a1_0, l1_1, a1_2⟩]) := by
    have hC9 := (Kd.R_reads' r8).2.2
    rw [hlen7] at hC9
    refine C_prods (ys := ys ++ [((a1_0, (A1_1, l1_1.length, c1_1), a1_2) : Rw)]) hC9 (by rw [List.length_append, List.length_append, hysl]; rfl) (fun j x hx => ?_)
    rcases Nat.lt_or_ge j l0_2.length with hj | hj
    · rw [List.getElem?_append_left hj] at hx
      obtain ⟨r, hr, ho⟩ := hyo j x hx
      exact ⟨r, by rw [List.getElem?_append_left (by omega)]; exact hr, ho.below hb8⟩
    · rw [List.getElem?_append_right hj, List.getElem?_singleton] at hx
      split at hx
      · cases hx
        refine ⟨(a1_0, (A1_1, l1_1.length, c1_1), a1_2), by rw [List.getElem?_append_right (by omega), hysl, show j - l0_2.length = 0 by omega]; rfl, rfl, rfl, rfl, hc1_1, Kd.C_below hr1_1 hb8⟩
      · cases hx
  have g8 : W8.heap[gb]? = some (.cells #[.slice A0_0 l0_0.length c0_0, .slice A0_1 l0_1.length c0_1, .slice A7 (l0_2.length + 1) c7] 25 (0, 0)) := by rw [← hW8]; exact blk_put gbb 2 _ rfl
  have hh8 : W8.cell? ⟨w.heap.size, 0, none⟩ = some (.slice A0_0 l0_0.length c0_0) ∧ W8.cell? ⟨w.heap.size, 1, none⟩ = some (.slice A0_1 l0_1.length c0_1) ∧ W8.cell? ⟨w.heap.size, 2, none⟩ = some (.slice A0_2 l0_2.length c0_2) := by
    rw [← hW8]
    exact ⟨cellFarG (by show w.heap.size ≠ gb; omega) hh7.1, cellFarG (by show w.heap.size ≠ gb; omega) hh7.2.1, cellFarG (by show w.heap.size ≠ gb; omega) hh7.2.2.1⟩
  obtain ⟨x80, x81, x82⟩ := hh8
  have y80 : W8.cell? ⟨gb, 0, none⟩ = some (.slice A0_0 l0_0.length c0_0) := blk_cell g8 0
  have y81 : W8.cell? ⟨gb, 1, none⟩ = some (.slice A0_1 l0_1.length c0_1) := blk_cell g8 1
  have y82 : W8.cell? ⟨gb, 2, none⟩ = some (.slice A7 (l0_2.length + 1) c7) := blk_cell g8 2
  have hll : (l0_2 ++ [(⟨a1_0, l1_1, a1_2⟩ : S40)]).length = l0_2.length + 1 := by rw [List.length_append]; rfl
  have hC9 : Kd.C k40 W8 A7 (l0_2 ++ [(⟨a1_0, l1_1, a1_2⟩ : S40)]).length (l0_2 ++ [(⟨a1_0, l1_1, a1_2⟩ : S40)]) := by rw [hll]; exact hC8
  have hfc := brambleref09_Fit.calls k A0_0 c0_0 l0_0 A0_1 c0_1 l0_1 A7 c7 _ b W8 (Kd.C_below hr0_0 hb8) hc0_0 (Kd.C_below hr0_1 hb8) hc0_1 hC9 (by rw [hll]; exact hl7) HFIT.out
  rw [hll] at hfc
  have h := HH.out
  rw [hW8]
  clear hK6 hHeld hHeldX hHD hh7 r7 r8 hC7 hC8 r3 bb6 hg5 gbb gc2 gf2 g8 bb7 hW8 hyo hysl hCr HYS HFIT hgb hlen7 hBd hb7 keep4
  have HLL := Lib.hid hll
  clear hll
  cases b with
  | false =>
    rw [if_neg (by decide)] at h
    have haw := fun W => bramblelaw10_awake.calls r W h
    clear h HH
    go_wp2_with (first | (go_at_call 13; refine hfc.mono ?_; rintro e W9 ⟨rfl, hB9⟩) | (go_at_call 8; refine (haw _).mono ?_; rintro e W10 ⟨rfl, hB10⟩))
    go_ret
    exact ⟨rfl, (hb8.trans (hB9.mono hb8.size)).trans (hB10.mono (hb8.trans (hB9.mono hb8.size)).size)⟩
  | true =>
    rw [if_pos rfl] at h
    obtain ⟨F1, q1, h⟩ := Option.bind_eq_some_iff.mp h
    obtain ⟨F2, q2, h⟩ := Option.bind_eq_some_iff.mp h
    split at h
    case isFalse => cases h
    rename_i hw1
    obtain ⟨L1, q3, h⟩ := Option.bind_eq_some_iff.mp h
    obtain ⟨L2, q4, h⟩ := Option.bind_eq_some_iff.mp h
    split at h
    case isFalse => cases h
    rename_i hw2
    have hx1 := fun W (h : Below w.heap.size w W) => sets_First.calls k A0_0 c0_0 l0_0 A0_1 c0_1 l0_1 A0_2 c0_2 l0_2 F1 W (Kd.C_below hr0_0 h) hc0_0 (Kd.C_below hr0_1 h) hc0_1 (Kd.C_below hr0_2 h) hc0_2 q1
    have hx3 := fun W (h : Below w.heap.size w W) => sets_Follow.calls k A0_0 c0_0 l0_0 A0_1 c0_1 l0_1 A0_2 c0_2 l0_2 L1 W (Kd.C_below hr0_0 h) hc0_0 (Kd.C_below hr0_1 h) hc0_1 (Kd.C_below hr0_2 h) hc0_2 q3
    have hx2 : ∀ W, Below W8.heap.size W8 W → Calls Try.prog 12 #[.agg #[.slice A0_0 l0_0.length c0_0, .slice A0_1 l0_1.length c0_1, .slice A7 (l0_2.length + 1) c7]] W fun e w' => ∃ v0_ : Value, e = .returned v0_ ∧ Kd.R (Kd.slice 3 (Kd.int .i64)) 26 w' W.heap.size (fun _ => True) v0_ F2 ∧ Below W.heap.size W w' := fun W hW => by
      have := sets_First.calls k A0_0 c0_0 l0_0 A0_1 c0_1 l0_1 A7 c7 _ F2 W (Kd.C_below (Kd.C_below hr0_0 hb8) hW) hc0_0 (Kd.C_below (Kd.C_below hr0_1 hb8) hW) hc0_1 (Kd.C_below hC9 hW) (by rw [HLL.out]; exact hl7) q2
      rwa [HLL.out] at this
    have hx4 : ∀ W, Below W8.heap.size W8 W → Calls Try.prog 15 #[.agg #[.slice A0_0 l0_0.length c0_0, .slice A0_1 l0_1.length c0_1, .slice A7 (l0_2.length + 1) c7]] W fun e w' => ∃ v0_ : Value, e = .returned v0_ ∧ Kd.R (Kd.slice 3 (Kd.int .i64)) 26 w' W.heap.size (fun _ => True) v0_ L2 ∧ Below W.heap.size W w' := fun W hW => by
      have := sets_Follow.calls k A0_0 c0_0 l0_0 A0_1 c0_1 l0_1 A7 c7 _ L2 W (Kd.C_below (Kd.C_below hr0_0 hb8) hW) hc0_0 (Kd.C_below (Kd.C_below hr0_1 hb8) hW) hc0_1 (Kd.C_below hC9 hW) (by rw [HLL.out]; exact hl7) q4
      rwa [HLL.out] at this
    have HW := Lib.hid (And.intro hw1 hw2)
    have HHH := Lib.hid h
    clear q1 q2 q3 q4 HH hw1 hw2 h
    go_wp2_with (go_at_call 13; refine hfc.mono ?_; rintro e W9 ⟨rfl, hB9⟩)
    rename_i K7 hK7
    obtain ⟨hw1, hw2⟩ := HW.out
    have h := HHH.out
    obtain ⟨W10, hW10⟩ : ∃ W, W9 = W := ⟨_, rfl⟩
    subst hW10
    have hB8d : Below W8.heap.size W8 W9.drew := below_drew hB9
    have hb10 : Below w.heap.size w W9.drew := hb8.trans (hB8d.mono hb8.size)
    have hg10 := hB8d
    have hHeld : (fun X => X.cell? ⟨w.heap.size, 0, none⟩ = some (.slice A0_0 l0_0.length c0_0) ∧ X.cell? ⟨w.heap.size, 1, none⟩ = some (.slice A0_1 l0_1.length c0_1) ∧ X.cell? ⟨w.heap.size, 2, none⟩ = some (.slice A0_2 l0_2.length c0_2) ∧ X.cell? ⟨gb, 0, none⟩ = some (.slice A0_0 l0_0.length c0_0) ∧ X.cell? ⟨gb, 1, none⟩ = some (.slice A0_1 l0_1.length c0_1) ∧ X.cell? ⟨gb, 2, none⟩ = some (.slice A7 (l0_2.length + 1) c7)) W9.drew := ⟨pw_cell_below hB8d x80, pw_cell_below hB8d x81, pw_cell_below hB8d x82, pw_cell_below hB8d y80, pw_cell_below hB8d y81, pw_cell_below hB8d y82⟩
    have keep7 : ∀ X Y : World, Below X.heap.size X Y → (fun X => X.cell? ⟨w.heap.size, 0, none⟩ = some (.slice A0_0 l0_0.length c0_0) ∧ X.cell? ⟨w.heap.size, 1, none⟩ = some (.slice A0_1 l0_1.length c0_1) ∧ X.cell? ⟨w.heap.size, 2, none⟩ = some (.slice A0_2 l0_2.length c0_2) ∧ X.cell? ⟨gb, 0, none⟩ = some (.slice A0_0 l0_0.length c0_0) ∧ X.cell? ⟨gb, 1, none⟩ = some (.slice A0_1 l0_1.length c0_1) ∧ X.cell? ⟨gb, 2, none⟩ = some (.slice A7 (l0_2.length + 1) c7)) X → (fun X => X.cell? ⟨w.heap.size, 0, none⟩ = some (.slice A0_0 l0_0.length c0_0) ∧ X.cell? ⟨w.heap.size, 1, none⟩ = some (.slice A0_1 l0_1.length c0_1) ∧ X.cell? ⟨w.heap.size, 2, none⟩ = some (.slice A0_2 l0_2.length c0_2) ∧ X.cell? ⟨gb, 0, none⟩ = some (.slice A0_0 l0_0.length c0_0) ∧ X.cell? ⟨gb, 1, none⟩ = some (.slice A0_1 l0_1.length c0_1) ∧ X.cell? ⟨gb, 2, none⟩ = some (.slice A7 (l0_2.length + 1) c7)) Y := fun X Y h hh => ⟨pw_cell_below h hh.1, pw_cell_below h hh.2.1, pw_cell_below h hh.2.2.1, pw_cell_below h hh.2.2.2.1, pw_cell_below h hh.2.2.2.2.1, pw_cell_below h hh.2.2.2.2.2⟩
    refine Ahd.wp_qz (start_ (S := (fun X => X.cell? ⟨w.heap.size, 0, none⟩ = some (.slice A0_0 l0_0.length c0_0) ∧ X.cell? ⟨w.heap.size, 1, none⟩ = some (.slice A0_1 l0_1.length c0_1) ∧ X.cell? ⟨w.heap.size, 2, none⟩ = some (.slice A0_2 l0_2.length c0_2) ∧ X.cell? ⟨gb, 0, none⟩ = some (.slice A0_0 l0_0.length c0_0) ∧ X.cell? ⟨gb, 1, none⟩ = some (.slice A0_1 l0_1.length c0_1) ∧ X.cell? ⟨gb, 2, none⟩ = some (.slice A7 (l0_2.length + 1) c7))) (ds := []) #[false, false, false, false, false, false, false, false, false, false, false, false, false, false, false, false] (by kernel_rfl) rfl rfl hHeld (fun h0_ => ?_))
    clear h0_
    refine take_ (i := 0) (N := (some 29)) (v := ?_) (a' := ?_) #[true, false, false, false, false, false, false, false, false, false, false, false, false, false, false, false] rfl rfl (by kernel_rfl) (fun _ _ _ h => h) (Or.inl ⟨by rfl, ?_⟩) hHeld ?_ ?_
    rotate_left
    · rintro w' ⟨s0, s1, s2, s3, s4, s5⟩
      go_simp
      with_reducible rfl
    rotate_left
    · simp only [Act.put, List.setIfInBounds_toArray, List.set_cons_zero, List.set_cons_succ]
      rfl
    refine take_ (i := 2) (N := (some 31)) (v := ?_) (a' := ?_) #[true, false, true, false, false, false, false, false, false, false, false, false, false, false, false, false] rfl rfl (by kernel_rfl) (fun _ _ _ h => h) (Or.inl ⟨by rfl, ?_⟩) hHeld ?_ ?_
    rotate_left
    · rintro w' ⟨s0, s1, s2, s3, s4, s5⟩
      go_simp
      with_reducible rfl
    rotate_left
    · simp only [Act.put, List.setIfInBounds_toArray, List.set_cons_zero, List.set_cons_succ]
      rfl
    refine one_ (i := 1) (N := (some 30)) #[true, true, true, false, false, false, false, false, false, false, false, false, false, false, false, false] rfl rfl (by kernel_rfl) (by decide) (fun K hK => ?_)
    refine goes_ Try.func12 (by kernel_rfl) rfl #[.agg #[.slice A0_0 l0_0.length c0_0, .slice A0_1 l0_1.length c0_1, .slice A0_2 l0_2.length c0_2]] (by rfl) rfl rfl (by first | rfl | (simp [Act.eval]; done) | (simp [go_sem]; done)) ?_
    refine (hx1 W9.drew hb10).mono ?_
    rintro e W11 ⟨v11, rfl, hR11, hB11⟩
    obtain ⟨B11, d11, rfl, hl11, hC11⟩ := Kd.R_reads hR11
    have hb11 := hb10.trans (hB11.mono hb10.size)
    have hg11 := hg10.trans (hB11.mono hg10.size)
    refine ⟨_, rfl, ?_⟩
    have hh11 := keep7 _ _ hB11 hHeld
    refine hK.out _ _ hh11 (fun h0_ => ?_)
    clear hK K h0_
    refine one_ (i := 3) (N := (some 32)) #[true, true, true, true, false, false, false, false, false, false, false, false, false, false, false, false] rfl rfl (by kernel_rfl) (by decide) (fun K hK => ?_)
    refine goes_ Try.func12 (by kernel_rfl) rfl #[.agg #[.slice A0_0 l0_0.length c0_0, .slice A0_1 l0_1.length c0_1, .slice A7 (l0_2.length + 1) c7]] (by rfl) rfl rfl (by first | rfl | (simp [Act.eval]; done) | (simp [go_sem]; done)) ?_
    refine (hx2 W11 hg11).mono ?_
    rintro e W12 ⟨v12, rfl, hR12, hB12⟩
    obtain ⟨B12, d12, rfl, hl12, hC12⟩ := Kd.R_reads hR12
    have hb12 := hb11.trans (hB12.mono hb11.size)
    have hg12 := hg11.trans (hB12.mono hg11.size)
    refine ⟨_, rfl, ?_⟩
    have hh12 := keep7 _ _ hB12 hh11
    refine hK.out _ _ hh12 (fun h0_ => ?_)
    clear hK K h0_
    refine one_ (i := 4) (N := (some 33)) #[true, true, true, true, true, false, false, false, false, false, false, false, false, false, false, false] rfl rfl (by kernel_rfl) (by decide) (fun K hK => ?_)
    refine goes_ Try.func14 (by kernel_rfl) rfl #[.slice B11 F1.length d11, .slice B12 F2.length d12] (by rfl) rfl rfl (by first | rfl | (simp [Act.eval]; done) | (simp [go_sem]; done)) ?_
    refine (bramblelaw10_within.calls k B11 d11 F1 B12 d12 F2 true W12 (Kd.C_below hC11 hB12) hl11 hC12 hl12 hw1).mono ?_
    rintro e W13 ⟨rfl, hB13⟩
    have hb13 := hb12.trans (hB13.mono hb12.size)
    have hg13 := hg12.trans (hB13.mono hg12.size)
    refine ⟨_, rfl, ?_⟩
    have hh13 := keep7 _ _ hB13 hh12
    refine hK.out _ _ hh13 (fun h0_ => ?_)
    clear hK K h0_
    refine pure_ (i := 5) (N := (some 34)) (v := ?_) (a' := ?_) #[true, true, true, true, true, true, false, false, false, false, false, false, false, false, false, false] rfl rfl (by kernel_rfl) (fun _ _ _ h => h) (Or.inl ⟨by rfl, ?_⟩) ?_ ?_
    rotate_left
    · intro w'
      go_simp
      with_reducible rfl
    rotate_left
    · simp only [Act.put, List.setIfInBounds_toArray, List.set_cons_zero, List.set_cons_succ]
      rfl
    refine take_ (i := 6) (N := (some 35)) (v := ?_) (a' := ?_) #[true, true, true, true, true, true, true, false, false, false, false, false, false, false, false, false] rfl rfl (by kernel_rfl) (fun _ _ _ h => h) (Or.inl ⟨by rfl, ?_⟩) hh13 ?_ ?_
    rotate_left
    · rintro w' ⟨s0, s1, s2, s3, s4, s5⟩
      go_simp
      with_reducible rfl
    rotate_left
    · simp only [Act.put, List.setIfInBounds_toArray, List.set_cons_zero, List.set_cons_succ]
      rfl
    refine take_ (i := 8) (N := (some 37)) (v := ?_) (a' := ?_) #[true, true, true, true, true, true, true, false, true, false, false, false, false, false, false, false] rfl rfl (by kernel_rfl) (fun _ _ _ h => h) (Or.inl ⟨by rfl, ?_⟩) hh13 ?_ ?_
    rotate_left
    · rintro w' ⟨s0, s1, s2, s3, s4, s5⟩
      go_simp
      with_reducible rfl
    rotate_left
    · simp only [Act.put, List.setIfInBounds_toArray, List.set_cons_zero, List.set_cons_succ]
      rfl
    refine one_ (i := 7) (N := (some 36)) #[true, true, true, true, true, true, true, true, true, false, false, false, false, false, false, false] rfl rfl (by kernel_rfl) (by decide) (fun K hK => ?_)
    refine goes_ Try.func15 (by kernel_rfl) rfl #[.agg #[.slice A0_0 l0_0.length c0_0, .slice A0_1 l0_1.length c0_1, .slice A0_2 l0_2.length c0_2]] (by rfl) rfl rfl (by first | rfl | (simp [Act.eval]; done) | (simp [go_sem]; done)) ?_
    refine (hx3 W13 hb13).mono ?_
    rintro e W14 ⟨v14, rfl, hR14, hB14⟩
    obtain ⟨B14, d14, rfl, hl14, hC14⟩ := Kd.R_reads hR14
    have hb14 := hb13.trans (hB14.mono hb13.size)
    have hg14 := hg13.trans (hB14.mono hg13.size)
    refine ⟨_, rfl, ?_⟩
    have hh14 := keep7 _ _ hB14 hh13
    refine hK.out _ _ hh14 (fun h0_ => ?_)
    clear hK K h0_
    refine one_ (i := 9) (N := (some 38)) #[true, true, true, true, true, true, true, true, true, true, false, false, false, false, false, false] rfl rfl (by kernel_rfl) (by decide) (fun K hK => ?_)
    refine goes_ Try.func15 (by kernel_rfl) rfl #[.agg #[.slice A0_0 l0_0.length c0_0, .slice A0_1 l0_1.length c0_1, .slice A7 (l0_2.length + 1) c7]] (by rfl) rfl rfl (by first | rfl | (simp [Act.eval]; done) | (simp [go_sem]; done)) ?_
    refine (hx4 W14 hg14).mono ?_
    rintro e W15 ⟨v15, rfl, hR15, hB15⟩
    obtain ⟨B15, d15, rfl, hl15, hC15⟩ := Kd.R_reads hR15
    have hb15 := hb14.trans (hB15.mono hb14.size)
    have hg15 := hg14.trans (hB15.mono hg14.size)
    refine ⟨_, rfl, ?_⟩
    have hh15 := keep7 _ _ hB15 hh14
    refine hK.out _ _ hh15 (fun h0_ => ?_)
    clear hK K h0_
    refine one_ (i := 10) (N := (some 39)) #[true, true, true, true, true, true, true, true, true, true, true, false, false, false, false, false] rfl rfl (by kernel_rfl) (by decide) (fun K hK => ?_)
    refine goes_ Try.func14 (by kernel_rfl) rfl #[.slice B14 L1.length d14, .slice B15 L2.length d15] (by rfl) rfl rfl (by first | rfl | (simp [Act.eval]; done) | (simp [go_sem]; done)) ?_
    refine (bramblelaw10_within.calls k B14 d14 L1 B15 d15 L2 true W15 (Kd.C_below hC14 hB15) hl14 hC15 hl15 hw2).mono ?_
    rintro e W16 ⟨rfl, hB16⟩
    have hb16 := hb15.trans (hB16.mono hb15.size)
    have hg16 := hg15.trans (hB16.mono hg15.size)
    refine ⟨_, rfl, ?_⟩
    have hh16 := keep7 _ _ hB16 hh15
    refine hK.out _ _ hh16 (fun h0_ => ?_)
    clear hK K h0_
    refine pure_ (i := 11) (N := (some 40)) (v := ?_) (a' := ?_) #[true, true, true, true, true, true, true, true, true, true, true, true, false, false, false, false] rfl rfl (by kernel_rfl) (fun _ _ _ h => h) (Or.inl ⟨by rfl, ?_⟩) ?_ ?_
    rotate_left
    · intro w'
      go_simp
      with_reducible rfl
    rotate_left
    · simp only [Act.put, List.setIfInBounds_toArray, List.set_cons_zero, List.set_cons_succ]
      rfl
    refine pure_ (i := 12) (N := (some 41)) (v := ?_) (a' := ?_) #[true, true, true, true, true, true, true, true, true, true, true, true, true, false, false, false] rfl rfl (by kernel_rfl) (fun _ _ _ h => h) (Or.inl ⟨by rfl, ?_⟩) ?_ ?_
    rotate_left
    · intro w'
      go_simp
      with_reducible rfl
    rotate_left
    · simp only [Act.put, List.setIfInBounds_toArray, List.set_cons_zero, List.set_cons_succ]
      rfl
    refine one_ (i := 13) (N := (some 42)) #[true, true, true, true, true, true, true, true, true, true, true, true, true, true, false, false] rfl rfl (by kernel_rfl) (by decide) (fun K hK => ?_)
    refine goes_ Try.func8 (by kernel_rfl) rfl #[] (by rfl) rfl rfl (by first | rfl | (simp [Act.eval]; done) | (simp [go_sem]; done)) ?_
    refine (bramblelaw10_awake.calls r W16 h).mono ?_
    rintro e W17 ⟨rfl, hB17⟩
    have hb17 := hb16.trans (hB17.mono hb16.size)
    refine ⟨_, rfl, ?_⟩
    have hh17 := keep7 _ _ hB17 hh16
    refine hK.out _ _ hh17 (fun h0_ => ?_)
    clear hK K h0_
    refine pure_ (i := 14) (N := (some 43)) (v := ?_) (a' := ?_) #[true, true, true, true, true, true, true, true, true, true, true, true, true, true, true, false] rfl rfl (by kernel_rfl) (fun _ _ _ h => h) (Or.inl ⟨by rfl, ?_⟩) ?_ ?_
    rotate_left
    · intro w'
      go_simp
      with_reducible rfl
    rotate_left
    · simp only [Act.put, List.setIfInBounds_toArray, List.set_cons_zero, List.set_cons_succ]
      rfl
    refine pure_ (i := 15) (N := (some 4)) (v := ?_) (a' := ?_) #[true, true, true, true, true, true, true, true, true, true, true, true, true, true, true, true] rfl rfl (by kernel_rfl) (fun _ _ _ h => h) (Or.inl ⟨by rfl, ?_⟩) ?_ ?_
    rotate_left
    · intro w'
      go_simp
      with_reducible rfl
    rotate_left
    · simp only [Act.put, List.setIfInBounds_toArray, List.set_cons_zero, List.set_cons_succ]
      rfl
    refine done_ (by kernel_rfl) ?_
    refine hK7 _ _ ?_
    go_wp2
    go_ret
    exact ⟨rfl, hb17⟩

end Go.Proofs.Ytkfpmolplemdlaa.PSetsGrow
