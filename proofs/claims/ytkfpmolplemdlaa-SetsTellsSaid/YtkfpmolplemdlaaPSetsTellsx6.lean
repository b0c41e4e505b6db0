/- Laid by this work's own program gp.py, in the form of the kit's print, with some functions told by hand. -/
import Derived.Test.YtkfpmolplemdlaaPSetsTellsx0
import Derived.Test.YtkfpmolplemdlaaPSetsTellsx3
import Derived.Test.YtkfpmolplemdlaaPSetsTellsx4
import Derived.Test.YtkfpmolplemdlaaPSetsTellsx5
namespace Go.Proofs.Ytkfpmolplemdlaa.PSetsTells
open Go.RowKit Go.Proofs.YtkfpmolplemdlaaW.PrintWords Go.Proofs.YtkfpmolplemdlaaW.PrintLast Go.Proofs.YtkfpmolplemdlaaW.PrintMore
attribute [local go_sem] max2_int min2_int max_two min_two max_three min_three max_four min_four   -- for this text's walks alone
set_option linter.unusedVariables false
set_option linter.unusedSimpArgs false

/-! ### sets_Ahead: function 23, told by hand -/
theorem exVals : ∀ l : List Int, (∀ x ∈ l, (Lit.int .i64 x).wf = true) → ∃ xs : List Seqs.I64, Seqs.vals xs = l
  | [], _ => ⟨[], rfl⟩
  | x :: t, h => by
    obtain ⟨xs, e⟩ := exVals t (fun y hy => h y (by simp [hy]))
    exact ⟨⟨x, h x (by simp)⟩ :: xs, by simp only [Seqs.vals, List.map_cons]; rw [← e]; rfl⟩
theorem rowI_of {w : World} {A : Option Addr} {n : Nat} {xs : List Seqs.I64} (h : Kd.C (Kd.int .i64) w A n (Seqs.vals xs)) : Seqs.RowI w A xs := by
  intro hne
  obtain ⟨h1, h2, h3⟩ := h
  obtain ⟨ad, e, hc⟩ := h3 (by
    cases xs with
    | nil => exact absurd rfl hne
    | cons x t => simp [Seqs.vals] at h1; omega)
  refine ⟨ad, e, fun j x hx => ?_⟩
  obtain ⟨c, _, rfl, hcell⟩ := hc j x.1 (by unfold Seqs.vals; rw [List.getElem?_map, hx]; rfl)
  have := hcell 0 _ rfl
  rwa [show j * (Kd.int .i64).sz + 0 = j from Nat.mul_one j] at this
def ahOk (l : List Fl.I) (b : List Int) : Bool := decide (l.length ≤ 1000) && decide (b.length ≤ 1000) && b.all fun x => (Lit.int .i64 x).wf
theorem ahOk_of {l : List Fl.I} {b : List Int} (h : ahOk l b = true) : l.length ≤ 1000 ∧ b.length ≤ 1000 ∧ ∀ x ∈ b, (Lit.int .i64 x).wf = true := by
  simp only [ahOk, Bool.and_eq_true, decide_eq_true_eq, List.all_eq_true] at h
  exact ⟨h.1.1, h.1.2, h.2⟩
def sets_Ahead.f (k : Nat) (l0_0 l0_1 : List ByteArray) (l0_2 : List S40) (l1 : List S48) (l2 : List Int) : Option (List Int) :=
  if flOk (l0_0.length + l0_1.length) l0_1.length (l0_2.map prE) = true ∧ ahOk (l1.map itE) l2 = true then (Grow.growV Deri.stepD (l0_2.map prE) k (List.replicate (l0_0.length + l0_1.length) false)).bind fun em => (Grow.growV (Begin.stepF (l0_0.length + l0_1.length) em) (l0_2.map prE) k (Begun.initV (l0_0.length + l0_1.length) l0_0.length)).bind fun Ss => some (Begin.ahV (l0_0.length + l0_1.length) em Ss (l1.map itE) (MSet.unionV [] l2)) else none
theorem sets_Ahead.mono : ∀ a0 a1 a2 a3 a4 k, LeO (sets_Ahead.f k a0 a1 a2 a3 a4) (sets_Ahead.f (k + 1) a0 a1 a2 a3 a4) := fun _ _ _ _ _ _ => LeO.ite (LeO.bind (growMono _ _ _ _) (fun _ => LeO.bind (growMono _ _ _ _) (fun _ => LeO.refl _))) (LeO.none _)
theorem sets_Ahead.calls (k : Nat) (A0_0 : Option Addr) (c0_0 : Nat) (l0_0 : List ByteArray) (A0_1 : Option Addr) (c0_1 : Nat) (l0_1 : List ByteArray) (A0_2 : Option Addr) (c0_2 : Nat) (l0_2 : List S40) (A1 : Option Addr) (c1 : Nat) (l1 : List S48) (A2 : Option Addr) (c2 : Nat) (l2 : List Int) (r : List Int) (w : World) (hr0_0 : Kd.C Kd.string w A0_0 l0_0.length l0_0) (hc0_0 : l0_0.length ≤ c0_0) (hr0_1 : Kd.C Kd.string w A0_1 l0_1.length l0_1) (hc0_1 : l0_1.length ≤ c0_1) (hr0_2 : Kd.C k40 w A0_2 l0_2.length l0_2) (hc0_2 : l0_2.length ≤ c0_2) (hr1 : Kd.C k48 w A1 l1.length l1) (hc1 : l1.length ≤ c1) (hr2 : Kd.C (Kd.int .i64) w A2 l2.length l2) (hc2 : l2.length ≤ c2) (h : sets_Ahead.f k l0_0 l0_1 l0_2 l1 l2 = some r) :
    Calls Try.prog 23 #[.agg #[.slice A0_0 l0_0.length c0_0, .slice A0_1 l0_1.length c0_1, .slice A0_2 l0_2.length c0_2], .slice A1 l1.length c1, .slice A2 l2.length c2] w fun e w' => ∃ v0_ : Value, e = .returned v0_ ∧ Kd.R (Kd.int .i64) 3 w' w.heap.size (fun _ => True) v0_ r ∧ Below w.heap.size w w' := by
  unfold sets_Ahead.f at h
  split at h
  case isFalse => cases h
  rename_i hok
  obtain ⟨em, he, h⟩ := Option.bind_eq_some_iff.mp h
  obtain ⟨Ss, hs, h⟩ := Option.bind_eq_some_iff.mp h
  obtain rfl := Option.some.inj h
  obtain ⟨q1, q2, q3⟩ := ahOk_of hok.2
  obtain ⟨xs, rfl⟩ := exVals l2 q3
  have hxl : (Seqs.vals xs).length = xs.length := by simp [Seqs.vals]
  have hl : (l0_2.map prE).length = l0_2.length := by simp
  have hl1 : (l1.map itE).length = l1.length := by simp
  have hc := Aheads.aheads_calls w A0_0 A0_1 A0_2 l0_0.length l0_1.length c0_0 c0_1 c0_2 _ rfl (by have := (flOk_N hok.1).2; omega) (l0_2.map prE) (by rw [hl]; exact C_kP hr0_2) (by have := (flOk_N hok.1).1; omega) (flOk_ps hok.1) k em he k Ss hs A1 c1 (l1.map itE) (by rw [hl1]; exact C_kI hr1) q1 A2 c2 xs (by rw [← hxl]; exact q2) (rowI_of hr2)
  rw [hl, hl1] at hc
  rw [hxl]
  exact hc

/-! ### brambleref10_Ahead: function 24, told by hand -/
def brambleref10_Ahead.f (k : Nat) (l0_0 l0_1 : List ByteArray) (l0_2 : List S40) (l1 : List S48) (l2 : List Int) : Option (List Int) :=
  if flOk (l0_0.length + l0_1.length) l0_1.length (l0_2.map prE) = true ∧ ahOk (l1.map itE) l2 = true then (brambleref10_Empty.f k l0_0 l0_1 l0_2).bind fun em => if em.length = l0_0.length + l0_1.length then (Grow.growV (Begin.stepF (l0_0.length + l0_1.length) em) (l0_2.map prE) k (Begun.initV (l0_0.length + l0_1.length) l0_0.length)).bind fun Ss => some (Begin.ahV (l0_0.length + l0_1.length) em Ss (l1.map itE) (MSet.unionV [] l2)) else none else none
theorem brambleref10_Ahead.mono : ∀ a0 a1 a2 a3 a4 k, LeO (brambleref10_Ahead.f k a0 a1 a2 a3 a4) (brambleref10_Ahead.f (k + 1) a0 a1 a2 a3 a4) := fun _ _ _ _ _ _ => LeO.ite (LeO.bind (brambleref10_Empty.mono _ _ _ _) (fun _ => LeO.ite (LeO.bind (growMono _ _ _ _) (fun _ => LeO.refl _)) (LeO.none _))) (LeO.none _)
theorem brambleref10_Ahead.calls (k : Nat) (A0_0 : Option Addr) (c0_0 : Nat) (l0_0 : List ByteArray) (A0_1 : Option Addr) (c0_1 : Nat) (l0_1 : List ByteArray) (A0_2 : Option Addr) (c0_2 : Nat) (l0_2 : List S40) (A1 : Option Addr) (c1 : Nat) (l1 : List S48) (A2 : Option Addr) (c2 : Nat) (l2 : List Int) (r : List Int) (w : World) (hr0_0 : Kd.C Kd.string w A0_0 l0_0.length l0_0) (hc0_0 : l0_0.length ≤ c0_0) (hr0_1 : Kd.C Kd.string w A0_1 l0_1.length l0_1) (hc0_1 : l0_1.length ≤ c0_1) (hr0_2 : Kd.C k40 w A0_2 l0_2.length l0_2) (hc0_2 : l0_2.length ≤ c0_2) (hr1 : Kd.C k48 w A1 l1.length l1) (hc1 : l1.length ≤ c1) (hr2 : Kd.C (Kd.int .i64) w A2 l2.length l2) (hc2 : l2.length ≤ c2) (h : brambleref10_Ahead.f k l0_0 l0_1 l0_2 l1 l2 = some r) :
    Calls Try.prog 24 #[.agg #[.slice A0_0 l0_0.length c0_0, .slice A0_1 l0_1.length c0_1, .slice A0_2 l0_2.length c0_2], .slice A1 l1.length c1, .slice A2 l2.length c2] w fun e w' => ∃ v0_ : Value, e = .returned v0_ ∧ Kd.R (Kd.int .i64) 3 w' w.heap.size (fun _ => True) v0_ r ∧ Below w.heap.size w w' := by
  unfold brambleref10_Ahead.f at h
  split at h
  case isFalse => cases h
  rename_i hok
  obtain ⟨em, he, h⟩ := Option.bind_eq_some_iff.mp h
  split at h
  case isFalse => cases h
  rename_i hel
  obtain ⟨Ss, hs, h⟩ := Option.bind_eq_some_iff.mp h
  obtain rfl := Option.some.inj h
  obtain ⟨q1, q2, q3⟩ := ahOk_of hok.2
  have hl : (l0_2.map prE).length = l0_2.length := by simp
  have hl1 : (l1.map itE).length = l1.length := by simp
  have hN : l0_0.length + l0_1.length ≤ 1000000 := by have := (flOk_N hok.1).1; omega
  have hc := RAhead.raheads_calls w A0_0 A0_1 A0_2 l0_0.length l0_1.length c0_0 c0_1 c0_2 _ rfl (l0_2.map prE) (by rw [hl]; exact C_kP hr0_2) hN (flOk_ps hok.1) em hel (fun W hb => by rw [hl]; exact brambleref10_Empty.calls k A0_0 c0_0 l0_0 A0_1 c0_1 l0_1 A0_2 c0_2 l0_2 em W (Kd.C_below hr0_0 hb) hc0_0 (Kd.C_below hr0_1 hb) hc0_1 (Kd.C_below hr0_2 hb) hc0_2 he) k Ss hs A1 c1 (l1.map itE) (by rw [hl1]; exact C_kI hr1) A2 c2 l2 hr2 (by omega)
  rw [hl, hl1] at hc
  have hI := RAhead.inv_grow k _ _ (RRow.Inv.init hN) hs
  rw [RAhead.ahR_eq _ hI.r] at hc
  exact hc

/-! ### bramblelaw10_SetsTells: function 5, told by hand -/
def bramblelaw10_SetsTells.f (k : Nat) (l0_0 l0_1 : List ByteArray) (l0_2 : List S40) (l1 : List S48) (l2 : List Int) : Option Bool :=
  (bramblelaw10_few.f k l0_0 l0_1 l0_2).bind fun c =>
    if c = true ∧ l1.length ≤ 100 ∧ l2.length ≤ 100 then
      (sets_Empty.f k l0_0 l0_1 l0_2).bind fun e1 => (brambleref10_Empty.f k l0_0 l0_1 l0_2).bind fun e2 => (brambleref10_Bools.f k e1 e2).bind fun te => if te = true then
      (sets_Useful.f k l0_0 l0_1 l0_2).bind fun u1 => (brambleref10_Useful.f k l0_0 l0_1 l0_2).bind fun u2 => (brambleref10_Bools.f k u1 u2).bind fun tu => if tu = true then
      (sets_First.f k l0_0 l0_1 l0_2).bind fun f1 => (brambleref10_First.f k l0_0 l0_1 l0_2).bind fun f2 => (brambleref10_Rows.f k f1 f2).bind fun tf => if tf = true then
      (sets_Follow.f k l0_0 l0_1 l0_2).bind fun y1 => (brambleref10_Follow.f k l0_0 l0_1 l0_2).bind fun y2 => (brambleref10_Rows.f k y1 y2).bind fun ty => if ty = true then
      (sets_Ahead.f k l0_0 l0_1 l0_2 l1 l2).bind fun a1 => (brambleref10_Ahead.f k l0_0 l0_1 l0_2 l1 l2).bind fun a2 => (brambleref10_Ints.f k a1 a2).bind fun ta => if ta = true then
      bramblelaw10_awake.f else none else none else none else none else none
    else bramblelaw10_awake.f
set_option maxHeartbeats 8000000 in
set_option maxRecDepth 100000 in
theorem bramblelaw10_SetsTells.calls (k : Nat) (A0_0 : Option Addr) (c0_0 : Nat) (l0_0 : List ByteArray) (A0_1 : Option Addr) (c0_1 : Nat) (l0_1 : List ByteArray) (A0_2 : Option Addr) (c0_2 : Nat) (l0_2 : List S40) (A1 : Option Addr) (c1 : Nat) (l1 : List S48) (A2 : Option Addr) (c2 : Nat) (l2 : List Int) (r : Bool) (w : World) (hr0_0 : Kd.C Kd.string w A0_0 l0_0.length l0_0) (hc0_0 : l0_0.length ≤ c0_0) (hr0_1 : Kd.C Kd.string w A0_1 l0_1.length l0_1) (hc0_1 : l0_1.length ≤ c0_1) (hr0_2 : Kd.C k40 w A0_2 l0_2.length l0_2) (hc0_2 : l0_2.length ≤ c0_2) (hr1 : Kd.C k48 w A1 l1.length l1) (hc1 : l1.length ≤ c1) (hr2 : Kd.C (Kd.int .i64) w A2 l2.length l2) (hc2 : l2.length ≤ c2) (h : bramblelaw10_SetsTells.f k l0_0 l0_1 l0_2 l1 l2 = some r) :
    Calls Try.prog 5 #[.agg #[.slice A0_0 l0_0.length c0_0, .slice A0_1 l0_1.length c0_1, .slice A0_2 l0_2.length c0_2], .slice A1 l1.length c1, .slice A2 l2.length c2] w fun e w' => e = .returned (.bool r) ∧ Below w.heap.size w w' := by
  unfold bramblelaw10_SetsTells.f at h
  obtain ⟨c, hc, h⟩ := Option.bind_eq_some_iff.mp h
  obtain ⟨W1, hW1⟩ : ∃ W1, w.alloc (.cells #[.slice A0_0 l0_0.length c0_0, .slice A0_1 l0_1.length c0_1, .slice A0_2 l0_2.length c0_2] 25) = W1 := ⟨_, rfl⟩
  have hb1 : Below w.heap.size w W1 := by rw [← hW1]; exact (Below.refl _ _).alloc (Nat.le_refl _) _
  have f1 : W1.heap[w.heap.size]? = some (.cells #[.slice A0_0 l0_0.length c0_0, .slice A0_1 l0_1.length c0_1, .slice A0_2 l0_2.length c0_2] 25 (0, 0)) := by rw [← hW1]; exact blk_new w _
  have z0 : W1.cell? ⟨w.heap.size, 0, none⟩ = some (.slice A0_0 l0_0.length c0_0) := blk_cell f1 0
  have z1 : W1.cell? ⟨w.heap.size, 1, none⟩ = some (.slice A0_1 l0_1.length c0_1) := blk_cell f1 1
  have z2 : W1.cell? ⟨w.heap.size, 2, none⟩ = some (.slice A0_2 l0_2.length c0_2) := blk_cell f1 2
  have hfew := bramblelaw10_few.calls k A0_0 c0_0 l0_0 A0_1 c0_1 l0_1 A0_2 c0_2 l0_2 c W1 (Kd.C_below hr0_0 hb1) hc0_0 (Kd.C_below hr0_1 hb1) hc0_1 (Kd.C_below hr0_2 hb1) hc0_2 hc
  have F1 := Lib.hid f1
  clear f1 hc
  by_cases hg : c = true ∧ l1.length ≤ 100 ∧ l2.length ≤ 100
  rotate_left
  · rw [if_neg hg] at h
    have haw := fun W => bramblelaw10_awake.calls r W h
    clear h hr0_0 hr0_1 hr0_2 hr1 hr2
    cases c with
    | false =>
      clear hg
      go_enter Try.func5, Try.ntmps5
      go_wp2_with (first | (go_at_call 7; refine hfew.mono ?_; rintro e W2 ⟨rfl, hB2⟩) | (go_at_call 8; refine (haw _).mono ?_; rintro e W3 ⟨rfl, hB3⟩))
      go_ret
      exact ⟨rfl, (hb1.trans (hB2.mono hb1.size)).trans (hB3.mono (hb1.trans (hB2.mono hb1.size)).size)⟩
    | true =>
      by_cases h1 : l1.length ≤ 100
      · have h2 : 100 < l2.length := by
          apply Decidable.byContradiction
          intro hh
          exact hg ⟨rfl, h1, by omega⟩
        clear hg
        go_enter Try.func5, Try.ntmps5
        go_wp2_with (first | (go_at_call 7; refine hfew.mono ?_; rintro e W2 ⟨rfl, hB2⟩) | (go_at_call 8; refine (haw _).mono ?_; rintro e W3 ⟨rfl, hB3⟩))
        go_ret
        exact ⟨rfl, (hb1.trans (hB2.mono hb1.size)).trans (hB3.mono (hb1.trans (hB2.mono hb1.size)).size)⟩
      · clear hg
        go_enter Try.func5, Try.ntmps5
        go_wp2_with (first | (go_at_call 7; refine hfew.mono ?_; rintro e W2 ⟨rfl, hB2⟩) | (go_at_call 8; refine (haw _).mono ?_; rintro e W3 ⟨rfl, hB3⟩))
        go_ret
        exact ⟨rfl, (hb1.trans (hB2.mono hb1.size)).trans (hB3.mono (hb1.trans (hB2.mono hb1.size)).size)⟩
  rw [if_pos hg] at h
  obtain ⟨rfl, hg1, hg2⟩ := hg
  obtain ⟨e1, qe1, h⟩ := Option.bind_eq_some_iff.mp h
  obtain ⟨e2, qe2, h⟩ := Option.bind_eq_some_iff.mp h
  obtain ⟨te, he3, h⟩ := Option.bind_eq_some_iff.mp h
  by_cases ce : te = true
  rotate_left
  · rw [if_neg ce] at h; cases h
  rw [if_pos ce] at h
  subst ce
  obtain ⟨u1, qu1, h⟩ := Option.bind_eq_some_iff.mp h
  obtain ⟨u2, qu2, h⟩ := Option.bind_eq_some_iff.mp h
  obtain ⟨tu, hu3, h⟩ := Option.bind_eq_some_iff.mp h
  by_cases cu : tu = true
  rotate_left
  · rw [if_neg cu] at h; cases h
  rw [if_pos cu] at h
  subst cu
  obtain ⟨f1, qf1, h⟩ := Option.bind_eq_some_iff.mp h
  obtain ⟨f2, qf2, h⟩ := Option.bind_eq_some_iff.mp h
  obtain ⟨tf, hf3, h⟩ := Option.bind_eq_some_iff.mp h
  by_cases cf : tf = true
  rotate_left
  · rw [if_neg cf] at h; cases h
  rw [if_pos cf] at h
  subst cf
  obtain ⟨y1, qy1, h⟩ := Option.bind_eq_some_iff.mp h
  obtain ⟨y2, qy2, h⟩ := Option.bind_eq_some_iff.mp h
  obtain ⟨ty, hy3, h⟩ := Option.bind_eq_some_iff.mp h
  by_cases cy : ty = true
  rotate_left
  · rw [if_neg cy] at h; cases h
  rw [if_pos cy] at h
  subst cy
  obtain ⟨a1, qa1, h⟩ := Option.bind_eq_some_iff.mp h
  obtain ⟨a2, qa2, h⟩ := Option.bind_eq_some_iff.mp h
  obtain ⟨ta, ha3, h⟩ := Option.bind_eq_some_iff.mp h
  by_cases ca : ta = true
  rotate_left
  · rw [if_neg ca] at h; cases h
  rw [if_pos ca] at h
  subst ca
  have he1 := fun W (h : Below w.heap.size w W) => sets_Empty.calls k A0_0 c0_0 l0_0 A0_1 c0_1 l0_1 A0_2 c0_2 l0_2 e1 W (Kd.C_below hr0_0 h) hc0_0 (Kd.C_below hr0_1 h) hc0_1 (Kd.C_below hr0_2 h) hc0_2 qe1
  have he2 := fun W (h : Below w.heap.size w W) => brambleref10_Empty.calls k A0_0 c0_0 l0_0 A0_1 c0_1 l0_1 A0_2 c0_2 l0_2 e2 W (Kd.C_below hr0_0 h) hc0_0 (Kd.C_below hr0_1 h) hc0_1 (Kd.C_below hr0_2 h) hc0_2 qe2
  have hu1 := fun W (h : Below w.heap.size w W) => sets_Useful.calls k A0_0 c0_0 l0_0 A0_1 c0_1 l0_1 A0_2 c0_2 l0_2 u1 W (Kd.C_below hr0_0 h) hc0_0 (Kd.C_below hr0_1 h) hc0_1 (Kd.C_below hr0_2 h) hc0_2 qu1
  have hu2 := fun W (h : Below w.heap.size w W) => brambleref10_Useful.calls k A0_0 c0_0 l0_0 A0_1 c0_1 l0_1 A0_2 c0_2 l0_2 u2 W (Kd.C_below hr0_0 h) hc0_0 (Kd.C_below hr0_1 h) hc0_1 (Kd.C_below hr0_2 h) hc0_2 qu2
  have hf1 := fun W (h : Below w.heap.size w W) => sets_First.calls k A0_0 c0_0 l0_0 A0_1 c0_1 l0_1 A0_2 c0_2 l0_2 f1 W (Kd.C_below hr0_0 h) hc0_0 (Kd.C_below hr0_1 h) hc0_1 (Kd.C_below hr0_2 h) hc0_2 qf1
  have hf2 := fun W (h : Below w.heap.size w W) => brambleref10_First.calls k A0_0 c0_0 l0_0 A0_1 c0_1 l0_1 A0_2 c0_2 l0_2 f2 W (Kd.C_below hr0_0 h) hc0_0 (Kd.C_below hr0_1 h) hc0_1 (Kd.C_below hr0_2 h) hc0_2 qf2
  have hy1 := fun W (h : Below w.heap.size w W) => sets_Follow.calls k A0_0 c0_0 l0_0 A0_1 c0_1 l0_1 A0_2 c0_2 l0_2 y1 W (Kd.C_below hr0_0 h) hc0_0 (Kd.C_below hr0_1 h) hc0_1 (Kd.C_below hr0_2 h) hc0_2 qy1
  have hy2 := fun W (h : Below w.heap.size w W) => brambleref10_Follow.calls k A0_0 c0_0 l0_0 A0_1 c0_1 l0_1 A0_2 c0_2 l0_2 y2 W (Kd.C_below hr0_0 h) hc0_0 (Kd.C_below hr0_1 h) hc0_1 (Kd.C_below hr0_2 h) hc0_2 qy2
  have ha1 := fun W (h : Below w.heap.size w W) => sets_Ahead.calls k A0_0 c0_0 l0_0 A0_1 c0_1 l0_1 A0_2 c0_2 l0_2 A1 c1 l1 A2 c2 l2 a1 W (Kd.C_below hr0_0 h) hc0_0 (Kd.C_below hr0_1 h) hc0_1 (Kd.C_below hr0_2 h) hc0_2 (Kd.C_below hr1 h) hc1 (Kd.C_below hr2 h) hc2 qa1
  have ha2 := fun W (h : Below w.heap.size w W) => brambleref10_Ahead.calls k A0_0 c0_0 l0_0 A0_1 c0_1 l0_1 A0_2 c0_2 l0_2 A1 c1 l1 A2 c2 l2 a2 W (Kd.C_below hr0_0 h) hc0_0 (Kd.C_below hr0_1 h) hc0_1 (Kd.C_below hr0_2 h) hc0_2 (Kd.C_below hr1 h) hc1 (Kd.C_below hr2 h) hc2 qa2
  clear qe1 qe2 qu1 qu2 qf1 qf2 qy1 qy2 qa1 qa2
  have HH := Lib.hid h
  clear h
  have HE := Lib.hid (And.intro he3 (And.intro hu3 (And.intro hf3 (And.intro hy3 ha3))))
  clear he3 hu3 hf3 hy3 ha3
  go_enter Try.func5, Try.ntmps5
  go_wp2_with (go_at_call 7; refine hfew.mono ?_; rintro e W2 ⟨rfl, hB2⟩)
  rename_i K6 hK6
  have h := HH.out
  obtain ⟨he3, hu3, hf3, hy3, ha3⟩ := HE.out
  have hB2' : Below W1.heap.size W1 W2 := hB2
  have hb2 : Below w.heap.size w W2.drew := below_drew (hb1.trans (hB2'.mono hb1.size))
  have hHeld : (fun X => X.cell? ⟨w.heap.size, 0, none⟩ = some (.slice A0_0 l0_0.length c0_0) ∧ X.cell? ⟨w.heap.size, 1, none⟩ = some (.slice A0_1 l0_1.length c0_1) ∧ X.cell? ⟨w.heap.size, 2, none⟩ = some (.slice A0_2 l0_2.length c0_2)) W2.drew := ⟨pw_cell_below hB2' z0, pw_cell_below hB2' z1, pw_cell_below hB2' z2⟩
  have keep : ∀ X Y : World, Below X.heap.size X Y → (fun X => X.cell? ⟨w.heap.size, 0, none⟩ = some (.slice A0_0 l0_0.length c0_0) ∧ X.cell? ⟨w.heap.size, 1, none⟩ = some (.slice A0_1 l0_1.length c0_1) ∧ X.cell? ⟨w.heap.size, 2, none⟩ = some (.slice A0_2 l0_2.length c0_2)) X → (fun X => X.cell? ⟨w.heap.size, 0, none⟩ = some (.slice A0_0 l0_0.length c0_0) ∧ X.cell? ⟨w.heap.size, 1, none⟩ = some (.slice A0_1 l0_1.length c0_1) ∧ X.cell? ⟨w.heap.size, 2, none⟩ = some (.slice A0_2 l0_2.length c0_2)) Y := fun X Y h hh => ⟨pw_cell_below h hh.1, pw_cell_below h hh.2.1, pw_cell_below h hh.2.2⟩
  refine Ahd.wp_qz (start_ (S := (fun X => X.cell? ⟨w.heap.size, 0, none⟩ = some (.slice A0_0 l0_0.length c0_0) ∧ X.cell? ⟨w.heap.size, 1, none⟩ = some (.slice A0_1 l0_1.length c0_1) ∧ X.cell? ⟨w.heap.size, 2, none⟩ = some (.slice A0_2 l0_2.length c0_2))) (ds := []) #[false, false, false, false, false, false, false, false, false, false, false, false, false, false, false, false, false, false, false, false, false, false, false, false, false, false, false, false, false, false, false, false, false, false, false, false, false, false, false, false, false] (by kernel_rfl) rfl rfl hHeld (fun h0_ => ?_))
  clear h0_
  refine take_ (i := 0) (N := some 21) (v := ?_) (a' := ?_) #[true, false, false, false, false, false, false, false, false, false, false, false, false, false, false, false, false, false, false, false, false, false, false, false, false, false, false, false, false, false, false, false, false, false, false, false, false, false, false, false, false] rfl rfl (by kernel_rfl) (fun _ _ _ h => h) (Or.inl ⟨by rfl, ?_⟩) hHeld ?_ ?_
  rotate_left
  · rintro w' ⟨s0, s1, s2⟩
    go_simp
    with_reducible rfl
  rotate_left
  · simp only [Act.put, List.setIfInBounds_toArray, List.set_cons_zero, List.set_cons_succ]
    rfl
  refine take_ (i := 2) (N := some 23) (v := ?_) (a' := ?_) #[true, false, true, false, false, false, false, false, false, false, false, false, false, false, false, false, false, false, false, false, false, false, false, false, false, false, false, false, false, false, false, false, false, false, false, false, false, false, false, false, false] rfl rfl (by kernel_rfl) (fun _ _ _ h => h) (Or.inl ⟨by rfl, ?_⟩) hHeld ?_ ?_
  rotate_left
  · rintro w' ⟨s0, s1, s2⟩
    go_simp
    with_reducible rfl
  rotate_left
  · simp only [Act.put, List.setIfInBounds_toArray, List.set_cons_zero, List.set_cons_succ]
    rfl
  refine one_ (i := 1) (N := some 22) #[true, true, true, false, false, false, false, false, false, false, false, false, false, false, false, false, false, false, false, false, false, false, false, false, false, false, false, false, false, false, false, false, false, false, false, false, false, false, false, false, false] rfl rfl (by kernel_rfl) (by decide) (fun K hK => ?_)
  refine goes_ Try.func11 (by kernel_rfl) rfl #[.agg #[.slice A0_0 l0_0.length c0_0, .slice A0_1 l0_1.length c0_1, .slice A0_2 l0_2.length c0_2]] (by rfl) rfl rfl (by first | rfl | (simp [Act.eval]; done) | (simp [go_sem]; done)) ?_
  refine (he1 W2.drew hb2).mono ?_
  rintro e W3 ⟨v3, rfl, hR3, hB3⟩
  obtain ⟨B3, d3, rfl, hl3, hC3⟩ := Kd.R_reads hR3
  have hb3 := hb2.trans (hB3.mono hb2.size)
  refine ⟨_, rfl, ?_⟩
  have hh3 := keep _ _ hB3 hHeld
  refine hK.out _ _ hh3 (fun h0_ => ?_)
  clear hK K h0_
  refine one_ (i := 3) (N := some 24) #[true, true, true, true, false, false, false, false, false, false, false, false, false, false, false, false, false, false, false, false, false, false, false, false, false, false, false, false, false, false, false, false, false, false, false, false, false, false, false, false, false] rfl rfl (by kernel_rfl) (by decide) (fun K hK => ?_)
  refine goes_ Try.func17 (by kernel_rfl) rfl #[.agg #[.slice A0_0 l0_0.length c0_0, .slice A0_1 l0_1.length c0_1, .slice A0_2 l0_2.length c0_2]] (by rfl) rfl rfl (by first | rfl | (simp [Act.eval]; done) | (simp [go_sem]; done)) ?_
  refine (he2 W3 hb3).mono ?_
  rintro e W4 ⟨v4, rfl, hR4, hB4⟩
  obtain ⟨B4, d4, rfl, hl4, hC4⟩ := Kd.R_reads hR4
  have hb4 := hb3.trans (hB4.mono hb3.size)
  refine ⟨_, rfl, ?_⟩
  have hh4 := keep _ _ hB4 hh3
  refine hK.out _ _ hh4 (fun h0_ => ?_)
  clear hK K h0_
  refine one_ (i := 4) (N := some 25) #[true, true, true, true, true, false, false, false, false, false, false, false, false, false, false, false, false, false, false, false, false, false, false, false, false, false, false, false, false, false, false, false, false, false, false, false, false, false, false, false, false] rfl rfl (by kernel_rfl) (by decide) (fun K hK => ?_)
  refine goes_ Try.func16 (by kernel_rfl) rfl #[.slice B3 e1.length d3, .slice B4 e2.length d4] (by rfl) rfl rfl (by first | rfl | (simp [Act.eval]; done) | (simp [go_sem]; done)) ?_
  refine (brambleref10_Bools.calls k B3 d3 e1 B4 d4 e2 true W4 (Kd.C_below hC3 hB4) hl3 hC4 hl4 he3).mono ?_
  rintro e W5 ⟨rfl, hD5⟩
  have hB5 : Below W4.heap.size W4 W5 := hD5.below
  have hb5 := hb4.trans (hB5.mono hb4.size)
  refine ⟨_, rfl, ?_⟩
  have hh5 := keep _ _ hB5 hh4
  refine hK.out _ _ hh5 (fun h0_ => ?_)
  clear hK K h0_
  refine pure_ (i := 5) (N := some 26) (v := ?_) (a' := ?_) #[true, true, true, true, true, true, false, false, false, false, false, false, false, false, false, false, false, false, false, false, false, false, false, false, false, false, false, false, false, false, false, false, false, false, false, false, false, false, false, false, false] rfl rfl (by kernel_rfl) (fun _ _ _ h => h) (Or.inl ⟨by rfl, ?_⟩) ?_ ?_
  rotate_left
  · intro w'
    go_simp
    with_reducible rfl
  rotate_left
  · simp only [Act.put, List.setIfInBounds_toArray, List.set_cons_zero, List.set_cons_succ]
    rfl
  refine take_ (i := 6) (N := some 27) (v := ?_) (a' := ?_) #[true, true, true, true, true, true, true, false, false, false, false, false, false, false, false, false, false, false, false, false, false, false, false, false, false, false, false, false, false, false, false, false, false, false, false, false, false, false, false, false, false] rfl rfl (by kernel_rfl) (fun _ _ _ h => h) (Or.inl ⟨by rfl, ?_⟩) hh5 ?_ ?_
  rotate_left
  · rintro w' ⟨s0, s1, s2⟩
    go_simp
    with_reducible rfl
  rotate_left
  · simp only [Act.put, List.setIfInBounds_toArray, List.set_cons_zero, List.set_cons_succ]
    rfl
  refine take_ (i := 8) (N := some 29) (v := ?_) (a' := ?_) #[true, true, true, true, true, true, true, false, true, false, false, false, false, false, false, false, false, false, false, false, false, false, false, false, false, false, false, false, false, false, false, false, false, false, false, false, false, false, false, false, false] rfl rfl (by kernel_rfl) (fun _ _ _ h => h) (Or.inl ⟨by rfl, ?_⟩) hh5 ?_ ?_
  rotate_left
  · rintro w' ⟨s0, s1, s2⟩
    go_simp
    with_reducible rfl
  rotate_left
  · simp only [Act.put, List.setIfInBounds_toArray, List.set_cons_zero, List.set_cons_succ]
    rfl
  refine one_ (i := 7) (N := some 28) #[true, true, true, true, true, true, true, true, true, false, false, false, false, false, false, false, false, false, false, false, false, false, false, false, false, false, false, false, false, false, false, false, false, false, false, false, false, false, false, false, false] rfl rfl (by kernel_rfl) (by decide) (fun K hK => ?_)
  refine goes_ Try.func10 (by kernel_rfl) rfl #[.agg #[.slice A0_0 l0_0.length c0_0, .slice A0_1 l0_1.length c0_1, .slice A0_2 l0_2.length c0_2]] (by rfl) rfl rfl (by first | rfl | (simp [Act.eval]; done) | (simp [go_sem]; done)) ?_
  refine (hu1 W5 hb5).mono ?_
  rintro e W6 ⟨v6, rfl, hR6, hB6⟩
  obtain ⟨B6, d6, rfl, hl6, hC6⟩ := Kd.R_reads hR6
  have hb6 := hb5.trans (hB6.mono hb5.size)
  refine ⟨_, rfl, ?_⟩
  have hh6 := keep _ _ hB6 hh5
  refine hK.out _ _ hh6 (fun h0_ => ?_)
  clear hK K h0_
  refine one_ (i := 9) (N := some 30) #[true, true, true, true, true, true, true, true, true, true, false, false, false, false, false, false, false, false, false, false, false, false, false, false, false, false, false, false, false, false, false, false, false, false, false, false, false, false, false, false, false] rfl rfl (by kernel_rfl) (by decide) (fun K hK => ?_)
  refine goes_ Try.func18 (by kernel_rfl) rfl #[.agg #[.slice A0_0 l0_0.length c0_0, .slice A0_1 l0_1.length c0_1, .slice A0_2 l0_2.length c0_2]] (by rfl) rfl rfl (by first | rfl | (simp [Act.eval]; done) | (simp [go_sem]; done)) ?_
  refine (hu2 W6 hb6).mono ?_
  rintro e W7 ⟨v7, rfl, hR7, hB7⟩
  obtain ⟨B7, d7, rfl, hl7, hC7⟩ := Kd.R_reads hR7
  have hb7 := hb6.trans (hB7.mono hb6.size)
  refine ⟨_, rfl, ?_⟩
  have hh7 := keep _ _ hB7 hh6
  refine hK.out _ _ hh7 (fun h0_ => ?_)
  clear hK K h0_
  refine one_ (i := 10) (N := some 31) #[true, true, true, true, true, true, true, true, true, true, true, false, false, false, false, false, false, false, false, false, false, false, false, false, false, false, false, false, false, false, false, false, false, false, false, false, false, false, false, false, false] rfl rfl (by kernel_rfl) (by decide) (fun K hK => ?_)
  refine goes_ Try.func16 (by kernel_rfl) rfl #[.slice B6 u1.length d6, .slice B7 u2.length d7] (by rfl) rfl rfl (by first | rfl | (simp [Act.eval]; done) | (simp [go_sem]; done)) ?_
  refine (brambleref10_Bools.calls k B6 d6 u1 B7 d7 u2 true W7 (Kd.C_below hC6 hB7) hl6 hC7 hl7 hu3).mono ?_
  rintro e W8 ⟨rfl, hD8⟩
  have hB8 : Below W7.heap.size W7 W8 := hD8.below
  have hb8 := hb7.trans (hB8.mono hb7.size)
  refine ⟨_, rfl, ?_⟩
  have hh8 := keep _ _ hB8 hh7
  refine hK.out _ _ hh8 (fun h0_ => ?_)
  clear hK K h0_
  refine pure_ (i := 11) (N := some 32) (v := ?_) (a' := ?_) #[true, true, true, true, true, true, true, true, true, true, true, true, false, false, false, false, false, false, false, false, false, false, false, false, false, false, false, false, false, false, false, false, false, false, false, false, false, false, false, false, false] rfl rfl (by kernel_rfl) (fun _ _ _ h => h) (Or.inl ⟨by rfl, ?_⟩) ?_ ?_
  rotate_left
  · intro w'
    go_simp
    with_reducible rfl
  rotate_left
  · simp only [Act.put, List.setIfInBounds_toArray, List.set_cons_zero, List.set_cons_succ]
    rfl
  refine pure_ (i := 12) (N := some 33) (v := ?_) (a' := ?_) #[true, true, true, true, true, true, true, true, true, true, true, true, true, false, false, false, false, false, false, false, false, false, false, false, false, false, false, false, false, false, false, false, false, false, false, false, false, false, false, false, false] rfl rfl (by kernel_rfl) (fun _ _ _ h => h) (Or.inl ⟨by rfl, ?_⟩) ?_ ?_
  rotate_left
  · intro w'
    go_simp
    with_reducible rfl
  rotate_left
  · simp only [Act.put, List.setIfInBounds_toArray, List.set_cons_zero, List.set_cons_succ]
    rfl
  refine take_ (i := 13) (N := some 34) (v := ?_) (a' := ?_) #[true, true, true, true, true, true, true, true, true, true, true, true, true, true, false, false, false, false, false, false, false, false, false, false, false, false, false, false, false, false, false, false, false, false, false, false, false, false, false, false, false] rfl rfl (by kernel_rfl) (fun _ _ _ h => h) (Or.inl ⟨by rfl, ?_⟩) hh8 ?_ ?_
  rotate_left
  · rintro w' ⟨s0, s1, s2⟩
    go_simp
    with_reducible rfl
  rotate_left
  · simp only [Act.put, List.setIfInBounds_toArray, List.set_cons_zero, List.set_cons_succ]
    rfl
  refine take_ (i := 15) (N := some 36) (v := ?_) (a' := ?_) #[true, true, true, true, true, true, true, true, true, true, true, true, true, true, false, true, false, false, false, false, false, false, false, false, false, false, false, false, false, false, false, false, false, false, false, false, false, false, false, false, false] rfl rfl (by kernel_rfl) (fun _ _ _ h => h) (Or.inl ⟨by rfl, ?_⟩) hh8 ?_ ?_
  rotate_left
  · rintro w' ⟨s0, s1, s2⟩
    go_simp
    with_reducible rfl
  rotate_left
  · simp only [Act.put, List.setIfInBounds_toArray, List.set_cons_zero, List.set_cons_succ]
    rfl
  refine one_ (i := 14) (N := some 35) #[true, true, true, true, true, true, true, true, true, true, true, true, true, true, true, true, false, false, false, false, false, false, false, false, false, false, false, false, false, false, false, false, false, false, false, false, false, false, false, false, false] rfl rfl (by kernel_rfl) (by decide) (fun K hK => ?_)
  refine goes_ Try.func12 (by kernel_rfl) rfl #[.agg #[.slice A0_0 l0_0.length c0_0, .slice A0_1 l0_1.length c0_1, .slice A0_2 l0_2.length c0_2]] (by rfl) rfl rfl (by first | rfl | (simp [Act.eval]; done) | (simp [go_sem]; done)) ?_
  refine (hf1 W8 hb8).mono ?_
  rintro e W9 ⟨v9, rfl, hR9, hB9⟩
  obtain ⟨B9, d9, rfl, hl9, hC9⟩ := Kd.R_reads hR9
  have hb9 := hb8.trans (hB9.mono hb8.size)
  refine ⟨_, rfl, ?_⟩
  have hh9 := keep _ _ hB9 hh8
  refine hK.out _ _ hh9 (fun h0_ => ?_)
  clear hK K h0_
  refine one_ (i := 16) (N := some 37) #[true, true, true, true, true, true, true, true, true, true, true, true, true, true, true, true, true, false, false, false, false, false, false, false, false, false, false, false, false, false, false, false, false, false, false, false, false, false, false, false, false] rfl rfl (by kernel_rfl) (by decide) (fun K hK => ?_)
  refine goes_ Try.func20 (by kernel_rfl) rfl #[.agg #[.slice A0_0 l0_0.length c0_0, .slice A0_1 l0_1.length c0_1, .slice A0_2 l0_2.length c0_2]] (by rfl) rfl rfl (by first | rfl | (simp [Act.eval]; done) | (simp [go_sem]; done)) ?_
  refine (hf2 W9 hb9).mono ?_
  rintro e W10 ⟨v10, rfl, hR10, hB10⟩
  obtain ⟨B10, d10, rfl, hl10, hC10⟩ := Kd.R_reads hR10
  have hb10 := hb9.trans (hB10.mono hb9.size)
  refine ⟨_, rfl, ?_⟩
  have hh10 := keep _ _ hB10 hh9
  refine hK.out _ _ hh10 (fun h0_ => ?_)
  clear hK K h0_
  refine one_ (i := 17) (N := some 38) #[true, true, true, true, true, true, true, true, true, true, true, true, true, true, true, true, true, true, false, false, false, false, false, false, false, false, false, false, false, false, false, false, false, false, false, false, false, false, false, false, false] rfl rfl (by kernel_rfl) (by decide) (fun K hK => ?_)
  refine goes_ Try.func19 (by kernel_rfl) rfl #[.slice B9 f1.length d9, .slice B10 f2.length d10] (by rfl) rfl rfl (by first | rfl | (simp [Act.eval]; done) | (simp [go_sem]; done)) ?_
  refine (brambleref10_Rows.calls k B9 d9 f1 B10 d10 f2 true W10 (Kd.C_below hC9 hB10) hl9 hC10 hl10 hf3).mono ?_
  rintro e W11 ⟨rfl, hD11⟩
  have hB11 : Below W10.heap.size W10 W11 := hD11.below
  have hb11 := hb10.trans (hB11.mono hb10.size)
  refine ⟨_, rfl, ?_⟩
  have hh11 := keep _ _ hB11 hh10
  refine hK.out _ _ hh11 (fun h0_ => ?_)
  clear hK K h0_
  refine pure_ (i := 18) (N := some 39) (v := ?_) (a' := ?_) #[true, true, true, true, true, true, true, true, true, true, true, true, true, true, true, true, true, true, true, false, false, false, false, false, false, false, false, false, false, false, false, false, false, false, false, false, false, false, false, false, false] rfl rfl (by kernel_rfl) (fun _ _ _ h => h) (Or.inl ⟨by rfl, ?_⟩) ?_ ?_
  rotate_left
  · intro w'
    go_simp
    with_reducible rfl
  rotate_left
  · simp only [Act.put, List.setIfInBounds_toArray, List.set_cons_zero, List.set_cons_succ]
    rfl
  refine pure_ (i := 19) (N := some 40) (v := ?_) (a' := ?_) #[true, true, true, true, true, true, true, true, true, true, true, true, true, true, true, true, true, true, true, true, false, false, false, false, false, false, false, false, false, false, false, false, false, false, false, false, false, false, false, false, false] rfl rfl (by kernel_rfl) (fun _ _ _ h => h) (Or.inl ⟨by rfl, ?_⟩) ?_ ?_
  rotate_left
  · intro w'
    go_simp
    with_reducible rfl
  rotate_left
  · simp only [Act.put, List.setIfInBounds_toArray, List.set_cons_zero, List.set_cons_succ]
    rfl
  refine take_ (i := 20) (N := some 41) (v := ?_) (a' := ?_) #[true, true, true, true, true, true, true, true, true, true, true, true, true, true, true, true, true, true, true, true, true, false, false, false, false, false, false, false, false, false, false, false, false, false, false, false, false, false, false, false, false] rfl rfl (by kernel_rfl) (fun _ _ _ h => h) (Or.inl ⟨by rfl, ?_⟩) hh11 ?_ ?_
  rotate_left
  · rintro w' ⟨s0, s1, s2⟩
    go_simp
    with_reducible rfl
  rotate_left
  · simp only [Act.put, List.setIfInBounds_toArray, List.set_cons_zero, List.set_cons_succ]
    rfl
  refine take_ (i := 22) (N := some 43) (v := ?_) (a' := ?_) #[true, true, true, true, true, true, true, true, true, true, true, true, true, true, true, true, true, true, true, true, true, false, true, false, false, false, false, false, false, false, false, false, false, false, false, false, false, false, false, false, false] rfl rfl (by kernel_rfl) (fun _ _ _ h => h) (Or.inl ⟨by rfl, ?_⟩) hh11 ?_ ?_
  rotate_left
  · rintro w' ⟨s0, s1, s2⟩
    go_simp
    with_reducible rfl
  rotate_left
  · simp only [Act.put, List.setIfInBounds_toArray, List.set_cons_zero, List.set_cons_succ]
    rfl
  refine one_ (i := 21) (N := some 42) #[true, true, true, true, true, true, true, true, true, true, true, true, true, true, true, true, true, true, true, true, true, true, true, false, false, false, false, false, false, false, false, false, false, false, false, false, false, false, false, false, false] rfl rfl (by kernel_rfl) (by decide) (fun K hK => ?_)
  refine goes_ Try.func15 (by kernel_rfl) rfl #[.agg #[.slice A0_0 l0_0.length c0_0, .slice A0_1 l0_1.length c0_1, .slice A0_2 l0_2.length c0_2]] (by rfl) rfl rfl (by first | rfl | (simp [Act.eval]; done) | (simp [go_sem]; done)) ?_
  refine (hy1 W11 hb11).mono ?_
  rintro e W12 ⟨v12, rfl, hR12, hB12⟩
  obtain ⟨B12, d12, rfl, hl12, hC12⟩ := Kd.R_reads hR12
  have hb12 := hb11.trans (hB12.mono hb11.size)
  refine ⟨_, rfl, ?_⟩
  have hh12 := keep _ _ hB12 hh11
  refine hK.out _ _ hh12 (fun h0_ => ?_)
  clear hK K h0_
  refine one_ (i := 23) (N := some 44) #[true, true, true, true, true, true, true, true, true, true, true, true, true, true, true, true, true, true, true, true, true, true, true, true, false, false, false, false, false, false, false, false, false, false, false, false, false, false, false, false, false] rfl rfl (by kernel_rfl) (by decide) (fun K hK => ?_)
  refine goes_ Try.func21 (by kernel_rfl) rfl #[.agg #[.slice A0_0 l0_0.length c0_0, .slice A0_1 l0_1.length c0_1, .slice A0_2 l0_2.length c0_2]] (by rfl) rfl rfl (by first | rfl | (simp [Act.eval]; done) | (simp [go_sem]; done)) ?_
  refine (hy2 W12 hb12).mono ?_
  rintro e W13 ⟨v13, rfl, hR13, hB13⟩
  obtain ⟨B13, d13, rfl, hl13, hC13⟩ := Kd.R_reads hR13
  have hb13 := hb12.trans (hB13.mono hb12.size)
  refine ⟨_, rfl, ?_⟩
  have hh13 := keep _ _ hB13 hh12
  refine hK.out _ _ hh13 (fun h0_ => ?_)
  clear hK K h0_
  refine one_ (i := 24) (N := some 45) #[true, true, true, true, true, true, true, true, true, true, true, true, true, true, true, true, true, true, true, true, true, true, true, true, true, false, false, false, false, false, false, false, false, false, false, false, false, false, false, false, false] rfl rfl (by kernel_rfl) (by decide) (fun K hK => ?_)
  refine goes_ Try.func19 (by kernel_rfl) rfl #[.slice B12 y1.length d12, .slice B13 y2.length d13] (by rfl) rfl rfl (by first | rfl | (simp [Act.eval]; done) | (simp [go_sem]; done)) ?_
  refine (brambleref10_Rows.calls k B12 d12 y1 B13 d13 y2 true W13 (Kd.C_below hC12 hB13) hl12 hC13 hl13 hy3).mono ?_
  rintro e W14 ⟨rfl, hD14⟩
  have hB14 : Below W13.heap.size W13 W14 := hD14.below
  have hb14 := hb13.trans (hB14.mono hb13.size)
  refine ⟨_, rfl, ?_⟩
  have hh14 := keep _ _ hB14 hh13
  refine hK.out _ _ hh14 (fun h0_ => ?_)
  clear hK K h0_
  refine pure_ (i := 25) (N := some 46) (v := ?_) (a' := ?_) #[true, true, true, true, true, true, true, true, true, true, true, true, true, true, true, true, true, true, true, true, true, true, true, true, true, true, false, false, false, false, false, false, false, false, false, false, false, false, false, false, false] rfl rfl (by kernel_rfl) (fun _ _ _ h => h) (Or.inl ⟨by rfl, ?_⟩) ?_ ?_
  rotate_left
  · intro w'
    go_simp
    with_reducible rfl
  rotate_left
  · simp only [Act.put, List.setIfInBounds_toArray, List.set_cons_zero, List.set_cons_succ]
    rfl
  refine pure_ (i := 26) (N := some 47) (v := ?_) (a' := ?_) #[true, true, true, true, true, true, true, true, true, true, true, true, true, true, true, true, true, true, true, true, true, true, true, true, true, true, true, false, false, false, false, false, false, false, false, false, false, false, false, false, false] rfl rfl (by kernel_rfl) (fun _ _ _ h => h) (Or.inl ⟨by rfl, ?_⟩) ?_ ?_
  rotate_left
  · intro w'
    go_simp
    with_reducible rfl
  rotate_left
  · simp only [Act.put, List.setIfInBounds_toArray, List.set_cons_zero, List.set_cons_succ]
    rfl
  refine take_ (i := 27) (N := some 48) (v := ?_) (a' := ?_) #[true, true, true, true, true, true, true, true, true, true, true, true, true, true, true, true, true, true, true, true, true, true, true, true, true, true, true, true, false, false, false, false, false, false, false, false, false, false, false, false, false] rfl rfl (by kernel_rfl) (fun _ _ _ h => h) (Or.inl ⟨by rfl, ?_⟩) hh14 ?_ ?_
  rotate_left
  · rintro w' ⟨s0, s1, s2⟩
    go_simp
    with_reducible rfl
  rotate_left
  · simp only [Act.put, List.setIfInBounds_toArray, List.set_cons_zero, List.set_cons_succ]
    rfl
  refine pure_ (i := 28) (N := some 49) (v := ?_) (a' := ?_) #[true, true, true, true, true, true, true, true, true, true, true, true, true, true, true, true, true, true, true, true, true, true, true, true, true, true, true, true, true, false, false, false, false, false, false, false, false, false, false, false, false] rfl rfl (by kernel_rfl) (fun _ _ _ h => h) (Or.inl ⟨by rfl, ?_⟩) ?_ ?_
  rotate_left
  · intro w'
    go_simp
    with_reducible rfl
  rotate_left
  · simp only [Act.put, List.setIfInBounds_toArray, List.set_cons_zero, List.set_cons_succ]
    rfl
  refine pure_ (i := 29) (N := some 50) (v := ?_) (a' := ?_) #[true, true, true, true, true, true, true, true, true, true, true, true, true, true, true, true, true, true, true, true, true, true, true, true, true, true, true, true, true, true, false, false, false, false, false, false, false, false, false, false, false] rfl rfl (by kernel_rfl) (fun _ _ _ h => h) (Or.inl ⟨by rfl, ?_⟩) ?_ ?_
  rotate_left
  · intro w'
    go_simp
    with_reducible rfl
  rotate_left
  · simp only [Act.put, List.setIfInBounds_toArray, List.set_cons_zero, List.set_cons_succ]
    rfl
  refine take_ (i := 31) (N := some 52) (v := ?_) (a' := ?_) #[true, true, true, true, true, true, true, true, true, true, true, true, true, true, true, true, true, true, true, true, true, true, true, true, true, true, true, true, true, true, false, true, false, false, false, false, false, false, false, false, false] rfl rfl (by kernel_rfl) (fun _ _ _ h => h) (Or.inl ⟨by rfl, ?_⟩) hh14 ?_ ?_
  rotate_left
  · rintro w' ⟨s0, s1, s2⟩
    go_simp
    with_reducible rfl
  rotate_left
  · simp only [Act.put, List.setIfInBounds_toArray, List.set_cons_zero, List.set_cons_succ]
    rfl
  refine pure_ (i := 32) (N := some 53) (v := ?_) (a' := ?_) #[true, true, true, true, true, true, true, true, true, true, true, true, true, true, true, true, true, true, true, true, true, true, true, true, true, true, true, true, true, true, false, true, true, false, false, false, false, false, false, false, false] rfl rfl (by kernel_rfl) (fun _ _ _ h => h) (Or.inl ⟨by rfl, ?_⟩) ?_ ?_
  rotate_left
  · intro w'
    go_simp
    with_reducible rfl
  rotate_left
  · simp only [Act.put, List.setIfInBounds_toArray, List.set_cons_zero, List.set_cons_succ]
    rfl
  refine pure_ (i := 33) (N := some 54) (v := ?_) (a' := ?_) #[true, true, true, true, true, true, true, true, true, true, true, true, true, true, true, true, true, true, true, true, true, true, true, true, true, true, true, true, true, true, false, true, true, true, false, false, false, false, false, false, false] rfl rfl (by kernel_rfl) (fun _ _ _ h => h) (Or.inl ⟨by rfl, ?_⟩) ?_ ?_
  rotate_left
  · intro w'
    go_simp
    with_reducible rfl
  rotate_left
  · simp only [Act.put, List.setIfInBounds_toArray, List.set_cons_zero, List.set_cons_succ]
    rfl
  refine one_ (i := 30) (N := some 51) #[true, true, true, true, true, true, true, true, true, true, true, true, true, true, true, true, true, true, true, true, true, true, true, true, true, true, true, true, true, true, true, true, true, true, false, false, false, false, false, false, false] rfl rfl (by kernel_rfl) (by decide) (fun K hK => ?_)
  refine goes_ Try.func23 (by kernel_rfl) rfl #[.agg #[.slice A0_0 l0_0.length c0_0, .slice A0_1 l0_1.length c0_1, .slice A0_2 l0_2.length c0_2], .slice A1 l1.length c1, .slice A2 l2.length c2] (by rfl) rfl rfl (by first | rfl | (simp [Act.eval]; done) | (simp [go_sem]; done)) ?_
  refine (ha1 W14 hb14).mono ?_
  rintro e W15 ⟨v15, rfl, hR15, hB15⟩
  obtain ⟨B15, d15, rfl, hl15, hC15⟩ := Kd.R_reads hR15
  have hb15 := hb14.trans (hB15.mono hb14.size)
  refine ⟨_, rfl, ?_⟩
  have hh15 := keep _ _ hB15 hh14
  refine hK.out _ _ hh15 (fun h0_ => ?_)
  clear hK K h0_
  refine one_ (i := 34) (N := some 55) #[true, true, true, true, true, true, true, true, true, true, true, true, true, true, true, true, true, true, true, true, true, true, true, true, true, true, true, true, true, true, true, true, true, true, true, false, false, false, false, false, false] rfl rfl (by kernel_rfl) (by decide) (fun K hK => ?_)
  refine goes_ Try.func24 (by kernel_rfl) rfl #[.agg #[.slice A0_0 l0_0.length c0_0, .slice A0_1 l0_1.length c0_1, .slice A0_2 l0_2.length c0_2], .slice A1 l1.length c1, .slice A2 l2.length c2] (by rfl) rfl rfl (by first | rfl | (simp [Act.eval]; done) | (simp [go_sem]; done)) ?_
  refine (ha2 W15 hb15).mono ?_
  rintro e W16 ⟨v16, rfl, hR16, hB16⟩
  obtain ⟨B16, d16, rfl, hl16, hC16⟩ := Kd.R_reads hR16
  have hb16 := hb15.trans (hB16.mono hb15.size)
  refine ⟨_, rfl, ?_⟩
  have hh16 := keep _ _ hB16 hh15
  refine hK.out _ _ hh16 (fun h0_ => ?_)
  clear hK K h0_
  refine one_ (i := 35) (N := some 56) #[true, true, true, true, true, true, true, true, true, true, true, true, true, true, true, true, true, true, true, true, true, true, true, true, true, true, true, true, true, true, true, true, true, true, true, true, false, false, false, false, false] rfl rfl (by kernel_rfl) (by decide) (fun K hK => ?_)
  refine goes_ Try.func22 (by kernel_rfl) rfl #[.slice B15 a1.length d15, .slice B16 a2.length d16] (by rfl) rfl rfl (by first | rfl | (simp [Act.eval]; done) | (simp [go_sem]; done)) ?_
  refine (brambleref10_Ints.calls k B15 d15 a1 B16 d16 a2 true W16 (Kd.C_below hC15 hB16) hl15 hC16 hl16 ha3).mono ?_
  rintro e W17 ⟨rfl, hD17⟩
  have hB17 : Below W16.heap.size W16 W17 := hD17.below
  have hb17 := hb16.trans (hB17.mono hb16.size)
  refine ⟨_, rfl, ?_⟩
  have hh17 := keep _ _ hB17 hh16
  refine hK.out _ _ hh17 (fun h0_ => ?_)
  clear hK K h0_
  refine pure_ (i := 36) (N := some 57) (v := ?_) (a' := ?_) #[true, true, true, true, true, true, true, true, true, true, true, true, true, true, true, true, true, true, true, true, true, true, true, true, true, true, true, true, true, true, true, true, true, true, true, true, true, false, false, false, false] rfl rfl (by kernel_rfl) (fun _ _ _ h => h) (Or.inl ⟨by rfl, ?_⟩) ?_ ?_
  rotate_left
  · intro w'
    go_simp
    with_reducible rfl
  rotate_left
  · simp only [Act.put, List.setIfInBounds_toArray, List.set_cons_zero, List.set_cons_succ]
    rfl
  refine pure_ (i := 37) (N := some 58) (v := ?_) (a' := ?_) #[true, true, true, true, true, true, true, true, true, true, true, true, true, true, true, true, true, true, true, true, true, true, true, true, true, true, true, true, true, true, true, true, true, true, true, true, true, true, false, false, false] rfl rfl (by kernel_rfl) (fun _ _ _ h => h) (Or.inl ⟨by rfl, ?_⟩) ?_ ?_
  rotate_left
  · intro w'
    go_simp
    with_reducible rfl
  rotate_left
  · simp only [Act.put, List.setIfInBounds_toArray, List.set_cons_zero, List.set_cons_succ]
    rfl
  refine one_ (i := 38) (N := some 59) #[true, true, true, true, true, true, true, true, true, true, true, true, true, true, true, true, true, true, true, true, true, true, true, true, true, true, true, true, true, true, true, true, true, true, true, true, true, true, true, false, false] rfl rfl (by kernel_rfl) (by decide) (fun K hK => ?_)
  refine goes_ Try.func8 (by kernel_rfl) rfl #[] (by rfl) rfl rfl (by first | rfl | (simp [Act.eval]; done) | (simp [go_sem]; done)) ?_
  refine (bramblelaw10_awake.calls r W17 h).mono ?_
  rintro e W18 ⟨rfl, hB18⟩
  have hb18 := hb17.trans (hB18.mono hb17.size)
  refine ⟨_, rfl, ?_⟩
  have hh18 := keep _ _ hB18 hh17
  refine hK.out _ _ hh18 (fun h0_ => ?_)
  clear hK K h0_
  refine pure_ (i := 39) (N := some 60) (v := ?_) (a' := ?_) #[true, true, true, true, true, true, true, true, true, true, true, true, true, true, true, true, true, true, true, true, true, true, true, true, true, true, true, true, true, true, true, true, true, true, true, true, true, true, true, true, false] rfl rfl (by kernel_rfl) (fun _ _ _ h => h) (Or.inl ⟨by rfl, ?_⟩) ?_ ?_
  rotate_left
  · intro w'
    go_simp
    with_reducible rfl
  rotate_left
  · simp only [Act.put, List.setIfInBounds_toArray, List.set_cons_zero, List.set_cons_succ]
    rfl
  refine pure_ (i := 40) (N := some 6) (v := ?_) (a' := ?_) #[true, true, true, true, true, true, true, true, true, true, true, true, true, true, true, true, true, true, true, true, true, true, true, true, true, true, true, true, true, true, true, true, true, true, true, true, true, true, true, true, true] rfl rfl (by kernel_rfl) (fun _ _ _ h => h) (Or.inl ⟨by rfl, ?_⟩) ?_ ?_
  rotate_left
  · intro w'
    go_simp
    with_reducible rfl
  rotate_left
  · simp only [Act.put, List.setIfInBounds_toArray, List.set_cons_zero, List.set_cons_succ]
    rfl
  refine done_ (by kernel_rfl) ?_
  refine hK6 _ _ ?_
  go_wp2
  go_ret
  exact ⟨rfl, hb18⟩

end Go.Proofs.Ytkfpmolplemdlaa.PSetsTells
