/- TextDiffs: edits one after another, and a least edit between two texts, are the document's. No condition. -/
import Derived.Test.YtiipngfhdaceeaaStaTextDiffs
namespace Go.Proofs.Ytiipngfhdaceeaa.Pure
set_option linter.unusedVariables false
set_option linter.unusedSimpArgs false
open Go.RowKit Go.Proofs.Ytiipngfhdaceeaa.PTextDiffs Go.Proofs.YtiipngfhdaceeaaW.PrintWords Go.Proofs.YtiipngfhdaceeaaW.PrintLast Go.Proofs.YtiipngfhdaceeaaW.PrintMore

theorem w64 {x : Int} (h1 : -9223372036854775808 ≤ x) (h2 : x ≤ 9223372036854775807) : wrap64 x = x := by
  unfold wrap64
  omega
theorem wf64 {x : Int} (h : (Lit.int .i64 x).wf = true) : -9223372036854775808 ≤ x ∧ x ≤ 9223372036854775807 := by
  simp only [Lit.wf, Bool.and_eq_true, decide_eq_true_eq] at h
  have e1 : IntKind.i64.min = -9223372036854775808 := rfl
  have e2 : IntKind.i64.max = 9223372036854775807 := rfl
  omega
theorem evAt {α : Type} {g : Nat → Option α} {r : α} (h : ∀ k, g (k + 1) = some r) : Ev g r := ⟨1, fun k hk => by obtain ⟨m, rfl⟩ : ∃ m, k = m + 1 := ⟨k - 1, by omega⟩; exact h m⟩
theorem ba_ext {a b : ByteArray} (h : a.data.toList = b.data.toList) : a = b := by
  obtain ⟨⟨a⟩⟩ := a
  obtain ⟨⟨b⟩⟩ := b
  simpa using h
theorem ba_len (a : ByteArray) : a.data.toList.length = a.size := by rw [Array.length_toList]; rfl
theorem ba_append (a b : ByteArray) : (a ++ b).data.toList = a.data.toList ++ b.data.toList := by rw [ByteArray.data_append, Array.toList_append]
theorem ba_extract (a : ByteArray) (i j : Nat) : (a.extract i j).data.toList = (a.data.toList.take j).drop i := by
  rw [ByteArray.data_extract, Array.toList_extract, List.extract_eq_take_drop, List.drop_take]
theorem ba_get (a : ByteArray) (i : Nat) (h : i < a.size) : a[i]'h = a.data.toList[i]'(by rw [ba_len]; exact h) := rfl
theorem ba_bt (a : ByteArray) (i : Int) (h0 : 0 ≤ i) (h : i < a.size) : bt a i = ((a.data.toList[i.toNat]'(by rw [ba_len]; omega)).toNat : Int) := by
  unfold bt
  rw [dif_pos (by omega), ba_get]
theorem ba_bt_eq (a b : ByteArray) (i j : Int) (h0 : 0 ≤ i) (h1 : i < a.size) (h2 : 0 ≤ j) (h3 : j < b.size) : bt a i = bt b j ↔ a.data.toList[i.toNat]? = b.data.toList[j.toNat]? := by
  rw [ba_bt a i h0 h1, ba_bt b j h2 h3, List.getElem?_eq_getElem (by rw [ba_len]; omega), List.getElem?_eq_getElem (by rw [ba_len]; omega), Option.some.injEq, Int.ofNat_inj]
  exact UInt8.toNat_inj

def fitV (n at_ old tn : Int) : Int := if at_ < 0 ∨ old < 0 ∨ at_ > n ∨ old > n - at_ then 13 else if n - old + tn > 65536 then 12 else 0
theorem fitV_zero {n at_ old tn : Int} (h : fitV n at_ old tn = 0) : 0 ≤ at_ ∧ 0 ≤ old ∧ at_ ≤ n ∧ old ≤ n - at_ ∧ n - old + tn ≤ 65536 := by
  unfold fitV at h
  split at h
  · omega
  · split at h <;> omega
theorem fitV_of {n at_ old tn : Int} (h : 0 ≤ at_ ∧ 0 ≤ old ∧ at_ ≤ n ∧ old ≤ n - at_ ∧ n - old + tn ≤ 65536) : fitV n at_ old tn = 0 := by
  unfold fitV
  rw [if_neg (by omega), if_neg (by omega)]
def applyV (s : ByteArray) (at_ old : Int) (t : ByteArray) : ByteArray × Int :=
  if fitV s.size at_ old t.size = 0 then ((s.extract 0 at_.toNat ++ t) ++ s.extract (at_ + old).toNat s.size, 0) else (s, fitV s.size at_ old t.size)
theorem applyV_list {s : ByteArray} {at_ old : Int} {t : ByteArray} (h : fitV s.size at_ old t.size = 0) :
    (applyV s at_ old t).1.data.toList = s.data.toList.take at_.toNat ++ t.data.toList ++ s.data.toList.drop (at_ + old).toNat := by
  unfold applyV
  rw [if_pos h]
  simp only [ba_append, ba_extract, List.drop_zero]
  rw [List.take_of_length_le (l := s.data.toList) (i := s.size) (by rw [ba_len]; exact Nat.le_refl _)]
theorem applyV_size {s : ByteArray} {at_ old : Int} {t : ByteArray} (h : fitV s.size at_ old t.size = 0) :
    ((applyV s at_ old t).1.size : Int) = s.size - old + t.size := by
  obtain ⟨h1, h2, h3, h4, h5⟩ := fitV_zero h
  have := congrArg List.length (applyV_list h)
  rw [ba_len] at this
  rw [this]
  simp only [List.length_append, List.length_take, List.length_drop, ba_len]
  omega
theorem fit_eq (k : Nat) (s : ByteArray) (at_ old : Int) (t : ByteArray) (hs : s.size ≤ 140737488351232) (ht : t.size ≤ 140737488351232) :
    text_Fit.f (k + 1) s at_ old t = some (fitV s.size at_ old t.size) := by
  unfold text_Fit.f fitV
  simp only [text_Fit.j0]
  by_cases h1 : at_ < 0
  · simp [h1]
  by_cases h2 : old < 0
  · simp [h1, h2]
  by_cases h3 : at_ > s.size
  · simp [h1, h2, h3]
  rw [if_neg h1, if_neg h2, if_neg h3, w64 (x := s.size - at_) (by omega) (by omega)]
  by_cases h4 : old > s.size - at_
  · simp [h4]
  · have e : decide (old > s.size - at_) = false := by simpa using h4
    rw [e, w64 (x := s.size - old) (by omega) (by omega), w64 (by omega) (by omega), if_neg (by simp), if_neg (by omega : ¬ (at_ < 0 ∨ old < 0 ∨ at_ > s.size ∨ old > s.size - at_))]
    split <;> simp_all

theorem apply_eq (k : Nat) (s : ByteArray) (at_ old : Int) (t : ByteArray) (hs : s.size ≤ 140737488351232) (ht : t.size ≤ 140737488351232) :
    text_Apply.f (k + 1) s at_ old t = some (applyV s at_ old t) := by
  unfold text_Apply.f applyV
  rw [fit_eq k s at_ old t hs ht]
  simp only [Option.bind_some]
  by_cases h : fitV s.size at_ old t.size = 0
  · rw [if_pos h, if_pos h]
    obtain ⟨h1, h2, h3, h4, h5⟩ := fitV_zero h
    rw [w64 (x := at_ + old) (by omega) (by omega), if_pos h1, if_pos h3, if_pos, if_pos (by omega), if_pos (by omega), if_pos]
    · simp only [ByteArray.size_append, ByteArray.size_extract]
      omega
    · simp only [ByteArray.size_extract]
      omega
  · rw [if_neg h, if_neg h]
theorem fit_eqR (k : Nat) (s : ByteArray) (at_ old : Int) (t : ByteArray) (hs : s.size ≤ 140737488351232) (ht : t.size ≤ 140737488351232) :
    brambleref01_Fit.f (k + 1) s at_ old t = some (fitV s.size at_ old t.size) := by
  unfold brambleref01_Fit.f fitV
  simp only [brambleref01_Fit.j0]
  by_cases h1 : at_ < 0
  · simp [h1]
  by_cases h2 : old < 0
  · simp [h1, h2]
  by_cases h3 : at_ > s.size
  · simp [h1, h2, h3]
  rw [if_neg h1, if_neg h2, if_neg h3, w64 (x := s.size - at_) (by omega) (by omega)]
  by_cases h4 : old > s.size - at_
  · simp [h4]
  · have e : decide (old > s.size - at_) = false := by simpa using h4
    rw [e, w64 (x := s.size - old) (by omega) (by omega), w64 (by omega) (by omega), if_neg (by simp), if_neg (by omega : ¬ (at_ < 0 ∨ old < 0 ∨ at_ > s.size ∨ old > s.size - at_))]
    split <;> simp_all

theorem apply_eqR (k : Nat) (s : ByteArray) (at_ old : Int) (t : ByteArray) (hs : s.size ≤ 140737488351232) (ht : t.size ≤ 140737488351232) :
    brambleref01_Apply.f (k + 1) s at_ old t = some (applyV s at_ old t) := by
  unfold brambleref01_Apply.f applyV
  rw [fit_eqR k s at_ old t hs ht]
  simp only [Option.bind_some]
  by_cases h : fitV s.size at_ old t.size = 0
  · rw [if_pos h, if_pos h]
    obtain ⟨h1, h2, h3, h4, h5⟩ := fitV_zero h
    rw [w64 (x := at_ + old) (by omega) (by omega), if_pos h1, if_pos h3, if_pos, if_pos (by omega), if_pos (by omega), if_pos]
    · simp only [ByteArray.size_append, ByteArray.size_extract]
      omega
    · simp only [ByteArray.size_extract]
      omega
  · rw [if_neg h, if_neg h]
/-- How many bytes two texts have alike at their beginning. -/
def pre : List UInt8 → List UInt8 → Nat
  | a :: xs, b :: ys => if a = b then pre xs ys + 1 else 0
  | _, _ => 0
theorem pre_le : ∀ A B : List UInt8, pre A B ≤ A.length ∧ pre A B ≤ B.length
  | [], B => by simp [pre]
  | a :: xs, [] => by simp [pre]
  | a :: xs, b :: ys => by
    unfold pre
    split
    · have := pre_le xs ys
      simp only [List.length_cons]
      omega
    · simp
theorem pre_take : ∀ (A B : List UInt8) (i : Nat), i ≤ pre A B → A.take i = B.take i
  | [], B, i, h => by
    have : i = 0 := by simpa [pre] using h
    subst this
    simp
  | a :: xs, [], i, h => by
    have : i = 0 := by simpa [pre] using h
    subst this
    simp
  | a :: xs, b :: ys, 0, h => by simp
  | a :: xs, b :: ys, i + 1, h => by
    unfold pre at h
    split at h
    · rename_i e
      simp only [List.take_succ_cons]
      rw [e, pre_take xs ys i (by omega)]
    · omega
theorem pre_lt : ∀ (A B : List UInt8) (i : Nat), i < pre A B → A[i]? = B[i]?
  | A, B, i, h => by
    have h1 := pre_take A B (i + 1) (by omega)
    have h2 := congrArg (fun l : List UInt8 => l[i]?) h1
    simpa [List.getElem?_take_of_lt] using h2
theorem pre_stop : ∀ (A B : List UInt8), pre A B < A.length → pre A B < B.length → A[pre A B]? ≠ B[pre A B]?
  | [], B, h, _ => by simp at h
  | a :: xs, [], _, h => by simp at h
  | a :: xs, b :: ys, h1, h2 => by
    unfold pre at *
    split
    · rename_i e
      rw [if_pos e] at h1 h2
      simp only [List.getElem?_cons_succ]
      exact pre_stop xs ys (by simpa using h1) (by simpa using h2)
    · rename_i e
      simpa using e
/-- .. and at their ends, without those at the beginning. -/
def suf (A B : List UInt8) : Nat := min (pre A.reverse B.reverse) (min A.length B.length - pre A B)
theorem suf_le (A B : List UInt8) : pre A B + suf A B ≤ A.length ∧ pre A B + suf A B ≤ B.length := by
  have := pre_le A B
  unfold suf
  omega
theorem suf_lt (A B : List UInt8) (k : Nat) (h : k < suf A B) : A[A.length - 1 - k]? = B[B.length - 1 - k]? := by
  have hp := suf_le A B
  have h1 := pre_lt A.reverse B.reverse k (by unfold suf at h; omega)
  rwa [List.getElem?_reverse (by omega), List.getElem?_reverse (by omega)] at h1
theorem suf_stop (A B : List UInt8) (h : suf A B < min A.length B.length - pre A B) : A[A.length - 1 - suf A B]? ≠ B[B.length - 1 - suf A B]? := by
  have hp := suf_le A B
  have e : suf A B = pre A.reverse B.reverse := by unfold suf at *; omega
  have h1 := pre_stop A.reverse B.reverse (by rw [← e, List.length_reverse]; omega) (by rw [← e, List.length_reverse]; omega)
  rw [← e] at h1
  rwa [List.getElem?_reverse (by omega), List.getElem?_reverse (by omega)] at h1
theorem suf_drop (A B : List UInt8) : A.drop (A.length - suf A B) = B.drop (B.length - suf A B) := by
  have hp := suf_le A B
  have h1 := pre_take A.reverse B.reverse (suf A B) (by unfold suf; omega)
  rw [List.take_reverse, List.take_reverse] at h1
  exact List.reverse_inj.1 h1
def diffV (a b : ByteArray) : Int × Int × ByteArray :=
  ((pre a.data.toList b.data.toList : Nat), (a.size : Int) - (suf a.data.toList b.data.toList : Nat) - (pre a.data.toList b.data.toList : Nat), b.extract (pre a.data.toList b.data.toList) (b.size - suf a.data.toList b.data.toList))
theorem diff_end (a b : ByteArray) (hs : a.size ≤ 140737488351232) (ht : b.size ≤ 140737488351232) (i k : Int) (hi : i = (pre a.data.toList b.data.toList : Nat)) (hk : k = (suf a.data.toList b.data.toList : Nat)) :
    (if 0 ≤ i then (if i ≤ (wrap64 ((b.size : Int) - k)) then (if (wrap64 ((b.size : Int) - k)) ≤ (b.size : Int) then (some (i, wrap64 ((wrap64 ((a.size : Int) - k)) - i), b.extract (i : Int).toNat ((wrap64 ((b.size : Int) - k)) : Int).toNat)) else none) else none) else none) = some (diffV a b) := by
  have hp := suf_le a.data.toList b.data.toList
  rw [ba_len, ba_len] at hp
  rw [w64 (x := (b.size : Int) - k) (by omega) (by omega), w64 (x := (a.size : Int) - k) (by omega) (by omega), w64 (by omega) (by omega), if_pos (by omega), if_pos (by omega), if_pos (by omega)]
  unfold diffV
  have e1 : i.toNat = pre a.data.toList b.data.toList := by omega
  have e2 : ((b.size : Int) - k).toNat = b.size - suf a.data.toList b.data.toList := by omega
  rw [e1, e2, hi, hk]
theorem mn_min (x y : Int) : mn x y = min x y := by
  unfold mn
  split <;> omega
theorem diff_l1 (a b : ByteArray) (hs : a.size ≤ 140737488351232) (ht : b.size ≤ 140737488351232) (d : Nat) : ∀ k : Nat, k + d = suf a.data.toList b.data.toList →
    Ev (fun n => text_Diff.l1 n a b (pre a.data.toList b.data.toList : Nat) k) (diffV a b) := by
  have hp := suf_le a.data.toList b.data.toList
  have hl := pre_le a.data.toList b.data.toList
  rw [ba_len, ba_len] at hp hl
  have w1 : wrap64 ((mn (a.size : Int) (b.size : Int)) - (pre a.data.toList b.data.toList : Nat)) = min (a.size : Int) b.size - (pre a.data.toList b.data.toList : Nat) := by
    rw [mn_min]
    exact w64 (by omega) (by omega)
  induction d with
  | zero =>
    intro k hk
    refine evAt fun n => ?_
    simp only [text_Diff.l1]
    rw [w1]
    have fin := diff_end a b hs ht (pre a.data.toList b.data.toList : Nat) k rfl (by omega)
    by_cases c : (k : Int) < min (a.size : Int) b.size - (pre a.data.toList b.data.toList : Nat)
    · have hst := suf_stop a.data.toList b.data.toList (by rw [ba_len, ba_len]; omega)
      rw [ba_len, ba_len] at hst
      rw [if_pos c, w64 (x := (a.size : Int) - 1) (by omega) (by omega), w64 (x := (b.size : Int) - 1) (by omega) (by omega), w64 (x := (a.size : Int) - 1 - k) (by omega) (by omega), w64 (x := (b.size : Int) - 1 - k) (by omega) (by omega),
        if_pos (by omega), if_pos (by omega), if_pos (by omega), if_pos (by omega), if_neg, fin]
      rw [ba_bt_eq _ _ _ _ (by omega) (by omega) (by omega) (by omega)]
      have e1 : ((a.size : Int) - 1 - k).toNat = a.size - 1 - suf a.data.toList b.data.toList := by omega
      have e2 : ((b.size : Int) - 1 - k).toNat = b.size - 1 - suf a.data.toList b.data.toList := by omega
      rw [e1, e2]
      exact hst
    · rw [if_neg c, fin]
  | succ d ih =>
    intro k hk
    refine Ev.step (f := fun n => text_Diff.l1 n a b (pre a.data.toList b.data.toList : Nat) ((k + 1 : Nat) : Int)) (fun n => ?_) (ih (k + 1) (by omega))
    have hst := suf_lt a.data.toList b.data.toList k (by omega)
    rw [ba_len, ba_len] at hst
    have w2 : wrap64 ((k : Int) + 1) = ((k + 1 : Nat) : Int) := by rw [w64 (by omega) (by omega)]; omega
    simp only [text_Diff.l1]
    rw [w1, if_pos (by omega), w64 (x := (a.size : Int) - 1) (by omega) (by omega), w64 (x := (b.size : Int) - 1) (by omega) (by omega), w64 (x := (a.size : Int) - 1 - k) (by omega) (by omega), w64 (x := (b.size : Int) - 1 - k) (by omega) (by omega),
        if_pos (by omega), if_pos (by omega), if_pos (by omega), if_pos (by omega), if_pos, w2]
    rw [ba_bt_eq _ _ _ _ (by omega) (by omega) (by omega) (by omega)]
    have e1 : ((a.size : Int) - 1 - k).toNat = a.size - 1 - k := by omega
    have e2 : ((b.size : Int) - 1 - k).toNat = b.size - 1 - k := by omega
    rw [e1, e2]
    exact hst
theorem diff_l0 (a b : ByteArray) (hs : a.size ≤ 140737488351232) (ht : b.size ≤ 140737488351232) (d : Nat) : ∀ i : Nat, i + d = pre a.data.toList b.data.toList →
    Ev (fun n => text_Diff.l0 n a b i 0) (diffV a b) := by
  have hl := pre_le a.data.toList b.data.toList
  rw [ba_len, ba_len] at hl
  induction d with
  | zero =>
    intro i hi
    have hj : Ev (fun n => text_Diff.j1 n a b i 0) (diffV a b) := by
      refine Ev.step (f := fun n => text_Diff.l1 n a b (pre a.data.toList b.data.toList : Nat) ((0 : Nat) : Int)) (fun n => ?_) (diff_l1 a b hs ht _ 0 (Nat.zero_add _))
      obtain rfl : i = pre a.data.toList b.data.toList := by omega
      simp only [text_Diff.j1]
      rfl
    refine Ev.step (f := fun n => text_Diff.j1 n a b i 0) (fun n => ?_) hj
    simp only [text_Diff.l0]
    rw [mn_min]
    by_cases c : (i : Int) < min (a.size : Int) b.size
    · rw [if_pos c, if_pos (by omega), if_pos (by omega), if_pos (by omega), if_neg]
      rw [ba_bt_eq _ _ _ _ (by omega) (by omega) (by omega) (by omega)]
      have hst := pre_stop a.data.toList b.data.toList (by rw [ba_len]; omega) (by rw [ba_len]; omega)
      have e1 : (i : Int).toNat = pre a.data.toList b.data.toList := by omega
      rw [e1]
      exact hst
    · rw [if_neg c]
  | succ d ih =>
    intro i hi
    refine Ev.step (f := fun n => text_Diff.l0 n a b ((i + 1 : Nat) : Int) 0) (fun n => ?_) (ih (i + 1) (by omega))
    have hst := pre_lt a.data.toList b.data.toList i (by omega)
    have w2 : wrap64 ((i : Int) + 1) = ((i + 1 : Nat) : Int) := by rw [w64 (by omega) (by omega)]; omega
    simp only [text_Diff.l0]
    rw [mn_min, if_pos (by omega), if_pos (by omega), if_pos (by omega), if_pos (by omega), if_pos, w2]
    rw [ba_bt_eq _ _ _ _ (by omega) (by omega) (by omega) (by omega)]
    exact hst
theorem diff_ev (a b : ByteArray) (hs : a.size ≤ 140737488351232) (ht : b.size ≤ 140737488351232) : Ev (fun n => text_Diff.f n a b) (diffV a b) :=
  diff_l0 a b hs ht _ 0 (Nat.zero_add _)
theorem diffr_l1 (a b : ByteArray) (hs : a.size ≤ 140737488351232) (ht : b.size ≤ 140737488351232) (d : Nat) : ∀ k : Nat, k + d = suf a.data.toList b.data.toList →
    Ev (fun n => brambleref01_Diff.l1 n a b (pre a.data.toList b.data.toList : Nat) k) (diffV a b) := by
  have hp := suf_le a.data.toList b.data.toList
  have hl := pre_le a.data.toList b.data.toList
  rw [ba_len, ba_len] at hp hl
  have w1 : wrap64 ((a.size : Int) - (pre a.data.toList b.data.toList : Nat)) = (a.size : Int) - (pre a.data.toList b.data.toList : Nat) := w64 (by omega) (by omega)
  have w2 : wrap64 ((b.size : Int) - (pre a.data.toList b.data.toList : Nat)) = (b.size : Int) - (pre a.data.toList b.data.toList : Nat) := w64 (by omega) (by omega)
  induction d with
  | zero =>
    intro k hk
    refine evAt fun n => ?_
    simp only [brambleref01_Diff.l1]
    rw [w1, w2]
    have fin := diff_end a b hs ht (pre a.data.toList b.data.toList : Nat) k rfl (by omega)
    by_cases c : (k : Int) < (a.size : Int) - (pre a.data.toList b.data.toList : Nat)
    · rw [if_pos c]
      by_cases c' : (k : Int) < (b.size : Int) - (pre a.data.toList b.data.toList : Nat)
      · have hst := suf_stop a.data.toList b.data.toList (by rw [ba_len, ba_len]; omega)
        rw [ba_len, ba_len] at hst
        rw [if_pos c', w64 (x := (a.size : Int) - 1) (by omega) (by omega), w64 (x := (b.size : Int) - 1) (by omega) (by omega), w64 (x := (a.size : Int) - 1 - k) (by omega) (by omega), w64 (x := (b.size : Int) - 1 - k) (by omega) (by omega),
          if_pos (by omega), if_pos (by omega), if_pos (by omega), if_pos (by omega), if_neg, fin]
        rw [ba_bt_eq _ _ _ _ (by omega) (by omega) (by omega) (by omega)]
        have e1 : ((a.size : Int) - 1 - k).toNat = a.size - 1 - suf a.data.toList b.data.toList := by omega
        have e2 : ((b.size : Int) - 1 - k).toNat = b.size - 1 - suf a.data.toList b.data.toList := by omega
        rw [e1, e2]
        exact hst
      · rw [if_neg c', fin]
    · rw [if_neg c, fin]
  | succ d ih =>
    intro k hk
    refine Ev.step (f := fun n => brambleref01_Diff.l1 n a b (pre a.data.toList b.data.toList : Nat) ((k + 1 : Nat) : Int)) (fun n => ?_) (ih (k + 1) (by omega))
    have hst := suf_lt a.data.toList b.data.toList k (by omega)
    rw [ba_len, ba_len] at hst
    have w3 : wrap64 ((k : Int) + 1) = ((k + 1 : Nat) : Int) := by rw [w64 (by omega) (by omega)]; omega
    simp only [brambleref01_Diff.l1]
    rw [w1, w2, if_pos (by omega), if_pos (by omega), w64 (x := (a.size : Int) - 1) (by omega) (by omega), w64 (x := (b.size : Int) - 1) (by omega) (by omega), w64 (x := (a.size : Int) - 1 - k) (by omega) (by omega), w64 (x := (b.size : Int) - 1 - k) (by omega) (by omega),
        if_pos (by omega), if_pos (by omega), if_pos (by omega), if_pos (by omega), if_pos, w3]
    rw [ba_bt_eq _ _ _ _ (by omega) (by omega) (by omega) (by omega)]
    have e1 : ((a.size : Int) - 1 - k).toNat = a.size - 1 - k := by omega
    have e2 : ((b.size : Int) - 1 - k).toNat = b.size - 1 - k := by omega
    rw [e1, e2]
    exact hst
theorem diffr_l0 (a b : ByteArray) (hs : a.size ≤ 140737488351232) (ht : b.size ≤ 140737488351232) (d : Nat) : ∀ i : Nat, i + d = pre a.data.toList b.data.toList →
    Ev (fun n => brambleref01_Diff.l0 n a b i) (diffV a b) := by
  have hl := pre_le a.data.toList b.data.toList
  rw [ba_len, ba_len] at hl
  induction d with
  | zero =>
    intro i hi
    have hj : Ev (fun n => brambleref01_Diff.j1 n a b i) (diffV a b) := by
      refine Ev.step (f := fun n => brambleref01_Diff.l1 n a b (pre a.data.toList b.data.toList : Nat) ((0 : Nat) : Int)) (fun n => ?_) (diffr_l1 a b hs ht _ 0 (Nat.zero_add _))
      obtain rfl : i = pre a.data.toList b.data.toList := by omega
      simp only [brambleref01_Diff.j1]
      rfl
    refine Ev.step (f := fun n => brambleref01_Diff.j1 n a b i) (fun n => ?_) hj
    simp only [brambleref01_Diff.l0]
    by_cases c : (i : Int) < a.size
    · rw [if_pos c]
      by_cases c' : (i : Int) < b.size
      · rw [if_pos c', if_pos (by omega), if_neg]
        rw [ba_bt_eq _ _ _ _ (by omega) (by omega) (by omega) (by omega)]
        have hst := pre_stop a.data.toList b.data.toList (by rw [ba_len]; omega) (by rw [ba_len]; omega)
        have e1 : (i : Int).toNat = pre a.data.toList b.data.toList := by omega
        rw [e1]
        exact hst
      · rw [if_neg c']
    · rw [if_neg c]
  | succ d ih =>
    intro i hi
    refine Ev.step (f := fun n => brambleref01_Diff.l0 n a b ((i + 1 : Nat) : Int)) (fun n => ?_) (ih (i + 1) (by omega))
    have hst := pre_lt a.data.toList b.data.toList i (by omega)
    have w2 : wrap64 ((i : Int) + 1) = ((i + 1 : Nat) : Int) := by rw [w64 (by omega) (by omega)]; omega
    simp only [brambleref01_Diff.l0]
    rw [if_pos (by omega), if_pos (by omega), if_pos (by omega), if_pos, w2]
    rw [ba_bt_eq _ _ _ _ (by omega) (by omega) (by omega) (by omega)]
    exact hst
theorem diffr_ev (a b : ByteArray) (hs : a.size ≤ 140737488351232) (ht : b.size ≤ 140737488351232) : Ev (fun n => brambleref01_Diff.f n a b) (diffV a b) :=
  diffr_l0 a b hs ht _ 0 (Nat.zero_add _)
def allV (s t : ByteArray) : List S23 → ByteArray × Int
  | [] => (t, 0)
  | e :: r => if (applyV t e.f0 e.f1 e.f2).2 = 0 then allV s (applyV t e.f0 e.f1 e.f2).1 r else (s, (applyV t e.f0 e.f1 e.f2).2)
theorem rd_drop (l : List S23) (i : Nat) (h : i < l.length) : l.drop i = rd_T23 l i :: l.drop (i + 1) := by
  rw [List.drop_eq_getElem_cons h]
  unfold rd_T23
  rw [List.getD_eq_getElem?_getD, Int.toNat_natCast, List.getElem?_eq_getElem h]
  rfl
theorem rd_mem (l : List S23) (i : Nat) (h : i < l.length) : rd_T23 l i ∈ l := by
  unfold rd_T23
  rw [List.getD_eq_getElem?_getD, Int.toNat_natCast, List.getElem?_eq_getElem h]
  exact List.getElem_mem h
theorem applyV_bound {s : ByteArray} {at_ old : Int} {t : ByteArray} (hs : s.size ≤ 140737488351232) : (applyV s at_ old t).1.size ≤ 140737488351232 := by
  by_cases h : fitV s.size at_ old t.size = 0
  · have := applyV_size h
    obtain ⟨h1, h2, h3, h4, h5⟩ := fitV_zero h
    omega
  · have : (applyV s at_ old t).1 = s := by unfold applyV; rw [if_neg h]
    rw [this]
    exact hs
theorem all_loop (s : ByteArray) (l : List S23) (hl : l.length ≤ 140737488351232) (hb : ∀ e ∈ l, e.f2.size ≤ 140737488351232) (d : Nat) :
    ∀ (i : Nat) (t : ByteArray), i + d = l.length → t.size ≤ 140737488351232 → Ev (fun k => text_All.l0 k s t l (l.length : Int) i) (allV s t (l.drop i)) := by
  induction d with
  | zero =>
    intro i t hi ht
    refine evAt fun k => ?_
    simp only [text_All.l0]
    rw [if_neg (by omega), List.drop_eq_nil_of_le (by omega)]
    rfl
  | succ d ih =>
    intro i t hi ht
    have w2 : wrap64 ((i : Int) + 1) = ((i + 1 : Nat) : Int) := by rw [w64 (by omega) (by omega)]; omega
    rw [rd_drop l i (by omega)]
    unfold allV
    have ha : Ev (fun k => text_Apply.f k t (rd_T23 l i).f0 (rd_T23 l i).f1 (rd_T23 l i).f2) (applyV t (rd_T23 l i).f0 (rd_T23 l i).f1 (rd_T23 l i).f2) := evAt fun k => apply_eq k _ _ _ _ ht (hb _ (rd_mem l i (by omega)))
    have hr := ih (i + 1) (applyV t (rd_T23 l i).f0 (rd_T23 l i).f1 (rd_T23 l i).f2).1 (by omega) (applyV_bound ht)
    refine Ev.step (f := fun k => (text_Apply.f k t (rd_T23 l i).f0 (rd_T23 l i).f1 (rd_T23 l i).f2).bind fun bt => if bt.2 = 0 then text_All.l0 k s bt.1 l (l.length : Int) ((i + 1 : Nat) : Int) else some (s, bt.2)) (fun k => ?_) (Ev.bind ha ?_)
    · simp only [text_All.l0]
      rw [if_pos (by omega), if_pos (by omega), if_pos (by omega), w2]
    · by_cases c : (applyV t (rd_T23 l i).f0 (rd_T23 l i).f1 (rd_T23 l i).f2).2 = 0
      · simp only [if_pos c]
        exact hr
      · simp only [if_neg c]
        exact Ev.now _
theorem all_ev (s : ByteArray) (l : List S23) (hs : s.size ≤ 140737488351232) (hl : l.length ≤ 140737488351232) (hb : ∀ e ∈ l, e.f2.size ≤ 140737488351232) : Ev (fun k => text_All.f k s l) (allV s s l) :=
  all_loop s l hl hb l.length 0 s (Nat.zero_add _) hs
theorem allr_loop (s : ByteArray) (l : List S23) (hl : l.length ≤ 140737488351232) (hb : ∀ e ∈ l, e.f2.size ≤ 140737488351232) (d : Nat) :
    ∀ (i : Nat) (t : ByteArray), i + d = l.length → t.size ≤ 140737488351232 → Ev (fun k => brambleref01_All.l0 k s l t i) (allV s t (l.drop i)) := by
  induction d with
  | zero =>
    intro i t hi ht
    refine evAt fun k => ?_
    simp only [brambleref01_All.l0]
    rw [if_neg (by omega), List.drop_eq_nil_of_le (by omega)]
    rfl
  | succ d ih =>
    intro i t hi ht
    have w2 : wrap64 ((i : Int) + 1) = ((i + 1 : Nat) : Int) := by rw [w64 (by omega) (by omega)]; omega
    rw [rd_drop l i (by omega)]
    unfold allV
    have ha : Ev (fun k => brambleref01_Apply.f k t (rd_T23 l i).f0 (rd_T23 l i).f1 (rd_T23 l i).f2) (applyV t (rd_T23 l i).f0 (rd_T23 l i).f1 (rd_T23 l i).f2) := evAt fun k => apply_eqR k _ _ _ _ ht (hb _ (rd_mem l i (by omega)))
    have hr := ih (i + 1) (applyV t (rd_T23 l i).f0 (rd_T23 l i).f1 (rd_T23 l i).f2).1 (by omega) (applyV_bound ht)
    refine Ev.step (f := fun k => (brambleref01_Apply.f k t (rd_T23 l i).f0 (rd_T23 l i).f1 (rd_T23 l i).f2).bind fun bt => if bt.2 = 0 then brambleref01_All.l0 k s l bt.1 ((i + 1 : Nat) : Int) else some (s, bt.2)) (fun k => ?_) (Ev.bind ha ?_)
    · simp only [brambleref01_All.l0]
      rw [if_pos (by omega), if_pos (by omega), w2]
    · by_cases c : (applyV t (rd_T23 l i).f0 (rd_T23 l i).f1 (rd_T23 l i).f2).2 = 0
      · simp only [if_pos c]
        exact hr
      · simp only [if_neg c]
        exact Ev.now _
theorem allr_ev (s : ByteArray) (l : List S23) (hs : s.size ≤ 140737488351232) (hl : l.length ≤ 140737488351232) (hb : ∀ e ∈ l, e.f2.size ≤ 140737488351232) : Ev (fun k => brambleref01_All.f k s l) (allV s s l) :=
  allr_loop s l hl hb l.length 0 s (Nat.zero_add _) hs
theorem awake_Ev : Ev (fun k => bramblelaw01_awake.f k) true := Ev.of (k := 8) (fun k => bramblelaw01_awake.mono k) (by decide +kernel)
theorem TextDiffs : bramblelaw01_TextDiffs.Pure := by
  intro s l a b hs ⟨hl, hok⟩ ha hb
  have hb' : ∀ e ∈ l, e.f2.size ≤ 140737488351232 := fun e he => (hok e he).2.2
  have hl' : l.length ≤ 140737488351232 := by omega
  refine Ev.rounds (g := fun k => bramblelaw01_TextDiffs.f k s l a b) ?_
  unfold bramblelaw01_TextDiffs.f
  refine Ev.bind (all_ev s l hs hl' hb') (Ev.bind (allr_ev s l hs hl' hb') ?_)
  simp only [if_true]
  refine Ev.bind (diff_ev a b ha hb) (Ev.bind (diffr_ev a b ha hb) ?_)
  simp only [beq_self_eq_true, Bool.and_self, if_true]
  exact Ev.bind awake_Ev (Ev.now true)

end Go.Proofs.Ytiipngfhdaceeaa.Pure
