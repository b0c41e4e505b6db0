/- TextMaps: a byte that is not taken out by an edit is, behind it, the byte it was, and such bytes stay in order. No condition. -/
import Derived.Test.YtiipngfhdaceeaaStaTextMaps
namespace Go.Proofs.Ytiipngfhdaceeaa.Pure
set_option linter.unusedVariables false
set_option linter.unusedSimpArgs false
open Go.RowKit Go.Proofs.Ytiipngfhdaceeaa.PTextMaps Go.Proofs.YtiipngfhdaceeaaW.PrintWords Go.Proofs.YtiipngfhdaceeaaW.PrintLast Go.Proofs.YtiipngfhdaceeaaW.PrintMore

theorem w64 {x : Int} (h1 : -9223372036854775808 ≤ x) (h2 : x ≤ 9223372036854775807) : wrap64 x = x := by
  unfold wrap64
  omega
theorem wf64 {x : Int} (h : (Lit.int .i64 x).wf = true) : -9223372036854775808 ≤ x ∧ x ≤ 9223372036854775807 := by
  simp only [Lit.wf, Bool.and_eq_true, decide_eq_true_eq] at h
  have e1 : IntKind.i64.min = -9223372036854775808 := rfl
  have e2 : IntKind.i64.max = 9223372036854775807 := rfl
  omega
theorem evAt {α : Type} {g : Nat → Option α} {r : α} (h : ∀ k, g (k + 1) = some r) : Ev g r := ⟨1, fun k hk => by obtain ⟨m, rfl⟩ : ∃ m, k = m + 1 := ⟨k - 1, by omega⟩; exact h m⟩
theorem ba_ext {a b : ByteArray} (h : a.data.toList = b.data.toList) : a = b := by
  obtain ⟨⟨a⟩⟩ := a
  obtain ⟨⟨b⟩⟩ := b
  simpa using h
theorem ba_len (a : ByteArray) : a.data.toList.length = a.size := by rw [Array.length_toList]; rfl
theorem ba_append (a b : ByteArray) : (a ++ b).data.toList = a.data.toList ++ b.data.toList := by rw [ByteArray.data_append, Array.toList_append]
theorem ba_extract (a : ByteArray) (i j : Nat) : (a.extract i j).data.toList = (a.data.toList.take j).drop i := by
  rw [ByteArray.data_extract, Array.toList_extract, List.extract_eq_take_drop, List.drop_take]
theorem ba_get (a : ByteArray) (i : Nat) (h : i < a.size) : a[i]'h = a.data.toList[i]'(by rw [ba_len]; exact h) := rfl
theorem ba_bt (a : ByteArray) (i : Int) (h0 : 0 ≤ i) (h : i < a.size) : bt a i = ((a.data.toList[i.toNat]'(by rw [ba_len]; omega)).toNat : Int) := by
  unfold bt
  rw [dif_pos (by omega), ba_get]
theorem ba_bt_eq (a b : ByteArray) (i j : Int) (h0 : 0 ≤ i) (h1 : i < a.size) (h2 : 0 ≤ j) (h3 : j < b.size) : bt a i = bt b j ↔ a.data.toList[i.toNat]? = b.data.toList[j.toNat]? := by
  rw [ba_bt a i h0 h1, ba_bt b j h2 h3, List.getElem?_eq_getElem (by rw [ba_len]; omega), List.getElem?_eq_getElem (by rw [ba_len]; omega), Option.some.injEq, Int.ofNat_inj]
  exact UInt8.toNat_inj

def fitV (n at_ old tn : Int) : Int := if at_ < 0 ∨ old < 0 ∨ at_ > n ∨ old > n - at_ then 13 else if n - old + tn > 65536 then 12 else 0
theorem fitV_zero {n at_ old tn : Int} (h : fitV n at_ old tn = 0) : 0 ≤ at_ ∧ 0 ≤ old ∧ at_ ≤ n ∧ old ≤ n - at_ ∧ n - old + tn ≤ 65536 := by
  unfold fitV at h
  split at h
  · omega
  · split at h <;> omega
theorem fitV_of {n at_ old tn : Int} (h : 0 ≤ at_ ∧ 0 ≤ old ∧ at_ ≤ n ∧ old ≤ n - at_ ∧ n - old + tn ≤ 65536) : fitV n at_ old tn = 0 := by
  unfold fitV
  rw [if_neg (by omega), if_neg (by omega)]
def applyV (s : ByteArray) (at_ old : Int) (t : ByteArray) : ByteArray × Int :=
  if fitV s.size at_ old t.size = 0 then ((s.extract 0 at_.toNat ++ t) ++ s.extract (at_ + old).toNat s.size, 0) else (s, fitV s.size at_ old t.size)
theorem applyV_list {s : ByteArray} {at_ old : Int} {t : ByteArray} (h : fitV s.size at_ old t.size = 0) :
    (applyV s at_ old t).1.data.toList = s.data.toList.take at_.toNat ++ t.data.toList ++ s.data.toList.drop (at_ + old).toNat := by
  unfold applyV
  rw [if_pos h]
  simp only [ba_append, ba_extract, List.drop_zero]
  rw [List.take_of_length_le (l := s.data.toList) (i := s.size) (by rw [ba_len]; exact Nat.le_refl _)]
theorem applyV_size {s : ByteArray} {at_ old : Int} {t : ByteArray} (h : fitV s.size at_ old t.size = 0) :
    ((applyV s at_ old t).1.size : Int) = s.size - old + t.size := by
  obtain ⟨h1, h2, h3, h4, h5⟩ := fitV_zero h
  have := congrArg List.length (applyV_list h)
  rw [ba_len] at this
  rw [this]
  simp only [List.length_append, List.length_take, List.length_drop, ba_len]
  omega
theorem fit_eq (k : Nat) (s : ByteArray) (at_ old : Int) (t : ByteArray) (hs : s.size ≤ 140737488351232) (ht : t.size ≤ 140737488351232) :
    text_Fit.f (k + 1) s at_ old t = some (fitV s.size at_ old t.size) := by
  unfold text_Fit.f fitV
  simp only [text_Fit.j0]
  by_cases h1 : at_ < 0
  · simp [h1]
  by_cases h2 : old < 0
  · simp [h1, h2]
  by_cases h3 : at_ > s.size
  · simp [h1, h2, h3]
  rw [if_neg h1, if_neg h2, if_neg h3, w64 (x := s.size - at_) (by omega) (by omega)]
  by_cases h4 : old > s.size - at_
  · simp [h4]
  · have e : decide (old > s.size - at_) = false := by simpa using h4
    rw [e, w64 (x := s.size - old) (by omega) (by omega), w64 (by omega) (by omega), if_neg (by simp), if_neg (by omega : ¬ (at_ < 0 ∨ old < 0 ∨ at_ > s.size ∨ old > s.size - at_))]
    split <;> simp_all

theorem apply_eq (k : Nat) (s : ByteArray) (at_ old : Int) (t : ByteArray) (hs : s.size ≤ 140737488351232) (ht : t.size ≤ 140737488351232) :
    text_Apply.f (k + 1) s at_ old t = some (applyV s at_ old t) := by
  unfold text_Apply.f applyV
  rw [fit_eq k s at_ old t hs ht]
  simp only [Option.bind_some]
  by_cases h : fitV s.size at_ old t.size = 0
  · rw [if_pos h, if_pos h]
    obtain ⟨h1, h2, h3, h4, h5⟩ := fitV_zero h
    rw [w64 (x := at_ + old) (by omega) (by omega), if_pos h1, if_pos h3, if_pos, if_pos (by omega), if_pos (by omega), if_pos]
    · simp only [ByteArray.size_append, ByteArray.size_extract]
      omega
    · simp only [ByteArray.size_extract]
      omega
  · rw [if_neg h, if_neg h]
theorem awake_ev : bramblelaw01_awake.f 8 = some true := by decide +kernel
theorem map_eq1 (k : Nat) (at_ old : Int) (t : ByteArray) (i : Int) (ht : t.size ≤ 140737488351232) (h0 : 0 ≤ at_) (h1 : 0 ≤ old) (h2 : at_ ≤ 140737488351232) (h3 : old ≤ 140737488351232) (hi : 0 ≤ i) (hi2 : i ≤ 140737488351232) :
    text_Map.f (k + 1) at_ old t i = some (if i < at_ then (i, true) else if i - at_ < old then (0, false) else (i - old + t.size, true)) := by
  unfold text_Map.f
  rw [if_neg (by omega), decide_eq_false (by omega)]
  simp only [text_Map.j0]
  rw [if_neg (by simp), w64 (x := i - at_) (by omega) (by omega), w64 (x := i - old) (by omega) (by omega), w64 (by omega) (by omega)]
  split
  · rfl
  · split <;> rfl
theorem map_eq (k : Nat) (hk : 1 ≤ k) (at_ old : Int) (t : ByteArray) (i : Int) (ht : t.size ≤ 140737488351232) (h0 : 0 ≤ at_) (h1 : 0 ≤ old) (h2 : at_ ≤ 140737488351232) (h3 : old ≤ 140737488351232) (hi : 0 ≤ i) (hi2 : i ≤ 140737488351232) :
    text_Map.f k at_ old t i = some (if i < at_ then (i, true) else if i - at_ < old then (0, false) else (i - old + t.size, true)) := by
  obtain ⟨m, rfl⟩ : ∃ m, k = m + 1 := ⟨k - 1, by omega⟩
  exact map_eq1 m at_ old t i ht h0 h1 h2 h3 hi hi2
def lastOf (at_ old n i : Int) : Int := if i ≤ at_ then i - 1 else if i - at_ ≤ old then at_ - 1 else i - old + n - 1
def outOf (at_ old i : Int) : Int := if i ≤ at_ then 0 else if i - at_ ≤ old then i - at_ else old
theorem last_lo {at_ old n i : Int} (h : i ≤ at_) : lastOf at_ old n i = i - 1 := if_pos h
theorem last_mid {at_ old n i : Int} (h : at_ ≤ i) (h2 : i - at_ ≤ old) : lastOf at_ old n i = at_ - 1 := by
  unfold lastOf
  by_cases c : i ≤ at_
  · rw [if_pos c]; omega
  · rw [if_neg c, if_pos h2]
theorem last_hi {at_ old n i : Int} (h : at_ < i) (h2 : old < i - at_) : lastOf at_ old n i = i - old + n - 1 := by
  unfold lastOf
  rw [if_neg (by omega), if_neg (by omega)]
theorem out_lo {at_ old i : Int} (h : i ≤ at_) : outOf at_ old i = 0 := if_pos h
theorem out_mid {at_ old i : Int} (h : at_ ≤ i) (h2 : i - at_ ≤ old) : outOf at_ old i = i - at_ := by
  unfold outOf
  by_cases c : i ≤ at_
  · rw [if_pos c]; omega
  · rw [if_neg c, if_pos h2]
theorem out_hi {at_ old i : Int} (h0 : 0 ≤ old) (h : at_ ≤ i) (h2 : old ≤ i - at_) : outOf at_ old i = old := by
  unfold outOf
  by_cases c : i ≤ at_
  · rw [if_pos c]; omega
  · rw [if_neg c]
    by_cases c2 : i - at_ ≤ old
    · rw [if_pos c2]; omega
    · rw [if_neg c2]
/-- From byte i on: so many bytes were taken out so far, the last place was that. -/
theorem maps_loop (s : ByteArray) (at_ old : Int) (t : ByteArray) (hs : s.size ≤ 140737488351232) (ht : t.size ≤ 140737488351232) (h : fitV s.size at_ old t.size = 0) (d : Nat) :
    ∀ (k i : Nat), i + d = s.size → d + 8 < k →
      bramblelaw01_TextMaps.l0 k s (applyV s at_ old t).1 (lastOf at_ old t.size i) (outOf at_ old i) i at_ old t = some true := by
  obtain ⟨h1, h2, h3, h4, h5⟩ := fitV_zero h
  have hz := applyV_size h
  have hl := applyV_list h
  induction d with
  | zero =>
    intro k i hi hk
    obtain ⟨k, rfl⟩ : ∃ m, k = m + 1 := ⟨k - 1, by omega⟩
    simp only [bramblelaw01_TextMaps.l0]
    have ha : bramblelaw01_awake.f k = some true := at_rounds (fun k => bramblelaw01_awake.mono k) (by omega) awake_ev
    rw [if_neg (by omega), if_pos (out_hi h2 (by omega) (by omega)), ha]
    rfl
  | succ d ih =>
    intro k i hi hk
    obtain ⟨k, rfl⟩ : ∃ m, k = m + 1 := ⟨k - 1, by omega⟩
    have hi2 : (i : Int) < s.size := by omega
    have wi : wrap64 ((i : Int) + 1) = ((i + 1 : Nat) : Int) := by rw [w64 (by omega) (by omega)]; omega
    have hm := map_eq k (by omega) at_ old t i ht (by omega) (by omega) (by omega) (by omega) (by omega) (by omega)
    simp only [bramblelaw01_TextMaps.l0]
    rw [if_pos hi2, hm, wi]
    clear hm
    simp only [Option.bind_some]
    have r := ih k (i + 1) (by omega) (by omega)
    clear ih
    by_cases c1 : (i : Int) < at_
    · rw [if_pos c1, if_pos rfl, last_lo (by omega), out_lo (by omega)]
      rw [last_lo (by omega), out_lo (by omega)] at r
      have e : ((i + 1 : Nat) : Int) - 1 = i := by omega
      rw [e] at r
      simp only
      have q3 : (i : Int) < ((applyV s at_ old t).1.size : Int) := by omega
      rw [if_neg (by omega), if_neg (by omega), if_pos (by omega), if_pos q3, if_pos (by omega), if_pos]
      · exact r
      · rw [ba_bt_eq _ _ _ _ (by omega) q3 (by omega) hi2, hl]
        rw [List.append_assoc, List.getElem?_append_left (by rw [List.length_take, ba_len]; omega), List.getElem?_take_of_lt (by omega)]
    · rw [if_neg c1]
      by_cases c2 : (i : Int) - at_ < old
      · rw [if_pos c2, if_neg (by simp), last_mid (by omega) (by omega), out_mid (by omega) (by omega), w64 (by omega) (by omega)]
        rw [last_mid (by omega) (by omega), out_mid (by omega) (by omega)] at r
        have e : ((i + 1 : Nat) : Int) - at_ = (i : Int) - at_ + 1 := by omega
        rw [e] at r
        exact r
      · rw [if_neg c2, if_pos rfl, out_hi h2 (by omega) (by omega)]
        rw [last_hi (by omega) (by omega), out_hi h2 (by omega) (by omega)] at r
        have e : ((i + 1 : Nat) : Int) - old + t.size - 1 = (i : Int) - old + t.size := by omega
        rw [e] at r
        simp only
        have q0 : lastOf at_ old t.size i < (i : Int) - old + t.size := by
          by_cases c3 : (i : Int) - at_ ≤ old
          · rw [last_mid (by omega) c3]; omega
          · rw [last_hi (by omega) (by omega)]; omega
        have q3 : (i : Int) - old + t.size < ((applyV s at_ old t).1.size : Int) := by omega
        rw [if_neg (by omega), if_neg (by omega), if_pos (by omega), if_pos q3, if_pos (by omega), if_pos]
        · exact r
        · rw [ba_bt_eq _ _ _ _ (by omega) q3 (by omega) hi2, hl]
          rw [List.getElem?_append_right (by rw [List.length_append, List.length_take, ba_len, ba_len]; omega), List.getElem?_drop, List.length_append, List.length_take, ba_len, ba_len]
          congr 1
          omega
theorem TextMaps : bramblelaw01_TextMaps.Pure := by
  intro s e hs ⟨he0, he1, ht⟩
  have b0 := wf64 he0
  have b1 := wf64 he1
  refine ⟨s.size + 10, ?_⟩
  unfold bramblelaw01_TextMaps.f
  rw [apply_eq (s.size + 9) s e.f0 e.f1 e.f2 hs ht]
  simp only [Option.bind_some]
  by_cases h : fitV s.size e.f0 e.f1 e.f2.size = 0
  · have e2 : (applyV s e.f0 e.f1 e.f2).2 = 0 := by unfold applyV; rw [if_pos h]
    rw [if_pos e2]
    obtain ⟨h1, h2, h3, h4, h5⟩ := fitV_zero h
    have r := maps_loop s e.f0 e.f1 e.f2 hs ht h s.size (s.size + 10) 0 (by omega) (by omega)
    rw [last_lo (by omega), out_lo (by omega)] at r
    exact r
  · have e2 : ¬ (applyV s e.f0 e.f1 e.f2).2 = 0 := by unfold applyV; rw [if_neg h]; exact h
    rw [if_neg e2, at_rounds (fun k => bramblelaw01_awake.mono k) (by omega) awake_ev]
    rfl

end Go.Proofs.Ytiipngfhdaceeaa.Pure
