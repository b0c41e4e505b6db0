/- TextPoints: the point of a byte, and the byte of a point, are the document's; and there and back. No condition. -/
import Derived.Test.YtiipngfhdaceeaaStaTextPoints
import Derived.Test.YtiipngfhdaceeaaOff
namespace Go.Proofs.Ytiipngfhdaceeaa.Pure
set_option linter.unusedVariables false
set_option linter.unusedSimpArgs false
open Go.RowKit Go.Proofs.Ytiipngfhdaceeaa.PTextPoints Go.Proofs.YtiipngfhdaceeaaW.PrintWords Go.Proofs.YtiipngfhdaceeaaW.PrintLast Go.Proofs.YtiipngfhdaceeaaW.PrintMore

theorem w64 {x : Int} (h1 : -9223372036854775808 ≤ x) (h2 : x ≤ 9223372036854775807) : wrap64 x = x := by
  unfold wrap64
  omega
theorem wf64 {x : Int} (h : (Lit.int .i64 x).wf = true) : -9223372036854775808 ≤ x ∧ x ≤ 9223372036854775807 := by
  simp only [Lit.wf, Bool.and_eq_true, decide_eq_true_eq] at h
  have e1 : IntKind.i64.min = -9223372036854775808 := rfl
  have e2 : IntKind.i64.max = 9223372036854775807 := rfl
  omega
theorem evAt {α : Type} {g : Nat → Option α} {r : α} (h : ∀ k, g (k + 1) = some r) : Ev g r := ⟨1, fun k hk => by obtain ⟨m, rfl⟩ : ∃ m, k = m + 1 := ⟨k - 1, by omega⟩; exact h m⟩
theorem ba_ext {a b : ByteArray} (h : a.data.toList = b.data.toList) : a = b := by
  obtain ⟨⟨a⟩⟩ := a
  obtain ⟨⟨b⟩⟩ := b
  simpa using h
theorem ba_len (a : ByteArray) : a.data.toList.length = a.size := by rw [Array.length_toList]; rfl
theorem ba_append (a b : ByteArray) : (a ++ b).data.toList = a.data.toList ++ b.data.toList := by rw [ByteArray.data_append, Array.toList_append]
theorem ba_extract (a : ByteArray) (i j : Nat) : (a.extract i j).data.toList = (a.data.toList.take j).drop i := by
  rw [ByteArray.data_extract, Array.toList_extract, List.extract_eq_take_drop, List.drop_take]
theorem ba_get (a : ByteArray) (i : Nat) (h : i < a.size) : a[i]'h = a.data.toList[i]'(by rw [ba_len]; exact h) := rfl
theorem ba_bt (a : ByteArray) (i : Int) (h0 : 0 ≤ i) (h : i < a.size) : bt a i = ((a.data.toList[i.toNat]'(by rw [ba_len]; omega)).toNat : Int) := by
  unfold bt
  rw [dif_pos (by omega), ba_get]
theorem ba_bt_eq (a b : ByteArray) (i j : Int) (h0 : 0 ≤ i) (h1 : i < a.size) (h2 : 0 ≤ j) (h3 : j < b.size) : bt a i = bt b j ↔ a.data.toList[i.toNat]? = b.data.toList[j.toNat]? := by
  rw [ba_bt a i h0 h1, ba_bt b j h2 h3, List.getElem?_eq_getElem (by rw [ba_len]; omega), List.getElem?_eq_getElem (by rw [ba_len]; omega), Option.some.injEq, Int.ofNat_inj]
  exact UInt8.toNat_inj

def fitV (n at_ old tn : Int) : Int := if at_ < 0 ∨ old < 0 ∨ at_ > n ∨ old > n - at_ then 13 else if n - old + tn > 65536 then 12 else 0
theorem fitV_zero {n at_ old tn : Int} (h : fitV n at_ old tn = 0) : 0 ≤ at_ ∧ 0 ≤ old ∧ at_ ≤ n ∧ old ≤ n - at_ ∧ n - old + tn ≤ 65536 := by
  unfold fitV at h
  split at h
  · omega
  · split at h <;> omega
theorem fitV_of {n at_ old tn : Int} (h : 0 ≤ at_ ∧ 0 ≤ old ∧ at_ ≤ n ∧ old ≤ n - at_ ∧ n - old + tn ≤ 65536) : fitV n at_ old tn = 0 := by
  unfold fitV
  rw [if_neg (by omega), if_neg (by omega)]
def applyV (s : ByteArray) (at_ old : Int) (t : ByteArray) : ByteArray × Int :=
  if fitV s.size at_ old t.size = 0 then ((s.extract 0 at_.toNat ++ t) ++ s.extract (at_ + old).toNat s.size, 0) else (s, fitV s.size at_ old t.size)
theorem applyV_list {s : ByteArray} {at_ old : Int} {t : ByteArray} (h : fitV s.size at_ old t.size = 0) :
    (applyV s at_ old t).1.data.toList = s.data.toList.take at_.toNat ++ t.data.toList ++ s.data.toList.drop (at_ + old).toNat := by
  unfold applyV
  rw [if_pos h]
  simp only [ba_append, ba_extract, List.drop_zero]
  rw [List.take_of_length_le (l := s.data.toList) (i := s.size) (by rw [ba_len]; exact Nat.le_refl _)]
theorem applyV_size {s : ByteArray} {at_ old : Int} {t : ByteArray} (h : fitV s.size at_ old t.size = 0) :
    ((applyV s at_ old t).1.size : Int) = s.size - old + t.size := by
  obtain ⟨h1, h2, h3, h4, h5⟩ := fitV_zero h
  have := congrArg List.length (applyV_list h)
  rw [ba_len] at this
  rw [this]
  simp only [List.length_append, List.length_take, List.length_drop, ba_len]
  omega
open Go.Proofs.Ytiipngfhdaceeaa.Off (rowsFrom offV rows_len rows_bd ib_bd)
theorem awake_Ev : Ev (fun k => bramblelaw01_awake.f k) true := Ev.of (k := 8) (fun k => bramblelaw01_awake.mono k) (by decide +kernel)
def stp (p : Int × Int) (b : UInt8) : Int × Int := if b = 10 then (p.1 + 1, 0) else (p.1, p.2 + 1)
def F (l : List UInt8) (i : Nat) : Int × Int := (l.take i).foldl stp (0, 0)
theorem F_succ (l : List UInt8) (i : Nat) (h : i < l.length) : F l (i + 1) = stp (F l i) l[i] := by
  unfold F
  rw [List.take_succ_eq_append_getElem h, List.foldl_append]
  rfl
theorem F_bd (l : List UInt8) : ∀ i, i ≤ l.length → 0 ≤ (F l i).1 ∧ (F l i).1 ≤ i ∧ 0 ≤ (F l i).2 ∧ (F l i).2 ≤ i
  | 0, _ => by simp [F]
  | i + 1, h => by
    have := F_bd l i (by omega)
    rw [F_succ l i (by omega)]
    unfold stp
    split <;> simp only <;> omega
theorem bt_10 (s : ByteArray) (i : Nat) (h : i < s.data.toList.length) : bt s i = 10 ↔ s.data.toList[i] = 10 := by
  have h' : (i : Int) < s.size := by rw [ba_len] at h; omega
  rw [ba_bt s i (by omega) h']
  have e : s.data.toList[(i : Int).toNat]'(by rw [ba_len]; omega) = s.data.toList[i] := rfl
  rw [e]
  constructor
  · intro h1
    have h2 : UInt8.toNat 10 = 10 := rfl
    exact UInt8.toNat_inj.1 (by omega)
  · intro h1
    rw [h1]
    rfl
def pointV (s : ByteArray) (at_ : Int) : Int × Int × Int :=
  if at_ < 0 ∨ at_ > s.size then (0, 0, 13) else ((F s.data.toList at_.toNat).1, (F s.data.toList at_.toNat).2, 0)
theorem ref_l0 (s : ByteArray) (hs : s.size ≤ 140737488351232) (a : Nat) (ha : a ≤ s.size) (d : Nat) : ∀ i, i + d = a →
    Ev (fun k => brambleref01_PointAt.l0 k s a i (F s.data.toList i).1 (F s.data.toList i).2) ((F s.data.toList a).1, (F s.data.toList a).2, 0) := by
  induction d with
  | zero =>
    intro i hi
    obtain rfl : i = a := by omega
    refine evAt fun k => ?_
    simp only [brambleref01_PointAt.l0]
    rw [if_neg (by omega)]
  | succ d ih =>
    intro i hi
    have hl : i < s.data.toList.length := by rw [ba_len]; omega
    have hb := F_bd s.data.toList i (by omega)
    refine Ev.step (fun k => ?_) (ih (i + 1) (by omega))
    simp only [brambleref01_PointAt.l0]
    rw [if_pos (by omega), if_pos (by omega), if_pos (by omega), w64 (x := (i : Int) + 1) (by omega) (by omega), F_succ _ _ hl]
    unfold stp
    by_cases c : s.data.toList[i] = 10
    · rw [if_pos ((bt_10 s i hl).2 c), if_pos c, w64 (by omega) (by omega)]
      rfl
    · rw [if_neg (fun h => c ((bt_10 s i hl).1 h)), if_neg c, w64 (by omega) (by omega)]
      rfl
theorem ref_point (s : ByteArray) (hs : s.size ≤ 140737488351232) (a : Int) : Ev (fun k => brambleref01_PointAt.f k s a) (pointV s a) := by
  unfold pointV
  have hj : ∀ b, (b = true → a < 0 ∨ a > s.size) → (b = false → ¬ (a < 0 ∨ a > s.size)) → Ev (fun k => brambleref01_PointAt.j0 k s a b) (if a < 0 ∨ a > s.size then (0, 0, 13) else ((F s.data.toList a.toNat).1, (F s.data.toList a.toNat).2, 0)) := by
    intro b h1 h2
    cases b with
    | true =>
      rw [if_pos (h1 rfl)]
      exact evAt fun k => by simp only [brambleref01_PointAt.j0]; rfl
    | false =>
      rw [if_neg (h2 rfl)]
      have hn := h2 rfl
      refine Ev.step (fun k => by simp only [brambleref01_PointAt.j0, Bool.false_eq_true, if_false]; rfl) ?_
      have := ref_l0 s hs a.toNat (by omega) a.toNat 0 (by omega)
      have e : ((a.toNat : Nat) : Int) = a := by omega
      rw [e] at this
      simpa [F] using this
  by_cases c : a < 0
  · exact Ev.congr (fun k => by unfold brambleref01_PointAt.f; rw [if_pos c]) (hj true (fun _ => .inl c) (fun h => by cases h))
  · refine Ev.congr (fun k => by unfold brambleref01_PointAt.f; rw [if_neg c]) (hj (decide (a > s.size)) (fun h => .inr (by simpa using h)) (fun h => ?_))
    simp at h
    omega
def li (l : List UInt8) : Nat → Int
  | 0 => -1
  | j + 1 => if l[j]? = some 10 then j else li l j
theorem li_F (l : List UInt8) : ∀ j, j ≤ l.length → (F l j).2 = (j : Int) - 1 - li l j ∧ -1 ≤ li l j ∧ li l j < j
  | 0, _ => by simp [F, li]
  | j + 1, h => by
    have ih := li_F l j (by omega)
    rw [F_succ l j (by omega)]
    unfold stp li
    rw [List.getElem?_eq_getElem (by omega)]
    by_cases c : l[j] = 10
    · rw [if_pos c, if_pos (by rw [c])]
      simp only
      omega
    · rw [if_neg c, if_neg (by simpa using c)]
      simp only
      omega
theorem li_take (l : List UInt8) (a : Nat) : ∀ j, j ≤ a → li (l.take a) j = li l j
  | 0, _ => rfl
  | j + 1, h => by
    unfold li
    rw [List.getElem?_take_of_lt (by omega), li_take l a j (by omega)]
theorem last_l0 (p : ByteArray) (hp : p.size ≤ 140737488351232) : ∀ j, j ≤ p.size → Ev (fun k => bytealg_LastIndexByteString.l0 k p 10 ((j : Int) - 1)) (li p.data.toList j)
  | 0, _ => evAt fun k => by simp only [bytealg_LastIndexByteString.l0]; rw [if_neg (by omega)]; rfl
  | j + 1, h => by
    have hl : j < p.data.toList.length := by rw [ba_len]; omega
    have e : (((j + 1 : Nat) : Int) - 1) = (j : Int) := by omega
    unfold li
    rw [List.getElem?_eq_getElem hl, e]
    by_cases c : p.data.toList[j] = 10
    · rw [if_pos (by rw [c])]
      refine evAt fun k => ?_
      simp only [bytealg_LastIndexByteString.l0]
      rw [if_pos (by omega), if_pos (by omega), if_pos (by omega), if_pos ((bt_10 p j hl).2 c)]
    · rw [if_neg (by simpa using c)]
      refine Ev.step (fun k => ?_) (last_l0 p hp j (by omega))
      simp only [bytealg_LastIndexByteString.l0]
      rw [if_pos (by omega), if_pos (by omega), if_pos (by omega), if_neg (fun h => c ((bt_10 p j hl).1 h)), w64 (by omega) (by omega)]
theorem count_F (l : List UInt8) : ∀ j, j ≤ l.length → (((l.take j).count 10 : Nat) : Int) = (F l j).1
  | 0, _ => by simp [F]
  | j + 1, h => by
    rw [F_succ l j (by omega), List.take_succ_eq_append_getElem (by omega), List.count_append]
    have ih := count_F l j (by omega)
    unfold stp
    by_cases c : l[j] = 10
    · rw [if_pos c, c]
      simp
      omega
    · rw [if_neg c]
      have : List.count 10 [l[j]] = 0 := by
        rw [List.count_singleton]
        simp [c]
      rw [this]
      simpa using ih
theorem pointAt (s : ByteArray) (hs : s.size ≤ 140737488351232) (a : Int) : Ev (fun k => text_PointAt.f k s a) (pointV s a) := by
  unfold pointV
  have hj : ∀ b, (b = true → a < 0 ∨ a > s.size) → (b = false → ¬ (a < 0 ∨ a > s.size)) → Ev (fun k => text_PointAt.j0 k s a b) (if a < 0 ∨ a > s.size then (0, 0, 13) else ((F s.data.toList a.toNat).1, (F s.data.toList a.toNat).2, 0)) := by
    intro b h1 h2
    cases b with
    | true =>
      rw [if_pos (h1 rfl)]
      exact evAt fun k => by simp only [text_PointAt.j0]; rfl
    | false =>
      rw [if_neg (h2 rfl)]
      have hn := h2 rfl
      have hps : (s.extract 0 a.toNat).size = a.toNat := by rw [ByteArray.size_extract]; omega
      have hpl : (s.extract 0 a.toNat).data.toList = s.data.toList.take a.toNat := by rw [ba_extract, List.drop_zero]
      have hll := last_l0 (s.extract 0 a.toNat) (by rw [hps]; omega) a.toNat (by rw [hps]; exact Nat.le_refl _)
      rw [hpl, li_take _ _ _ (Nat.le_refl _)] at hll
      have hlif := li_F s.data.toList a.toNat (by rw [ba_len]; omega)
      have hcnt := count_F s.data.toList a.toNat (by rw [ba_len]; omega)
      have hlast : Ev (fun k => strings_LastIndexByte.f k (s.extract 0 a.toNat) 10) (li s.data.toList a.toNat) := by
        unfold strings_LastIndexByte.f bytealg_LastIndexByteString.f
        refine Ev.bind (Ev.congr (fun k => ?_) hll) (Ev.now _)
        rw [hps, w64 (by omega) (by omega)]
      refine Ev.step (fun k => by simp only [text_PointAt.j0, Bool.false_eq_true, if_false]; rw [if_pos (by omega), if_pos (by omega)]) ?_
      refine Ev.bind (a := (F s.data.toList a.toNat).1) ?_ (Ev.bind hlast ?_)
      · refine evAt fun k => ?_
        unfold strings_Count.f
        rw [if_pos (by rfl), hpl]
        unfold Lib.countByte
        rw [← hcnt]
        rfl
      · rw [w64 (x := a - 1) (by omega) (by omega), w64 (by omega) (by omega), hlif.1]
        have e : (a.toNat : Int) = a := by omega
        rw [e]
        exact Ev.now _
  by_cases c : a < 0
  · exact Ev.congr (fun k => by unfold text_PointAt.f; rw [if_pos c]) (hj true (fun _ => .inl c) (fun h => by cases h))
  · refine Ev.congr (fun k => by unfold text_PointAt.f; rw [if_neg c]) (hj (decide (a > s.size)) (fun h => .inr (by simpa using h)) (fun h => ?_))
    simp at h
    omega
theorem ib_none : ∀ a : List UInt8, 10 ∉ a → Lib.indexByte a 10 = -1
  | [], _ => rfl
  | b :: l, h => by
    unfold Lib.indexByte
    have h1 : (b == 10) = false := by simpa using (fun e => h (by simp [e]))
    rw [h1, ib_none l (fun e => h (by simp [e]))]
    rfl
theorem ib_some : ∀ a b : List UInt8, 10 ∉ a → Lib.indexByte (a ++ 10 :: b) 10 = a.length
  | [], _, _ => rfl
  | c :: l, b, h => by
    show Lib.indexByte (c :: (l ++ 10 :: b)) 10 = _
    unfold Lib.indexByte
    have h1 : (c == 10) = false := by simpa using (fun e => h (by simp [e]))
    rw [h1, ib_some l b (fun e => h (by simp [e]))]
    simp
theorem offV_zero (x : Int × Int) (L : List (Int × Int)) (col : Int) : offV (x :: L) (x :: L).length 0 col = if 0 ≤ col ∧ col ≤ x.2 - x.1 then (x.1 + col, 0) else (0, 13) := by
  unfold offV
  have h : (0 : Int) ≤ 0 ∧ (0 : Int) < ((x :: L).length : Nat) := by simp only [List.length_cons]; omega
  rw [if_pos h]
  rfl
theorem offV_pos (x : Int × Int) (q : Int) (hq : q ≠ 0) (col : Int) : offV [x] [x].length q col = (0, 13) := by
  unfold offV
  have h : ¬ ((0 : Int) ≤ q ∧ q < ([x].length : Nat)) := by simp only [List.length_cons, List.length_nil]; omega
  rw [if_neg h]
theorem offV_succ (x : Int × Int) (L : List (Int × Int)) (q : Int) (hq : q ≠ 0) (col : Int) : offV (x :: L) (x :: L).length q col = offV L L.length (q - 1) col := by
  unfold offV
  by_cases h : (0 : Int) ≤ q ∧ q < ((x :: L).length : Nat)
  · have h' : (0 : Int) ≤ q - 1 ∧ q - 1 < (L.length : Nat) := by simp only [List.length_cons] at h; omega
    have e1 : q.toNat = (q - 1).toNat + 1 := by omega
    rw [if_pos h, if_pos h', e1, List.getD_cons_succ]
  · have h' : ¬ ((0 : Int) ≤ q - 1 ∧ q - 1 < (L.length : Nat)) := by simp only [List.length_cons] at h; omega
    rw [if_neg h, if_neg h']
theorem ref_offset (s : ByteArray) (hs : s.size ≤ 140737488351232) (row col : Int) (hr1 : -9223372036854775808 ≤ row) (hr2 : row ≤ 9223372036854775807) (hc1 : -9223372036854775808 ≤ col) (hc2 : col ≤ 9223372036854775807) (d : Nat) :
    ∀ (f : Nat) (r fr i : Nat), i + d = s.size → fr ≤ i → r ≤ fr → s.size + 1 ≤ fr + f → 10 ∉ (s.data.toList.drop fr).take (i - fr) →
    Ev (fun k => brambleref01_Offset.l0 k s r fr i row col) (offV (rowsFrom s.data.toList f fr) (rowsFrom s.data.toList f fr).length (row - r) col) := by
  induction d with
  | zero =>
    intro f r fr i hi hfi hr hf hno
    obtain rfl : i = s.size := by omega
    obtain ⟨f, rfl⟩ : ∃ m, f = m + 1 := ⟨f - 1, by omega⟩
    have hib : Lib.indexByte (s.data.toList.drop fr) 10 = -1 := ib_none _ (by rwa [List.take_of_length_le (by rw [List.length_drop, ba_len]; exact Nat.le_refl _)] at hno)
    have hrows : rowsFrom s.data.toList (f + 1) fr = [((fr : Int), (s.size : Int))] := by
      simp only [rowsFrom]; rw [hib, if_pos (by omega), ba_len]
    rw [hrows]
    refine Ev.step (f := fun k => brambleref01_Offset.j1 k s r fr s.size false row col) (fun k => ?_) ?_
    · simp only [brambleref01_Offset.l0]
      rw [if_pos (by omega), if_neg (by omega)]
    · by_cases c : (r : Int) = row
      · refine evAt fun k => ?_
        simp only [brambleref01_Offset.j1, Bool.false_eq_true, if_false]
        have e : row - (r : Int) = 0 := by omega
        rw [if_pos c, w64 (x := (s.size : Int) - fr) (by omega) (by omega), e, offV_zero]
        simp only
        by_cases c1 : col < 0
        · rw [if_pos c1, if_neg (by omega)]
        · rw [if_neg c1]
          by_cases c2 : col > (s.size : Int) - fr
          · rw [if_pos c2, if_neg (by omega)]
          · rw [if_neg c2, if_pos (by omega), w64 (by omega) (by omega)]
      · rw [offV_pos _ _ (by omega)]
        refine Ev.step (f := fun k => brambleref01_Offset.l0 k s (wrap64 ((r : Int) + 1)) (wrap64 ((s.size : Int) + 1)) (wrap64 ((s.size : Int) + 1)) row col) (fun k => ?_) (evAt fun k => ?_)
        · simp only [brambleref01_Offset.j1, Bool.false_eq_true, if_false]
          rw [if_neg c]
        · simp only [brambleref01_Offset.l0]
          rw [w64 (x := (s.size : Int) + 1) (by omega) (by omega), if_neg (by omega)]
  | succ d ih =>
    intro f r fr i hi hfi hr hf hno
    have hl : i < s.data.toList.length := by rw [ba_len]; omega
    have hsplit : s.data.toList.drop fr = (s.data.toList.drop fr).take (i - fr) ++ s.data.toList[i] :: s.data.toList.drop (i + 1) := by
      have h1 := (List.take_append_drop (i - fr) (s.data.toList.drop fr)).symm
      rw [List.drop_drop] at h1
      have e : fr + (i - fr) = i := by omega
      rw [e, List.drop_eq_getElem_cons hl] at h1
      exact h1
    by_cases c : s.data.toList[i] = 10
    · obtain ⟨f, rfl⟩ : ∃ m, f = m + 1 := ⟨f - 1, by omega⟩
      have hib : Lib.indexByte (s.data.toList.drop fr) 10 = ((i - fr : Nat) : Int) := by
        rw [hsplit, c, ib_some _ _ hno, List.length_take, List.length_drop]
        congr 1
        omega
      have hrows : rowsFrom s.data.toList (f + 1) fr = ((fr : Int), (i : Int)) :: rowsFrom s.data.toList f (i + 1) := by
        simp only [rowsFrom]; rw [hib, if_neg (by omega)]
        congr 1
        · congr 1
          omega
        · congr 1
          omega
      rw [hrows]
      refine Ev.step (f := fun k => brambleref01_Offset.j1 k s r fr i false row col) (fun k => ?_) ?_
      · simp only [brambleref01_Offset.l0]
        rw [if_pos (by omega), if_pos (by omega), if_pos (by omega)]
        congr 1
        rw [(bt_10 s i hl).2 c]
        rfl
      · by_cases cr : (r : Int) = row
        · refine evAt fun k => ?_
          simp only [brambleref01_Offset.j1, Bool.false_eq_true, if_false]
          have e : row - (r : Int) = 0 := by omega
          rw [if_pos cr, w64 (x := (i : Int) - fr) (by omega) (by omega), e, offV_zero]
          simp only
          by_cases c1 : col < 0
          · rw [if_pos c1, if_neg (by omega)]
          · rw [if_neg c1]
            by_cases c2 : col > (i : Int) - fr
            · rw [if_pos c2, if_neg (by omega)]
            · rw [if_neg c2, if_pos (by omega), w64 (by omega) (by omega)]
        · have hi' := ih f (r + 1) (i + 1) (i + 1) (by omega) (Nat.le_refl _) (by omega) (by omega) (by simp)
          refine Ev.step (fun k => ?_) (?_ : Ev (fun k => brambleref01_Offset.l0 k s ((r + 1 : Nat) : Int) ((i + 1 : Nat) : Int) ((i + 1 : Nat) : Int) row col) _)
          · simp only [brambleref01_Offset.j1, Bool.false_eq_true, if_false]
            rw [if_neg cr, w64 (by omega) (by omega), w64 (by omega) (by omega)]
            rfl
          · have e : offV (((fr : Int), (i : Int)) :: rowsFrom s.data.toList f (i + 1)) (((fr : Int), (i : Int)) :: rowsFrom s.data.toList f (i + 1)).length (row - r) col = offV (rowsFrom s.data.toList f (i + 1)) (rowsFrom s.data.toList f (i + 1)).length (row - ((r + 1 : Nat) : Int)) col := by
              rw [offV_succ _ _ _ (by omega)]
              congr 1
              omega
            rw [e]
            exact hi'
    · have hno' : 10 ∉ (s.data.toList.drop fr).take (i + 1 - fr) := by
        have e : i + 1 - fr = (i - fr) + 1 := by omega
        rw [e, List.take_succ_eq_append_getElem (by rw [List.length_drop]; omega), List.mem_append]
        rintro (h | h)
        · exact hno h
        · simp only [List.mem_singleton, List.getElem_drop] at h
          have e2 : fr + (i - fr) = i := by omega
          simp only [e2] at h
          exact c h.symm
      have hi' := ih f r fr (i + 1) (by omega) (by omega) hr hf hno'
      have hj : Ev (fun k => brambleref01_Offset.j1 k s r fr i true row col) (offV (rowsFrom s.data.toList f fr) (rowsFrom s.data.toList f fr).length (row - r) col) := by
        refine Ev.step (fun k => ?_) hi'
        simp only [brambleref01_Offset.j1, if_true]
        rw [w64 (by omega) (by omega)]
        rfl
      refine Ev.step (fun k => ?_) hj
      simp only [brambleref01_Offset.l0]
      rw [if_pos (by omega), if_pos (by omega), if_pos (by omega)]
      congr 1
      have : bt s i ≠ 10 := fun h => c ((bt_10 s i hl).1 h)
      simpa using this
theorem rows_F (l : List UInt8) : ∀ (f i : Nat) (r : Int), i ≤ l.length → F l i = (r, 0) → ∀ (k : Nat) (x : Int × Int), (rowsFrom l f i)[k]? = some x → ∀ c : Nat, (c : Int) ≤ x.2 - x.1 → F l (x.1.toNat + c) = (r + k, (c : Int))
  | 0, i, r, hi, hF, k, x, hx => by simp [rowsFrom] at hx
  | f + 1, i, r, hi, hF, k, x, hx => by
    have hbd := ib_bd (l.drop i)
    have hge := Lib.indexByte_ge (l.drop i) 10
    have run : ∀ c : Nat, i + c ≤ l.length → 10 ∉ (l.drop i).take c → F l (i + c) = (r, (c : Int)) := by
      intro c
      induction c with
      | zero => intro _ _; simpa using hF
      | succ c ihc =>
        intro h1 h2
        have h3 : c < (l.drop i).length := by rw [List.length_drop]; omega
        rw [List.take_succ_eq_append_getElem h3, List.mem_append] at h2
        have h4 := ihc (by omega) (fun h => h2 (.inl h))
        have h5 : l[i + c] ≠ 10 := by
          intro h
          apply h2
          right
          simp only [List.mem_singleton, List.getElem_drop]
          exact h.symm
        rw [← Nat.add_assoc, F_succ l (i + c) (by omega), h4]
        unfold stp
        rw [if_neg h5]
        simp
    have hno : ∀ m : Nat, (Lib.indexByte (l.drop i) 10 < 0 ∨ (m : Int) ≤ Lib.indexByte (l.drop i) 10) → 10 ∉ (l.drop i).take m := by
      generalize l.drop i = q
      clear run hx hF hi hbd hge
      intro m
      induction q generalizing m with
      | nil => intro _; simp
      | cons b q ihq =>
        intro h
        cases m with
        | zero => simp
        | succ m =>
          unfold Lib.indexByte at h
          have hge' := Lib.indexByte_ge q 10
          split at h
          · omega
          · rename_i hb
            have hb' : b ≠ 10 := by simpa using hb
            simp only [List.take_succ_cons, List.mem_cons, not_or]
            refine ⟨fun e => hb' e.symm, ihq m ?_⟩
            split at h
            · rename_i h1
              left
              simp at h1
              omega
            · omega
    simp only [rowsFrom] at hx
    split at hx
    · rename_i hneg
      cases k with
      | succ k => simp at hx
      | zero =>
        simp only [List.getElem?_cons_zero, Option.some.injEq] at hx
        subst hx
        intro c hc
        simp only at hc
        have := run c (by omega) (hno c (.inl hneg))
        simpa using this
    · rename_i hpos
      have hlt : i + (Lib.indexByte (l.drop i) 10).toNat < l.length := by
        rcases hbd with h | ⟨_, h⟩
        · rw [List.length_drop] at h; omega
        · omega
      obtain ⟨q, hq⟩ : ∃ q : Nat, Lib.indexByte (l.drop i) 10 = q := ⟨(Lib.indexByte (l.drop i) 10).toNat, by omega⟩
      rw [hq] at hx hlt hno hpos
      simp only [Int.toNat_natCast] at hx hlt
      have hat : ∀ c : Nat, c ≤ q → F l (i + c) = (r, (c : Int)) := fun c hc => run c (by omega) (hno c (.inr (by omega)))
      cases k with
      | zero =>
        simp only [List.getElem?_cons_zero, Option.some.injEq] at hx
        subst hx
        intro c hc
        simp only at hc
        have := hat c (by omega)
        simpa using this
      | succ k =>
        simp only [List.getElem?_cons_succ] at hx
        have hnl : l[i + q] = 10 := by
          have hg : Lib.indexByte (l.drop i) 10 = q := hq
          have key : ∀ (p : List UInt8) (q : Nat), Lib.indexByte p 10 = (q : Int) → p[q]? = some 10 := by
            intro p
            induction p with
            | nil => intro q h; simp [Lib.indexByte] at h
            | cons b p ihp =>
              intro q h
              have hge' := Lib.indexByte_ge p 10
              unfold Lib.indexByte at h
              split at h
              · rename_i hb
                obtain rfl : q = 0 := by omega
                simpa using hb
              · split at h
                · omega
                · rename_i hne1
                  have hne2 : Lib.indexByte p 10 ≠ -1 := by simpa using hne1
                  obtain ⟨q', rfl⟩ : ∃ m, q = m + 1 := ⟨q - 1, by omega⟩
                  simp only [List.getElem?_cons_succ]
                  exact ihp q' (by omega)
          have h2 := key _ _ hg
          rw [List.getElem?_drop, List.getElem?_eq_getElem hlt, Option.some.injEq] at h2
          exact h2
        have hn : F l (i + q + 1) = (r + 1, 0) := by
          rw [F_succ l (i + q) hlt, hat q (Nat.le_refl _)]
          unfold stp
          rw [if_pos hnl]
        have := rows_F l f (i + q + 1) (r + 1) (by omega) hn k x hx
        intro c hc
        rw [this c hc]
        congr 1
        omega
theorem there_back (s : ByteArray) (row col c : Int) (h : offV (rowsFrom s.data.toList (s.size + 1) 0) (rowsFrom s.data.toList (s.size + 1) 0).length row col = (c, 0)) :
    pointV s c = (row, col, 0) := by
  unfold offV at h
  split at h
  · rename_i hr
    split at h
    · rename_i hc
      have hlt : row.toNat < (rowsFrom s.data.toList (s.size + 1) 0).length := by omega
      have hg : (rowsFrom s.data.toList (s.size + 1) 0).getD row.toNat (0, 0) = (rowsFrom s.data.toList (s.size + 1) 0)[row.toNat] := by
        simp [List.getD, hlt]
      have hbd := rows_bd s.data.toList (s.size + 1) 0 (Nat.zero_le _) _ (List.getElem_mem hlt)
      rw [ba_len] at hbd
      rw [hg] at hc h
      have hF := rows_F s.data.toList (s.size + 1) 0 0 (Nat.zero_le _) rfl row.toNat _ (List.getElem?_eq_getElem hlt) col.toNat (by omega)
      obtain ⟨rfl⟩ : (rowsFrom s.data.toList (s.size + 1) 0)[row.toNat].1 + col = c := by simpa using h
      unfold pointV
      rw [if_neg (by omega)]
      have e : ((rowsFrom s.data.toList (s.size + 1) 0)[row.toNat].1 + col).toNat = (rowsFrom s.data.toList (s.size + 1) 0)[row.toNat].1.toNat + col.toNat := by omega
      rw [e, hF]
      simp only [Prod.mk.injEq, and_true]
      omega
    · simp at h
  · simp at h
theorem offV_err (L : List (Int × Int)) (n : Nat) (row col : Int) : (offV L n row col).2 = 0 ∨ (offV L n row col).2 = 13 := by
  unfold offV
  split
  · split <;> simp
  · simp
theorem TextPoints : bramblelaw01_TextPoints.Pure := by
  intro s a p hs ha ⟨hp0, hp1⟩
  have r0 := wf64 hp0
  have r1 := wf64 hp1
  refine Ev.rounds (g := fun k => bramblelaw01_TextPoints.f k s a p.f0 p.f1) ?_
  unfold bramblelaw01_TextPoints.f
  refine Ev.bind (pointAt s hs a) (Ev.bind (ref_point s hs a) ?_)
  have hoff : text_Offset.f s p.f0 p.f1 = some (offV (rowsFrom s.data.toList (s.size + 1) 0) (rowsFrom s.data.toList (s.size + 1) 0).length p.f0 p.f1) := by
    unfold text_Offset.f
    rw [if_pos hs]
  have href : Ev (fun k => brambleref01_Offset.f k s p.f0 p.f1) (offV (rowsFrom s.data.toList (s.size + 1) 0) (rowsFrom s.data.toList (s.size + 1) 0).length p.f0 p.f1) := by
    have := ref_offset s hs p.f0 p.f1 r0.1 r0.2 r1.1 r1.2 s.size (s.size + 1) 0 0 0 (by omega) (Nat.le_refl _) (Nat.le_refl _) (by omega) (by simp)
    simpa [brambleref01_Offset.f] using this
  have herr := offV_err (rowsFrom s.data.toList (s.size + 1) 0) (rowsFrom s.data.toList (s.size + 1) 0).length p.f0 p.f1
  have hback := fun c => there_back s p.f0 p.f1 c
  generalize offV (rowsFrom s.data.toList (s.size + 1) 0) (rowsFrom s.data.toList (s.size + 1) 0).length p.f0 p.f1 = o at hoff href herr hback
  rw [hoff]
  simp only [Option.bind_some]
  refine Ev.bind href ?_
  have aw : Ev (fun k => (bramblelaw01_awake.f k).bind fun t => some t) true := Ev.bind awake_Ev (Ev.now true)
  simp only [beq_self_eq_true, Bool.not_true, Bool.or_false, Bool.false_eq_true, if_false, if_true, bne_self_eq_false]
  by_cases c : o.2 = 0
  · have hb := hback o.1 (by rw [← c])
    refine Ev.step (f := _) (fun k => by simp only [bramblelaw01_TextPoints.j0, Bool.false_eq_true, if_false]; rw [if_pos c]) ?_
    have hq := pointAt s hs o.1
    rw [hb] at hq
    refine Ev.bind hq ?_
    simp only [beq_self_eq_true, Bool.not_true, Bool.or_false, Bool.false_eq_true, if_false, if_true]
    exact aw
  · refine Ev.step (f := _) (fun k => by simp only [bramblelaw01_TextPoints.j0, Bool.false_eq_true, if_false]; rw [if_neg c]) aw

end Go.Proofs.Ytiipngfhdaceeaa.Pure
