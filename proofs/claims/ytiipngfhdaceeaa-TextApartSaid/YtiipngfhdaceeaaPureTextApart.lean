/- TextApart: two edits that do not touch do the same in either order, the second one moved by the first. No condition. -/
import Derived.Test.YtiipngfhdaceeaaStaTextApart
namespace Go.Proofs.Ytiipngfhdaceeaa.Pure
set_option linter.unusedVariables false
set_option linter.unusedSimpArgs false
open Go.RowKit Go.Proofs.Ytiipngfhdaceeaa.PTextApart Go.Proofs.YtiipngfhdaceeaaW.PrintWords Go.Proofs.YtiipngfhdaceeaaW.PrintLast Go.Proofs.YtiipngfhdaceeaaW.PrintMore

theorem w64 {x : Int} (h1 : -9223372036854775808 ≤ x) (h2 : x ≤ 9223372036854775807) : wrap64 x = x := by
  unfold wrap64
  omega
theorem wf64 {x : Int} (h : (Lit.int .i64 x).wf = true) : -9223372036854775808 ≤ x ∧ x ≤ 9223372036854775807 := by
  simp only [Lit.wf, Bool.and_eq_true, decide_eq_true_eq] at h
  have e1 : IntKind.i64.min = -9223372036854775808 := rfl
  have e2 : IntKind.i64.max = 9223372036854775807 := rfl
  omega
theorem evAt {α : Type} {g : Nat → Option α} {r : α} (h : ∀ k, g (k + 1) = some r) : Ev g r := ⟨1, fun k hk => by obtain ⟨m, rfl⟩ : ∃ m, k = m + 1 := ⟨k - 1, by omega⟩; exact h m⟩
theorem ba_ext {a b : ByteArray} (h : a.data.toList = b.data.toList) : a = b := by
  obtain ⟨⟨a⟩⟩ := a
  obtain ⟨⟨b⟩⟩ := b
  simpa using h
theorem ba_len (a : ByteArray) : a.data.toList.length = a.size := by rw [Array.length_toList]; rfl
theorem ba_append (a b : ByteArray) : (a ++ b).data.toList = a.data.toList ++ b.data.toList := by rw [ByteArray.data_append, Array.toList_append]
theorem ba_extract (a : ByteArray) (i j : Nat) : (a.extract i j).data.toList = (a.data.toList.take j).drop i := by
  rw [ByteArray.data_extract, Array.toList_extract, List.extract_eq_take_drop, List.drop_take]
theorem ba_get (a : ByteArray) (i : Nat) (h : i < a.size) : a[i]'h = a.data.toList[i]'(by rw [ba_len]; exact h) := rfl
theorem ba_bt (a : ByteArray) (i : Int) (h0 : 0 ≤ i) (h : i < a.size) : bt a i = ((a.data.toList[i.toNat]'(by rw [ba_len]; omega)).toNat : Int) := by
  unfold bt
  rw [dif_pos (by omega), ba_get]
theorem ba_bt_eq (a b : ByteArray) (i j : Int) (h0 : 0 ≤ i) (h1 : i < a.size) (h2 : 0 ≤ j) (h3 : j < b.size) : bt a i = bt b j ↔ a.data.toList[i.toNat]? = b.data.toList[j.toNat]? := by
  rw [ba_bt a i h0 h1, ba_bt b j h2 h3, List.getElem?_eq_getElem (by rw [ba_len]; omega), List.getElem?_eq_getElem (by rw [ba_len]; omega), Option.some.injEq, Int.ofNat_inj]
  exact UInt8.toNat_inj

def fitV (n at_ old tn : Int) : Int := if at_ < 0 ∨ old < 0 ∨ at_ > n ∨ old > n - at_ then 13 else if n - old + tn > 65536 then 12 else 0
theorem fitV_zero {n at_ old tn : Int} (h : fitV n at_ old tn = 0) : 0 ≤ at_ ∧ 0 ≤ old ∧ at_ ≤ n ∧ old ≤ n - at_ ∧ n - old + tn ≤ 65536 := by
  unfold fitV at h
  split at h
  · omega
  · split at h <;> omega
theorem fitV_of {n at_ old tn : Int} (h : 0 ≤ at_ ∧ 0 ≤ old ∧ at_ ≤ n ∧ old ≤ n - at_ ∧ n - old + tn ≤ 65536) : fitV n at_ old tn = 0 := by
  unfold fitV
  rw [if_neg (by omega), if_neg (by omega)]
def applyV (s : ByteArray) (at_ old : Int) (t : ByteArray) : ByteArray × Int :=
  if fitV s.size at_ old t.size = 0 then ((s.extract 0 at_.toNat ++ t) ++ s.extract (at_ + old).toNat s.size, 0) else (s, fitV s.size at_ old t.size)
theorem applyV_list {s : ByteArray} {at_ old : Int} {t : ByteArray} (h : fitV s.size at_ old t.size = 0) :
    (applyV s at_ old t).1.data.toList = s.data.toList.take at_.toNat ++ t.data.toList ++ s.data.toList.drop (at_ + old).toNat := by
  unfold applyV
  rw [if_pos h]
  simp only [ba_append, ba_extract, List.drop_zero]
  rw [List.take_of_length_le (l := s.data.toList) (i := s.size) (by rw [ba_len]; exact Nat.le_refl _)]
theorem applyV_size {s : ByteArray} {at_ old : Int} {t : ByteArray} (h : fitV s.size at_ old t.size = 0) :
    ((applyV s at_ old t).1.size : Int) = s.size - old + t.size := by
  obtain ⟨h1, h2, h3, h4, h5⟩ := fitV_zero h
  have := congrArg List.length (applyV_list h)
  rw [ba_len] at this
  rw [this]
  simp only [List.length_append, List.length_take, List.length_drop, ba_len]
  omega
theorem fit_eq (k : Nat) (s : ByteArray) (at_ old : Int) (t : ByteArray) (hs : s.size ≤ 140737488351232) (ht : t.size ≤ 140737488351232) :
    text_Fit.f (k + 1) s at_ old t = some (fitV s.size at_ old t.size) := by
  unfold text_Fit.f fitV
  simp only [text_Fit.j0]
  by_cases h1 : at_ < 0
  · simp [h1]
  by_cases h2 : old < 0
  · simp [h1, h2]
  by_cases h3 : at_ > s.size
  · simp [h1, h2, h3]
  rw [if_neg h1, if_neg h2, if_neg h3, w64 (x := s.size - at_) (by omega) (by omega)]
  by_cases h4 : old > s.size - at_
  · simp [h4]
  · have e : decide (old > s.size - at_) = false := by simpa using h4
    rw [e, w64 (x := s.size - old) (by omega) (by omega), w64 (by omega) (by omega), if_neg (by simp), if_neg (by omega : ¬ (at_ < 0 ∨ old < 0 ∨ at_ > s.size ∨ old > s.size - at_))]
    split <;> simp_all

theorem apply_eq (k : Nat) (s : ByteArray) (at_ old : Int) (t : ByteArray) (hs : s.size ≤ 140737488351232) (ht : t.size ≤ 140737488351232) :
    text_Apply.f (k + 1) s at_ old t = some (applyV s at_ old t) := by
  unfold text_Apply.f applyV
  rw [fit_eq k s at_ old t hs ht]
  simp only [Option.bind_some]
  by_cases h : fitV s.size at_ old t.size = 0
  · rw [if_pos h, if_pos h]
    obtain ⟨h1, h2, h3, h4, h5⟩ := fitV_zero h
    rw [w64 (x := at_ + old) (by omega) (by omega), if_pos h1, if_pos h3, if_pos, if_pos (by omega), if_pos (by omega), if_pos]
    · simp only [ByteArray.size_append, ByteArray.size_extract]
      omega
    · simp only [ByteArray.size_extract]
      omega
  · rw [if_neg h, if_neg h]
theorem fit_eqR (k : Nat) (s : ByteArray) (at_ old : Int) (t : ByteArray) (hs : s.size ≤ 140737488351232) (ht : t.size ≤ 140737488351232) :
    brambleref01_Fit.f (k + 1) s at_ old t = some (fitV s.size at_ old t.size) := by
  unfold brambleref01_Fit.f fitV
  simp only [brambleref01_Fit.j0]
  by_cases h1 : at_ < 0
  · simp [h1]
  by_cases h2 : old < 0
  · simp [h1, h2]
  by_cases h3 : at_ > s.size
  · simp [h1, h2, h3]
  rw [if_neg h1, if_neg h2, if_neg h3, w64 (x := s.size - at_) (by omega) (by omega)]
  by_cases h4 : old > s.size - at_
  · simp [h4]
  · have e : decide (old > s.size - at_) = false := by simpa using h4
    rw [e, w64 (x := s.size - old) (by omega) (by omega), w64 (by omega) (by omega), if_neg (by simp), if_neg (by omega : ¬ (at_ < 0 ∨ old < 0 ∨ at_ > s.size ∨ old > s.size - at_))]
    split <;> simp_all

def allV (s t : ByteArray) : List S23 → ByteArray × Int
  | [] => (t, 0)
  | e :: r => if (applyV t e.f0 e.f1 e.f2).2 = 0 then allV s (applyV t e.f0 e.f1 e.f2).1 r else (s, (applyV t e.f0 e.f1 e.f2).2)
theorem rd_drop (l : List S23) (i : Nat) (h : i < l.length) : l.drop i = rd_T23 l i :: l.drop (i + 1) := by
  rw [List.drop_eq_getElem_cons h]
  unfold rd_T23
  rw [List.getD_eq_getElem?_getD, Int.toNat_natCast, List.getElem?_eq_getElem h]
  rfl
theorem rd_mem (l : List S23) (i : Nat) (h : i < l.length) : rd_T23 l i ∈ l := by
  unfold rd_T23
  rw [List.getD_eq_getElem?_getD, Int.toNat_natCast, List.getElem?_eq_getElem h]
  exact List.getElem_mem h
theorem applyV_bound {s : ByteArray} {at_ old : Int} {t : ByteArray} (hs : s.size ≤ 140737488351232) : (applyV s at_ old t).1.size ≤ 140737488351232 := by
  by_cases h : fitV s.size at_ old t.size = 0
  · have := applyV_size h
    obtain ⟨h1, h2, h3, h4, h5⟩ := fitV_zero h
    omega
  · have : (applyV s at_ old t).1 = s := by unfold applyV; rw [if_neg h]
    rw [this]
    exact hs
theorem all_loop (s : ByteArray) (l : List S23) (hl : l.length ≤ 140737488351232) (hb : ∀ e ∈ l, e.f2.size ≤ 140737488351232) (d : Nat) :
    ∀ (i : Nat) (t : ByteArray), i + d = l.length → t.size ≤ 140737488351232 → Ev (fun k => text_All.l0 k s t l (l.length : Int) i) (allV s t (l.drop i)) := by
  induction d with
  | zero =>
    intro i t hi ht
    refine evAt fun k => ?_
    simp only [text_All.l0]
    rw [if_neg (by omega), List.drop_eq_nil_of_le (by omega)]
    rfl
  | succ d ih =>
    intro i t hi ht
    have w2 : wrap64 ((i : Int) + 1) = ((i + 1 : Nat) : Int) := by rw [w64 (by omega) (by omega)]; omega
    rw [rd_drop l i (by omega)]
    unfold allV
    have ha : Ev (fun k => text_Apply.f k t (rd_T23 l i).f0 (rd_T23 l i).f1 (rd_T23 l i).f2) (applyV t (rd_T23 l i).f0 (rd_T23 l i).f1 (rd_T23 l i).f2) := evAt fun k => apply_eq k _ _ _ _ ht (hb _ (rd_mem l i (by omega)))
    have hr := ih (i + 1) (applyV t (rd_T23 l i).f0 (rd_T23 l i).f1 (rd_T23 l i).f2).1 (by omega) (applyV_bound ht)
    refine Ev.step (f := fun k => (text_Apply.f k t (rd_T23 l i).f0 (rd_T23 l i).f1 (rd_T23 l i).f2).bind fun bt => if bt.2 = 0 then text_All.l0 k s bt.1 l (l.length : Int) ((i + 1 : Nat) : Int) else some (s, bt.2)) (fun k => ?_) (Ev.bind ha ?_)
    · simp only [text_All.l0]
      rw [if_pos (by omega), if_pos (by omega), if_pos (by omega), w2]
    · by_cases c : (applyV t (rd_T23 l i).f0 (rd_T23 l i).f1 (rd_T23 l i).f2).2 = 0
      · simp only [if_pos c]
        exact hr
      · simp only [if_neg c]
        exact Ev.now _
theorem all_ev (s : ByteArray) (l : List S23) (hs : s.size ≤ 140737488351232) (hl : l.length ≤ 140737488351232) (hb : ∀ e ∈ l, e.f2.size ≤ 140737488351232) : Ev (fun k => text_All.f k s l) (allV s s l) :=
  all_loop s l hl hb l.length 0 s (Nat.zero_add _) hs
theorem awake_Ev : Ev (fun k => bramblelaw01_awake.f k) true := Ev.of (k := 8) (fun k => bramblelaw01_awake.mono k) (by decide +kernel)
theorem map_ev (at_ old : Int) (t : ByteArray) (i : Int) (ht : t.size ≤ 140737488351232) (h0 : 0 ≤ at_) (h1 : 0 ≤ old) (h2 : at_ ≤ 140737488351232) (h3 : old ≤ 140737488351232) (hi : at_ + old ≤ i) (hi2 : i ≤ 140737488351232) :
    Ev (fun k => text_Map.f k at_ old t i) (i - old + t.size, true) := by
  refine evAt fun k => ?_
  unfold text_Map.f
  rw [if_neg (by omega), decide_eq_false (by omega)]
  simp only [text_Map.j0]
  rw [if_neg (by simp), w64 (x := i - at_) (by omega) (by omega), w64 (x := i - old) (by omega) (by omega), w64 (by omega) (by omega), if_neg (by omega), if_neg (by omega)]
theorem apart (s : ByteArray) (a0 a1 : Int) (a2 : ByteArray) (b0 b1 : Int) (b2 : ByteArray) (hA : fitV s.size a0 a1 a2.size = 0) (hB : fitV s.size b0 b1 b2.size = 0) (hle : a0 + a1 ≤ b0)
    (hX : (allV s s [⟨a0, a1, a2⟩, ⟨b0 - a1 + a2.size, b1, b2⟩]).2 = 0) (hY : (allV s s [⟨b0, b1, b2⟩, ⟨a0, a1, a2⟩]).2 = 0) :
    (allV s s [⟨a0, a1, a2⟩, ⟨b0 - a1 + a2.size, b1, b2⟩]).1 = (allV s s [⟨b0, b1, b2⟩, ⟨a0, a1, a2⟩]).1 := by
  obtain ⟨h1, h2, h3, h4, h5⟩ := fitV_zero hA
  obtain ⟨g1, g2, g3, g4, g5⟩ := fitV_zero hB
  have eA : (applyV s a0 a1 a2).2 = 0 := by unfold applyV; rw [if_pos hA]
  have eB : (applyV s b0 b1 b2).2 = 0 := by unfold applyV; rw [if_pos hB]
  simp only [allV, eA, eB, if_true] at hX hY ⊢
  have second : ∀ (t : ByteArray) (x0 x1 : Int) (x2 : ByteArray), (if (applyV t x0 x1 x2).2 = 0 then ((applyV t x0 x1 x2).1, (0 : Int)) else (s, (applyV t x0 x1 x2).2)).2 = 0 → fitV t.size x0 x1 x2.size = 0 := by
    intro t x0 x1 x2 h
    by_cases c : fitV t.size x0 x1 x2.size = 0
    · exact c
    · have e : (applyV t x0 x1 x2).2 = fitV t.size x0 x1 x2.size := by unfold applyV; rw [if_neg c]
      rw [e, if_neg c] at h
      exact absurd h c
  have fX := second _ _ _ _ hX
  have fY := second _ _ _ _ hY
  have eX : (applyV (applyV s a0 a1 a2).1 (b0 - a1 + a2.size) b1 b2).2 = 0 := by unfold applyV at fX ⊢; rw [if_pos fX]
  have eY : (applyV (applyV s b0 b1 b2).1 a0 a1 a2).2 = 0 := by unfold applyV at fY ⊢; rw [if_pos fY]
  rw [if_pos eX, if_pos eY]
  apply ba_ext
  show (applyV (applyV s a0 a1 a2).1 (b0 - a1 + a2.size) b1 b2).1.data.toList = (applyV (applyV s b0 b1 b2).1 a0 a1 a2).1.data.toList
  rw [applyV_list fX, applyV_list fY, applyV_list hA, applyV_list hB]
  generalize hL : s.data.toList = L at *
  have hn : (L.length : Int) = s.size := by rw [← hL, ba_len]
  generalize hA2 : a2.data.toList = A
  generalize hB2 : b2.data.toList = B
  have lA : A.length = a2.size := by rw [← hA2, ba_len]
  obtain ⟨p, hp⟩ : ∃ p : Nat, a0 = p := ⟨a0.toNat, by omega⟩
  obtain ⟨q, hq⟩ : ∃ q : Nat, a0 + a1 = q := ⟨(a0 + a1).toNat, by omega⟩
  obtain ⟨m, hm⟩ : ∃ m : Nat, b0 = q + m := ⟨(b0 - q).toNat, by omega⟩
  obtain ⟨o, ho⟩ : ∃ o : Nat, b1 = o := ⟨b1.toNat, by omega⟩
  have t1 : a0.toNat = p := by omega
  have t2 : (a0 + a1).toNat = q := by omega
  have t3 : (b0 - a1 + (a2.size : Int)).toNat = p + A.length + m := by omega
  have t4 : (b0 - a1 + (a2.size : Int) + b1).toNat = p + A.length + (m + o) := by omega
  have t5 : b0.toNat = q + m := by omega
  have t6 : (b0 + b1).toNat = q + (m + o) := by omega
  rw [t1, t2, t3, t4, t5, t6]
  have l1 : (L.take p).length = p := by rw [List.length_take]; omega
  have l2 : (L.take p ++ A).length = p + A.length := by rw [List.length_append, l1]
  have l3 : (L.take (q + m)).length = q + m := by rw [List.length_take]; omega
  have x1 : List.take (p + A.length + m) (L.take p ++ A ++ L.drop q) = L.take p ++ A ++ (L.drop q).take m := by
    rw [List.take_append, l2, List.take_of_length_le (by rw [l2]; omega)]
    congr 2
    omega
  have x2 : List.drop (p + A.length + (m + o)) (L.take p ++ A ++ L.drop q) = L.drop (q + (m + o)) := by
    rw [List.drop_append, l2, List.drop_eq_nil_of_le (by rw [l2]; omega), List.nil_append, List.drop_drop]
    congr 1
    omega
  have x3 : List.take p (L.take (q + m) ++ B ++ L.drop (q + (m + o))) = L.take p := by
    rw [List.append_assoc, List.take_append_of_le_length (by rw [l3]; omega), List.take_take, Nat.min_eq_left (by omega)]
  have x4 : List.drop q (L.take (q + m) ++ B ++ L.drop (q + (m + o))) = (L.drop q).take m ++ B ++ L.drop (q + (m + o)) := by
    rw [List.append_assoc, List.drop_append_of_le_length (by rw [l3]; omega), List.drop_take]
    simp only [Nat.add_sub_cancel_left, List.append_assoc]
  rw [x1, x2, x3, x4]
  simp only [List.append_assoc]
theorem TextApart : bramblelaw01_TextApart.Pure := by
  intro s a b hs ⟨ha0, ha1, ha2⟩ ⟨hb0, hb1, hb2⟩
  have r0 := wf64 ha0
  have r1 := wf64 ha1
  have r2 := wf64 hb0
  have r3 := wf64 hb1
  have aw : Ev (fun k => (bramblelaw01_awake.f k).bind fun t => some t) true := Ev.bind awake_Ev (Ev.now true)
  have hT : Ev (fun k => bramblelaw01_TextApart.j0 k s true a.f0 a.f1 a.f2 b.f0 b.f1 b.f2) true :=
    Ev.step (fun k => by simp only [bramblelaw01_TextApart.j0, if_true]) aw
  refine Ev.rounds (g := fun k => bramblelaw01_TextApart.f k s a.f0 a.f1 a.f2 b.f0 b.f1 b.f2) ?_
  unfold bramblelaw01_TextApart.f
  refine Ev.bind (evAt fun k => fit_eqR k s a.f0 a.f1 a.f2 hs ha2) ?_
  by_cases hA : fitV s.size a.f0 a.f1 a.f2.size = 0
  · simp only [if_pos hA]
    refine Ev.bind (evAt fun k => fit_eqR k s b.f0 b.f1 b.f2 hs hb2) ?_
    by_cases hB : fitV s.size b.f0 b.f1 b.f2.size = 0
    · simp only [if_pos hB]
      obtain ⟨h1, h2, h3, h4, h5⟩ := fitV_zero hA
      obtain ⟨g1, g2, g3, g4, g5⟩ := fitV_zero hB
      rw [w64 (x := a.f0 + a.f1) (by omega) (by omega)]
      by_cases hle : a.f0 + a.f1 > b.f0
      · simp only [hle, decide_true]
        exact hT
      · have hf : decide (a.f0 + a.f1 > b.f0) = false := decide_eq_false hle
        simp only [hf]
        refine Ev.step (f := _) (fun k => by simp only [bramblelaw01_TextApart.j0, Bool.false_eq_true, if_false]; rfl) ?_
        refine Ev.bind (map_ev a.f0 a.f1 a.f2 b.f0 ha2 h1 h2 (by omega) (by omega) (by omega) (by omega)) ?_
        simp only [if_true]
        have hbd : ∀ (x y : S23), x.f2.size ≤ 140737488351232 → y.f2.size ≤ 140737488351232 → ∀ e ∈ [x, y], e.f2.size ≤ 140737488351232 := by
          intro x y hx hy e he
          simp only [List.mem_cons, List.not_mem_nil, or_false] at he
          rcases he with rfl | rfl
          · exact hx
          · exact hy
        refine Ev.bind (all_ev s _ hs (by simp) (hbd _ _ ha2 hb2)) (Ev.bind (all_ev s _ hs (by simp) (hbd _ _ hb2 ha2)) ?_)
        by_cases c1 : (allV s s [(⟨a.f0, a.f1, a.f2⟩ : S23), ⟨b.f0 - a.f1 + a.f2.size, b.f1, b.f2⟩]).2 = 0
        · simp only [if_pos c1]
          by_cases c2 : (allV s s [(⟨b.f0, b.f1, b.f2⟩ : S23), ⟨a.f0, a.f1, a.f2⟩]).2 = 0
          · have e := apart s a.f0 a.f1 a.f2 b.f0 b.f1 b.f2 hA hB (by omega) c1 c2
            simp only [if_pos c2, e, if_true]
            exact aw
          · simp only [if_neg c2]
            exact aw
        · simp only [if_neg c1]
          exact aw
    · simp only [if_neg hB]
      exact hT
  · simp only [if_neg hA]
    exact hT

end Go.Proofs.Ytiipngfhdaceeaa.Pure
