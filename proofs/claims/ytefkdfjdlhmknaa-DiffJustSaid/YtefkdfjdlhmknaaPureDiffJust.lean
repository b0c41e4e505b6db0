/- DiffJust: a byte stands in Changed just when it was put in or its marks are others; and a byte that was there is that byte. No condition. -/
import Derived.Test.YtefkdfjdlhmknaaStaDiffJust
namespace Go.Proofs.Ytefkdfjdlhmknaa.Pure
set_option linter.unusedVariables false
set_option linter.unusedSimpArgs false
open Go.RowKit Go.Proofs.Ytefkdfjdlhmknaa.PDiffJust Go.Proofs.YtefkdfjdlhmknaaW.PrintWords Go.Proofs.YtefkdfjdlhmknaaW.PrintLast Go.Proofs.YtefkdfjdlhmknaaW.PrintMore

theorem w64 {x : Int} (h1 : -9223372036854775808 ≤ x) (h2 : x ≤ 9223372036854775807) : wrap64 x = x := by
  unfold wrap64
  omega
theorem wf64 {x : Int} (h : (Lit.int .i64 x).wf = true) : -9223372036854775808 ≤ x ∧ x ≤ 9223372036854775807 := by
  simp only [Lit.wf, Bool.and_eq_true, decide_eq_true_eq] at h
  have e1 : IntKind.i64.min = -9223372036854775808 := rfl
  have e2 : IntKind.i64.max = 9223372036854775807 := rfl
  omega
theorem evAt {α : Type} {g : Nat → Option α} {r : α} (h : ∀ k, g (k + 1) = some r) : Ev g r := ⟨1, fun k hk => by obtain ⟨m, rfl⟩ : ∃ m, k = m + 1 := ⟨k - 1, by omega⟩; exact h m⟩
theorem ba_ext {a b : ByteArray} (h : a.data.toList = b.data.toList) : a = b := by
  obtain ⟨⟨a⟩⟩ := a
  obtain ⟨⟨b⟩⟩ := b
  simpa using h
theorem ba_len (a : ByteArray) : a.data.toList.length = a.size := by rw [Array.length_toList]; rfl
theorem ba_append (a b : ByteArray) : (a ++ b).data.toList = a.data.toList ++ b.data.toList := by rw [ByteArray.data_append, Array.toList_append]
theorem ba_extract (a : ByteArray) (i j : Nat) : (a.extract i j).data.toList = (a.data.toList.take j).drop i := by
  rw [ByteArray.data_extract, Array.toList_extract, List.extract_eq_take_drop, List.drop_take]
theorem ba_get (a : ByteArray) (i : Nat) (h : i < a.size) : a[i]'h = a.data.toList[i]'(by rw [ba_len]; exact h) := rfl
theorem ba_bt (a : ByteArray) (i : Int) (h0 : 0 ≤ i) (h : i < a.size) : bt a i = ((a.data.toList[i.toNat]'(by rw [ba_len]; omega)).toNat : Int) := by
  unfold bt
  rw [dif_pos (by omega), ba_get]
theorem ba_bt_eq (a b : ByteArray) (i j : Int) (h0 : 0 ≤ i) (h1 : i < a.size) (h2 : 0 ≤ j) (h3 : j < b.size) : bt a i = bt b j ↔ a.data.toList[i.toNat]? = b.data.toList[j.toNat]? := by
  rw [ba_bt a i h0 h1, ba_bt b j h2 h3, List.getElem?_eq_getElem (by rw [ba_len]; omega), List.getElem?_eq_getElem (by rw [ba_len]; omega), Option.some.injEq, Int.ofNat_inj]
  exact UInt8.toNat_inj

def fitV (n at_ old tn : Int) : Int := if at_ < 0 ∨ old < 0 ∨ at_ > n ∨ old > n - at_ then 13 else if n - old + tn > 65536 then 12 else 0
theorem fitV_zero {n at_ old tn : Int} (h : fitV n at_ old tn = 0) : 0 ≤ at_ ∧ 0 ≤ old ∧ at_ ≤ n ∧ old ≤ n - at_ ∧ n - old + tn ≤ 65536 := by
  unfold fitV at h
  split at h
  · omega
  · split at h <;> omega
theorem fitV_of {n at_ old tn : Int} (h : 0 ≤ at_ ∧ 0 ≤ old ∧ at_ ≤ n ∧ old ≤ n - at_ ∧ n - old + tn ≤ 65536) : fitV n at_ old tn = 0 := by
  unfold fitV
  rw [if_neg (by omega), if_neg (by omega)]
def applyV (s : ByteArray) (at_ old : Int) (t : ByteArray) : ByteArray × Int :=
  if fitV s.size at_ old t.size = 0 then ((s.extract 0 at_.toNat ++ t) ++ s.extract (at_ + old).toNat s.size, 0) else (s, fitV s.size at_ old t.size)
theorem applyV_list {s : ByteArray} {at_ old : Int} {t : ByteArray} (h : fitV s.size at_ old t.size = 0) :
    (applyV s at_ old t).1.data.toList = s.data.toList.take at_.toNat ++ t.data.toList ++ s.data.toList.drop (at_ + old).toNat := by
  unfold applyV
  rw [if_pos h]
  simp only [ba_append, ba_extract, List.drop_zero]
  rw [List.take_of_length_le (l := s.data.toList) (i := s.size) (by rw [ba_len]; exact Nat.le_refl _)]
theorem applyV_size {s : ByteArray} {at_ old : Int} {t : ByteArray} (h : fitV s.size at_ old t.size = 0) :
    ((applyV s at_ old t).1.size : Int) = s.size - old + t.size := by
  obtain ⟨h1, h2, h3, h4, h5⟩ := fitV_zero h
  have := congrArg List.length (applyV_list h)
  rw [ba_len] at this
  rw [this]
  simp only [List.length_append, List.length_take, List.length_drop, ba_len]
  omega
theorem fit_eqR (k : Nat) (s : ByteArray) (at_ old : Int) (t : ByteArray) (hs : s.size ≤ 140737488351232) (ht : t.size ≤ 140737488351232) :
    brambleref01_Fit.f (k + 1) s at_ old t = some (fitV s.size at_ old t.size) := by
  unfold brambleref01_Fit.f fitV
  simp only [brambleref01_Fit.j0]
  by_cases h1 : at_ < 0
  · simp [h1]
  by_cases h2 : old < 0
  · simp [h1, h2]
  by_cases h3 : at_ > s.size
  · simp [h1, h2, h3]
  rw [if_neg h1, if_neg h2, if_neg h3, w64 (x := s.size - at_) (by omega) (by omega)]
  by_cases h4 : old > s.size - at_
  · simp [h4]
  · have e : decide (old > s.size - at_) = false := by simpa using h4
    rw [e, w64 (x := s.size - old) (by omega) (by omega), w64 (by omega) (by omega), if_neg (by simp), if_neg (by omega : ¬ (at_ < 0 ∨ old < 0 ∨ at_ > s.size ∨ old > s.size - at_))]
    split <;> simp_all

theorem apply_eqR (k : Nat) (s : ByteArray) (at_ old : Int) (t : ByteArray) (hs : s.size ≤ 140737488351232) (ht : t.size ≤ 140737488351232) :
    brambleref01_Apply.f (k + 1) s at_ old t = some (applyV s at_ old t) := by
  unfold brambleref01_Apply.f applyV
  rw [fit_eqR k s at_ old t hs ht]
  simp only [Option.bind_some]
  by_cases h : fitV s.size at_ old t.size = 0
  · rw [if_pos h, if_pos h]
    obtain ⟨h1, h2, h3, h4, h5⟩ := fitV_zero h
    rw [w64 (x := at_ + old) (by omega) (by omega), if_pos h1, if_pos h3, if_pos, if_pos (by omega), if_pos (by omega), if_pos]
    · simp only [ByteArray.size_append, ByteArray.size_extract]
      omega
    · simp only [ByteArray.size_extract]
      omega
  · rw [if_neg h, if_neg h]
def allV (s t : ByteArray) : List S45 → ByteArray × Int
  | [] => (t, 0)
  | e :: r => if (applyV t e.f0 e.f1 e.f2).2 = 0 then allV s (applyV t e.f0 e.f1 e.f2).1 r else (s, (applyV t e.f0 e.f1 e.f2).2)
theorem rd_drop (l : List S45) (i : Nat) (h : i < l.length) : l.drop i = rd_T45 l i :: l.drop (i + 1) := by
  rw [List.drop_eq_getElem_cons h]
  unfold rd_T45
  rw [List.getD_eq_getElem?_getD, Int.toNat_natCast, List.getElem?_eq_getElem h]
  rfl
theorem rd_mem (l : List S45) (i : Nat) (h : i < l.length) : rd_T45 l i ∈ l := by
  unfold rd_T45
  rw [List.getD_eq_getElem?_getD, Int.toNat_natCast, List.getElem?_eq_getElem h]
  exact List.getElem_mem h
theorem applyV_bound {s : ByteArray} {at_ old : Int} {t : ByteArray} (hs : s.size ≤ 140737488351232) : (applyV s at_ old t).1.size ≤ 140737488351232 := by
  by_cases h : fitV s.size at_ old t.size = 0
  · have := applyV_size h
    obtain ⟨h1, h2, h3, h4, h5⟩ := fitV_zero h
    omega
  · have : (applyV s at_ old t).1 = s := by unfold applyV; rw [if_neg h]
    rw [this]
    exact hs
theorem evNow {α : Type} (r : α) : Ev (fun _ => some r) r := ⟨0, fun _ _ => rfl⟩
theorem allr_loop (s : ByteArray) (l : List S45) (hl : l.length ≤ 140737488351232) (hb : ∀ e ∈ l, e.f2.size ≤ 140737488351232) (d : Nat) :
    ∀ (i : Nat) (t : ByteArray), i + d = l.length → t.size ≤ 140737488351232 → Ev (fun k => brambleref01_All.l0 k s l t i) (allV s t (l.drop i)) := by
  induction d with
  | zero =>
    intro i t hi ht
    refine evAt fun k => ?_
    simp only [brambleref01_All.l0]
    rw [if_neg (by omega), List.drop_eq_nil_of_le (by omega)]
    rfl
  | succ d ih =>
    intro i t hi ht
    have w2 : wrap64 ((i : Int) + 1) = ((i + 1 : Nat) : Int) := by rw [w64 (by omega) (by omega)]; omega
    rw [rd_drop l i (by omega)]
    unfold allV
    have ha : Ev (fun k => brambleref01_Apply.f k t (rd_T45 l i).f0 (rd_T45 l i).f1 (rd_T45 l i).f2) (applyV t (rd_T45 l i).f0 (rd_T45 l i).f1 (rd_T45 l i).f2) := evAt fun k => apply_eqR k _ _ _ _ ht (hb _ (rd_mem l i (by omega)))
    have hr := ih (i + 1) (applyV t (rd_T45 l i).f0 (rd_T45 l i).f1 (rd_T45 l i).f2).1 (by omega) (applyV_bound ht)
    refine Ev.step (f := fun k => (brambleref01_Apply.f k t (rd_T45 l i).f0 (rd_T45 l i).f1 (rd_T45 l i).f2).bind fun bt => if bt.2 = 0 then brambleref01_All.l0 k s l bt.1 ((i + 1 : Nat) : Int) else some (s, bt.2)) (fun k => ?_) (Ev.bind ha ?_)
    · simp only [brambleref01_All.l0]
      rw [if_pos (by omega), if_pos (by omega), w2]
    · by_cases c : (applyV t (rd_T45 l i).f0 (rd_T45 l i).f1 (rd_T45 l i).f2).2 = 0
      · simp only [if_pos c]
        exact hr
      · simp only [if_neg c]
        exact evNow _
theorem allr_ev (s : ByteArray) (l : List S45) (hs : s.size ≤ 140737488351232) (hl : l.length ≤ 140737488351232) (hb : ∀ e ∈ l, e.f2.size ≤ 140737488351232) : Ev (fun k => brambleref01_All.f k s l) (allV s s l) :=
  allr_loop s l hl hb l.length 0 s (Nat.zero_add _) hs
/-! ### Rows of ranges in normal form -/
def cv (l : List S34) (i : Int) : Prop := ∃ r ∈ l, r.f0 ≤ i ∧ i < r.f1
theorem cv_nil (i : Int) : ¬ cv [] i := by rintro ⟨r, h, _⟩; cases h
theorem cv_cons (r : S34) (t : List S34) (i : Int) : cv (r :: t) i ↔ (r.f0 ≤ i ∧ i < r.f1) ∨ cv t i := by
  constructor
  · rintro ⟨q, h, hq⟩
    rcases List.mem_cons.1 h with rfl | h
    · exact .inl hq
    · exact .inr ⟨q, h, hq⟩
  · rintro (h | ⟨q, h, hq⟩)
    · exact ⟨r, by simp, h⟩
    · exact ⟨q, by simp [h], hq⟩
theorem cv_app (s t : List S34) (i : Int) : cv (s ++ t) i ↔ cv s i ∨ cv t i := by
  induction s with
  | nil => simp [cv_nil]
  | cons r s ih => rw [List.cons_append, cv_cons, cv_cons, ih, or_assoc]
theorem cv_mem {s t : List S34} (h : ∀ r, r ∈ s ↔ r ∈ t) (i : Int) : cv s i ↔ cv t i := by
  constructor
  · rintro ⟨r, hr, hi⟩; exact ⟨r, (h r).1 hr, hi⟩
  · rintro ⟨r, hr, hi⟩; exact ⟨r, (h r).2 hr, hi⟩
theorem cv_rev (s : List S34) (i : Int) : cv s.reverse i ↔ cv s i := cv_mem (fun r => List.mem_reverse) i
/-- Every range holds a byte, none lies before 0. -/
def Pos (l : List S34) : Prop := ∀ r ∈ l, 0 ≤ r.f0 ∧ r.f0 < r.f1
def NF (l : List S34) : Prop := Pos l ∧ l.Pairwise (fun a b => a.f1 < b.f0)
theorem nf_nil : NF [] := ⟨(fun _ h => nomatch h), List.Pairwise.nil⟩
theorem nf_tail {r : S34} {t : List S34} (h : NF (r :: t)) : NF t := ⟨fun q hq => h.1 q (by simp [hq]), (List.pairwise_cons.1 h.2).2⟩
theorem nf_first {r : S34} {t : List S34} (h : NF (r :: t)) {i : Int} (hi : cv t i) : r.f1 < i := by
  obtain ⟨q, hq, h1, h2⟩ := hi
  have := (List.pairwise_cons.1 h.2).1 q hq
  omega
theorem nf_lo {r : S34} {t : List S34} (h : NF (r :: t)) {i : Int} (hi : cv (r :: t) i) : r.f0 ≤ i := by
  rcases (cv_cons _ _ _).1 hi with h1 | h1
  · exact h1.1
  · have := nf_first h h1
    have := h.1 r (by simp)
    omega
theorem nf_head {r : S34} {t : List S34} (h : NF (r :: t)) : cv (r :: t) r.f0 := (cv_cons _ _ _).2 (.inl (by have := h.1 r (by simp); omega))
theorem nf_ends {r q : S34} {t s : List S34} (hr : NF (r :: t)) (hq : NF (q :: s)) (h : ∀ i, cv (q :: s) i → cv (r :: t) i) (e : r.f0 = q.f0) : q.f1 ≤ r.f1 := by
  by_cases c : q.f1 ≤ r.f1
  · exact c
  · have h1 := hr.1 r (by simp)
    have h2 := hq.1 q (by simp)
    have h3 := h r.f1 ((cv_cons _ _ _).2 (.inl (by omega)))
    rcases (cv_cons _ _ _).1 h3 with h4 | h4
    · omega
    · have := nf_first hr h4
      omega
theorem nf_one : ∀ {l m : List S34}, NF l → NF m → (∀ i, cv l i ↔ cv m i) → l = m
  | [], [], _, _, _ => rfl
  | [], q :: s, _, hm, h => absurd ((h _).2 (nf_head hm)) (cv_nil _)
  | r :: t, [], hl, _, h => absurd ((h _).1 (nf_head hl)) (cv_nil _)
  | r :: t, q :: s, hl, hm, h => by
    have e0 : r.f0 = q.f0 := by
      have h1 := nf_lo hm ((h _).1 (nf_head hl))
      have h2 := nf_lo hl ((h _).2 (nf_head hm))
      omega
    have e1 : r.f1 = q.f1 := by
      have h1 := nf_ends hl hm (fun i => (h i).2) e0
      have h2 := nf_ends hm hl (fun i => (h i).1) e0.symm
      omega
    have e : r = q := by cases r; cases q; simp_all
    subst e
    congr 1
    refine nf_one (nf_tail hl) (nf_tail hm) fun i => ?_
    constructor
    · intro hi
      have h1 := nf_first hl hi
      rcases (cv_cons _ _ _).1 ((h i).1 ((cv_cons _ _ _).2 (.inr hi))) with h2 | h2
      · omega
      · exact h2
    · intro hi
      have h1 := nf_first hm hi
      rcases (cv_cons _ _ _).1 ((h i).2 ((cv_cons _ _ _).2 (.inr hi))) with h2 | h2
      · omega
      · exact h2
/-! ### The merging of a row that stands in order of its beginnings (what lies behind stands first) -/
def mstep : List S34 → S34 → List S34
  | [], r => [r]
  | q :: t, r => if r.f0 ≤ q.f1 then ⟨q.f0, mx q.f1 r.f1⟩ :: t else r :: q :: t
def NFr (l : List S34) : Prop := Pos l ∧ l.Pairwise (fun a b => b.f1 < a.f0)
theorem nfr_rev {l : List S34} (h : NFr l) : NF l.reverse := ⟨fun r hr => h.1 r (List.mem_reverse.1 hr), List.pairwise_reverse.2 h.2⟩
theorem nf_rev {l : List S34} (h : NF l) : NFr l.reverse := ⟨fun r hr => h.1 r (List.mem_reverse.1 hr), List.pairwise_reverse.2 h.2⟩
theorem mx_le (a b : Int) : a ≤ mx a b ∧ b ≤ mx a b ∧ (mx a b = a ∨ mx a b = b) := by unfold mx; split <;> omega
theorem mn_le (a b : Int) : mn a b ≤ a ∧ mn a b ≤ b ∧ (mn a b = a ∨ mn a b = b) := by unfold mn; split <;> omega
theorem mstep_nf {acc : List S34} {r : S34} (h : NFr acc) (hr : 0 ≤ r.f0 ∧ r.f0 < r.f1) (hle : ∀ q ∈ acc, q.f0 ≤ r.f0) : NFr (mstep acc r) ∧ (∀ i, cv (mstep acc r) i ↔ cv acc i ∨ (r.f0 ≤ i ∧ i < r.f1)) ∧ (∀ q ∈ mstep acc r, q.f0 ≤ r.f0) ∧ (mstep acc r).length ≤ acc.length + 1 := by
  match acc, h, hle with
  | [], h, _ => exact ⟨⟨fun q hq => by simp [mstep] at hq; rw [hq]; exact hr, by simp [mstep]⟩, fun i => by rw [mstep, cv_cons]; simp [cv_nil], by simp [mstep], by simp [mstep]⟩
  | q :: t, h, hle =>
    have hq := h.1 q (by simp)
    have hqr := hle q (by simp)
    obtain ⟨hp1, hp2⟩ := List.pairwise_cons.1 h.2
    by_cases c : r.f0 ≤ q.f1
    · rw [show mstep (q :: t) r = ⟨q.f0, mx q.f1 r.f1⟩ :: t from if_pos c]
      have hm := mx_le q.f1 r.f1
      refine ⟨⟨fun p hp => ?_, List.pairwise_cons.2 ⟨hp1, hp2⟩⟩, fun i => ?_, fun p hp => ?_, by simp⟩
      · rcases List.mem_cons.1 hp with rfl | hp
        · simp only; omega
        · exact h.1 p (by simp [hp])
      · rw [cv_cons, cv_cons]
        simp only
        constructor
        · rintro (h1 | h1)
          · by_cases c2 : i < q.f1
            · exact .inl (.inl ⟨h1.1, c2⟩)
            · exact .inr (by omega)
          · exact .inl (.inr h1)
        · rintro ((h1 | h1) | h1)
          · exact .inl (by omega)
          · exact .inr h1
          · exact .inl (by omega)
      · rcases List.mem_cons.1 hp with rfl | hp
        · exact hqr
        · exact hle p (by simp [hp])
    · rw [show mstep (q :: t) r = r :: q :: t from if_neg c]
      refine ⟨⟨fun p hp => ?_, List.pairwise_cons.2 ⟨fun p hp => ?_, h.2⟩⟩, fun i => ?_, fun p hp => ?_, by simp⟩
      · rcases List.mem_cons.1 hp with rfl | hp
        · exact hr
        · exact h.1 p hp
      · rcases List.mem_cons.1 hp with rfl | hp
        · omega
        · have := hp1 p hp
          omega
      · rw [cv_cons, or_comm]
      · rcases List.mem_cons.1 hp with rfl | hp
        · exact Int.le_refl _
        · exact hle p hp
theorem mfold_nf : ∀ (xs acc : List S34), NFr acc → Pos xs → xs.Pairwise (fun a b => a.f0 ≤ b.f0) → (∀ q ∈ acc, ∀ r ∈ xs, q.f0 ≤ r.f0) →
    NFr (xs.foldl mstep acc) ∧ (∀ i, cv (xs.foldl mstep acc) i ↔ cv acc i ∨ cv xs i) ∧ (xs.foldl mstep acc).length ≤ acc.length + xs.length
  | [], acc, h, _, _, _ => ⟨h, fun i => by simp [cv_nil], by simp⟩
  | r :: xs, acc, h, hp, hs, hle => by
    obtain ⟨h1, h2, h3, h4⟩ := mstep_nf h (hp r (by simp)) (fun q hq => hle q hq r (by simp))
    obtain ⟨hs1, hs2⟩ := List.pairwise_cons.1 hs
    obtain ⟨g1, g2, g3⟩ := mfold_nf xs (mstep acc r) h1 (fun q hq => hp q (by simp [hq])) hs2 (fun q hq p hp => by
      have := h3 q hq
      have := hs1 p hp
      omega)
    refine ⟨g1, fun i => ?_, by rw [List.foldl_cons, List.length_cons]; omega⟩
    rw [List.foldl_cons, g2, h2, cv_cons, or_assoc]
def kept (r : S34) : Bool := decide (r.f1 > mx r.f0 0)
def cut (r : S34) : S34 := ⟨mx r.f0 0, r.f1⟩
/-- What a row of ranges keeps: the bytes from 0 on, no empty range. -/
def keep (l : List S34) : List S34 := (l.filter kept).map cut
theorem keep_pos (l : List S34) : Pos (keep l) := by
  intro r hr
  obtain ⟨q, hq, rfl⟩ := List.mem_map.1 hr
  have := (List.mem_filter.1 hq).2
  have h := mx_le q.f0 0
  simp only [kept, decide_eq_true_eq] at this
  simp only [cut]
  omega
theorem keep_cv (l : List S34) (i : Int) : cv (keep l) i ↔ 0 ≤ i ∧ cv l i := by
  constructor
  · rintro ⟨r, hr, h1, h2⟩
    obtain ⟨q, hq, rfl⟩ := List.mem_map.1 hr
    have h := mx_le q.f0 0
    simp only [cut] at h1 h2
    exact ⟨by omega, q, (List.mem_filter.1 hq).1, by omega, h2⟩
  · rintro ⟨h0, r, hr, h1, h2⟩
    have h := mx_le r.f0 0
    refine ⟨cut r, List.mem_map.2 ⟨r, List.mem_filter.2 ⟨hr, ?_⟩, rfl⟩, ?_, h2⟩
    · simp only [kept, decide_eq_true_eq]; omega
    · simp only [cut]; omega
theorem keep_app (s t : List S34) : keep (s ++ t) = keep s ++ keep t := by simp [keep]
theorem keep_len (l : List S34) : (keep l).length ≤ l.length := by
  rw [keep, List.length_map]
  exact List.length_filter_le _ _
theorem keep_nf {l : List S34} (h : Pos l) : keep l = l := by
  induction l with
  | nil => rfl
  | cons r t ih =>
    have h1 := h r (by simp)
    have hm := mx_le r.f0 0
    have k : kept r = true := by simp only [kept, decide_eq_true_eq]; omega
    have c : cut r = r := by
      obtain ⟨a, b⟩ := r
      simp only [cut] at *
      congr 1
      omega
    have := ih (fun q hq => h q (by simp [hq]))
    simp only [keep, List.filter_cons_of_pos k, List.map_cons, c] at this ⊢
    rw [this]
theorem rd_app (s : List S34) (r : S34) (x : Int) (h : x = s.length) : rd_T34 (s ++ [r]) x = r := by
  subst h
  unfold rd_T34
  rw [List.getD_eq_getElem?_getD, Int.toNat_natCast]
  simp
theorem set_app (s : List S34) (r q : S34) (x : Int) (h : x = s.length) : (s ++ [r]).set x.toNat q = s ++ [q] := by
  subst h
  rw [Int.toNat_natCast]
  simp
theorem rd_dropR (l : List S34) (i : Nat) (h : i < l.length) : l.drop i = rd_T34 l i :: l.drop (i + 1) := by
  rw [List.drop_eq_getElem_cons h]
  unfold rd_T34
  rw [List.getD_eq_getElem?_getD, Int.toNat_natCast, List.getElem?_eq_getElem h]
  rfl
/-! ### The sort and the program's own Norm -/
theorem sort_is (l : List S34) (h : l.length < 4611686018427387904) : ∃ ys, api_Range.f l = some ys ∧ ys.Perm l ∧ ys.Pairwise (fun a b => a.f0 ≤ b.f0) := by
  have hs := Go.Sort.pdq_sorts (Go.Proofs.ltOf cfR34) cfR_swo34 l.toArray 0 l.toArray.size (Go.Lib.bitLen l.toArray.size) true true (Nat.zero_le _) (Nat.le_refl _) (.inl rfl)
  obtain ⟨⟨h1, h2, h3⟩, h4⟩ := hs
  clear h2
  unfold api_Range.f
  rw [if_pos h]
  generalize hd : Go.Sort.pdq (Go.Proofs.ltOf cfR34) l.toArray 0 l.toArray.size (Go.Lib.bitLen l.toArray.size) true true = d at *
  refine ⟨_, rfl, ?_, ?_⟩
  · have e1 : d.extract 0 l.toArray.size = d := by rw [← h1]; simp
    have e2 : l.toArray.extract 0 l.toArray.size = l.toArray := by simp
    rw [e1, e2] at h3
    simpa using h3
  · rw [List.pairwise_iff_getElem]
    intro i j hi hj hij
    have hi' : i < d.size := by simpa using hi
    have hj' : j < d.size := by simpa using hj
    have := h4 i j (by omega) hij (by omega)
    rw [cfR_lt34, getElem!_pos d i hi', getElem!_pos d j hj'] at this
    simp only [decide_eq_false_iff_not, Array.getElem_toList] at this ⊢
    omega
theorem snorm1 (ys : List S34) (hl : ys.length < 8796093022208) (d : Nat) : ∀ (i : Nat) (acc : List S34), i + d = ys.length → acc.length ≤ i →
    Ev (fun k => span_Norm.l1 k acc.reverse ys (ys.length : Int) i) ((ys.drop i).foldl mstep acc).reverse := by
  induction d with
  | zero =>
    intro i acc hi ha
    refine evAt fun k => ?_
    simp only [span_Norm.l1]
    rw [if_neg (by omega), List.drop_of_length_le (by omega)]
    rfl
  | succ d ih =>
    intro i acc hi ha
    have hil : i < ys.length := by omega
    rw [rd_dropR ys i hil, List.foldl_cons]
    match acc, ha with
    | [], ha =>
      refine Ev.step (fun k => ?_) (ih (i + 1) (mstep [] (rd_T34 ys i)) (by omega) (by simp [mstep]))
      simp only [span_Norm.l1]
      rw [if_pos (by omega), if_pos (by omega), if_pos (by omega), if_neg (by simp), if_pos (by simp), w64 (x := (i : Int) + 1) (by omega) (by omega)]
      rfl
    | q :: t, ha =>
      have e : (wrap64 (((q :: t).reverse.length : Int) - 1)) = t.reverse.length := by
        rw [List.length_reverse, List.length_reverse, List.length_cons] at *
        rw [w64 (by omega) (by omega)]
        omega
      have ht : (q :: t).reverse.length = t.length + 1 := by simp
      have ht2 : (q :: t).length = t.length + 1 := by simp
      by_cases c : (rd_T34 ys i).f0 ≤ q.f1
      · refine Ev.step (fun k => ?_) (ih (i + 1) (mstep (q :: t) (rd_T34 ys i)) (by omega) (by rw [mstep, if_pos c]; simp at ha ⊢; omega))
        rw [mstep, if_pos c]
        simp only [span_Norm.l1]
        rw [if_pos (by omega), if_pos (by omega), if_pos (by omega), if_pos (by rw [ht]; omega), e, if_pos (by omega), if_pos (by rw [ht, List.length_reverse]; omega), List.reverse_cons, rd_app _ _ _ rfl, if_pos c, set_app _ _ _ _ rfl, w64 (x := (i : Int) + 1) (by omega) (by omega), List.reverse_cons]
        rfl
      · refine Ev.step (fun k => ?_) (ih (i + 1) (mstep (q :: t) (rd_T34 ys i)) (by omega) (by rw [mstep, if_neg c]; simp at ha ⊢; omega))
        rw [mstep, if_neg c]
        simp only [span_Norm.l1]
        rw [if_pos (by omega), if_pos (by omega), if_pos (by omega), if_pos (by rw [ht]; omega), e, if_pos (by omega), if_pos (by rw [ht, List.length_reverse]; omega), List.reverse_cons, rd_app _ _ _ rfl, if_neg c, if_pos (by rw [← List.reverse_cons, ht]; rw [ht2] at ha; omega), w64 (x := (i : Int) + 1) (by omega) (by omega), List.reverse_cons, List.reverse_cons]
        rfl
theorem keep_succ (l : List S34) (i : Nat) (h : i < l.length) : keep (l.take (i + 1)) = if kept (rd_T34 l i) = true then keep (l.take i) ++ [cut (rd_T34 l i)] else keep (l.take i) := by
  have e : l.take (i + 1) = l.take i ++ [rd_T34 l i] := by
    rw [List.take_succ_eq_append_getElem h]
    congr 2
    unfold rd_T34
    rw [List.getD_eq_getElem?_getD, Int.toNat_natCast, List.getElem?_eq_getElem h]
    rfl
  rw [e, keep_app]
  split
  · rename_i c
    simp [keep, c]
  · rename_i c
    simp [keep, c]
theorem snorm0 (l : List S34) (hl : l.length < 8796093022208) (v : List S34) (hv : Ev (fun k => (api_Range.f (keep l)).bind fun t => span_Norm.l1 k ([] : List S34) t ((keep l).length : Int) 0) v) (d : Nat) : ∀ (i : Nat), i + d = l.length →
    Ev (fun k => span_Norm.l0 k (keep (l.take i)) l (l.length : Int) i) v := by
  induction d with
  | zero =>
    intro i hi
    rw [List.take_of_length_le (by omega)]
    refine Ev.step (fun k => ?_) hv
    simp only [span_Norm.l0]
    rw [if_neg (by omega)]
  | succ d ih =>
    intro i hi
    have hil : i < l.length := by omega
    refine Ev.step (fun k => ?_) (ih (i + 1) (by omega))
    simp only [span_Norm.l0]
    rw [if_pos (by omega), if_pos (by omega), if_pos (by omega), keep_succ l i hil, w64 (x := (i : Int) + 1) (by omega) (by omega)]
    by_cases c : (rd_T34 l i).f1 > mx (rd_T34 l i).f0 0
    · have hk : (keep (l.take i)).length ≤ i := Nat.le_trans (keep_len _) (by rw [List.length_take]; omega)
      rw [if_pos c, if_pos (by omega), if_pos (by simpa [kept] using c)]
      rfl
    · rw [if_neg c, if_neg (by simpa [kept] using c)]
      rfl
theorem snorm (l : List S34) (hl : l.length < 8796093022208) : ∃ v, Ev (fun k => span_Norm.f k l) v ∧ NF v ∧ (∀ i, cv v i ↔ 0 ≤ i ∧ cv l i) ∧ v.length ≤ l.length := by
  have hk := keep_len l
  obtain ⟨ys, h1, h2, h3⟩ := sort_is (keep l) (by omega)
  have hlen : ys.length = (keep l).length := h2.length_eq
  have hpos : Pos ys := fun r hr => keep_pos l r (h2.mem_iff.1 hr)
  obtain ⟨g1, g2, g3⟩ := mfold_nf ys [] ⟨(fun _ h => nomatch h), List.Pairwise.nil⟩ hpos h3 (fun _ h => nomatch h)
  refine ⟨(ys.foldl mstep []).reverse, snorm0 l hl _ ?_ l.length 0 (by omega), nfr_rev g1, fun i => ?_, ?_⟩
  · rw [h1]
    have := snorm1 ys (by omega) ys.length 0 [] (by omega) (by simp)
    rw [← hlen]
    exact this
  · rw [cv_rev, g2, cv_mem (fun r => h2.mem_iff), keep_cv]
    simp [cv_nil]
  · rw [List.length_reverse]
    simp only [List.length_nil] at g3
    omega
theorem snorm_nf {l : List S34} (h : NF l) (hl : l.length < 8796093022208) : Ev (fun k => span_Norm.f k l) l := by
  obtain ⟨v, h1, h2, h3, _⟩ := snorm l hl
  have : v = l := nf_one h2 h fun i => by
    rw [h3]
    refine ⟨fun g => g.2, fun g => ⟨?_, g⟩⟩
    obtain ⟨r, hr, hi⟩ := g
    have := h.1 r hr
    omega
  rw [this] at h1
  exact h1
/-! ### The reference's Norm, Join and Less -/
def bub : List S34 → S34 → List S34 → List S34
  | [], r, B => r :: B
  | q :: t, r, B => if r.f0 < q.f0 then bub t r (q :: B) else (q :: t).reverse ++ r :: B
theorem bub_mem : ∀ (A : List S34) (r : S34) (B : List S34), (bub A r B).Perm (r :: (A.reverse ++ B))
  | [], r, B => List.Perm.refl _
  | q :: t, r, B => by
    unfold bub
    split
    · refine (bub_mem t r (q :: B)).trans ?_
      rw [List.reverse_cons, List.append_assoc]
      exact List.Perm.refl _
    · exact List.perm_middle
theorem bub_sorted : ∀ (A : List S34) (r : S34) (B : List S34), (A.reverse ++ B).Pairwise (fun a b => a.f0 ≤ b.f0) → (∀ b ∈ B, r.f0 ≤ b.f0) → (bub A r B).Pairwise (fun a b => a.f0 ≤ b.f0)
  | [], r, B, h, hb => List.pairwise_cons.2 ⟨hb, by simpa using h⟩
  | q :: t, r, B, h, hb => by
    unfold bub
    split
    · rename_i c
      refine bub_sorted t r (q :: B) (by simpa [List.reverse_cons, List.append_assoc] using h) fun b hb' => ?_
      rcases List.mem_cons.1 hb' with rfl | hb'
      · omega
      · exact hb b hb'
    · rename_i c
      rw [List.pairwise_append] at h ⊢
      obtain ⟨h1, h2, h3⟩ := h
      refine ⟨h1, List.pairwise_cons.2 ⟨hb, h2⟩, fun a ha b hb' => ?_⟩
      rcases List.mem_cons.1 hb' with rfl | hb'
      · rw [List.reverse_cons] at h1
        rw [List.pairwise_append] at h1
        rcases List.mem_cons.1 (List.mem_reverse.1 ha) with rfl | ha
        · omega
        · have := h1.2.2 a (List.mem_reverse.2 ha) q (by simp)
          omega
      · exact h3 a ha b hb'
theorem rd_mid (s t : List S34) (r : S34) (x : Int) (h : x = s.length) : rd_T34 (s ++ r :: t) x = r := by
  subst h
  unfold rd_T34
  rw [List.getD_eq_getElem?_getD, Int.toNat_natCast]
  simp
theorem set_mid (s t : List S34) (r q : S34) (x : Int) (h : x = s.length) : (s ++ r :: t).set x.toNat q = s ++ q :: t := by
  subst h
  rw [Int.toNat_natCast]
  simp
theorem rnorm1 (l : List S34) (i : Nat) (v : List S34) (N : Nat) (hN : N < 8796093022208) : ∀ (A : List S34) (r : S34) (B : List S34), A.length + B.length + 1 ≤ N →
    Ev (fun k => brambleref02_Norm.l0 k l (bub A r B) (wrap64 ((i : Int) + 1))) v → Ev (fun k => brambleref02_Norm.l1 k l (A.reverse ++ r :: B) (i : Int) (A.length : Int)) v
  | [], r, B, _, h => by
    refine Ev.step (fun k => ?_) h
    simp only [brambleref02_Norm.l1]
    rw [if_neg (by simp)]
    rfl
  | q :: t, r, B, hl, h => by
    have hl' : t.length + 1 + B.length + 1 ≤ N := by simpa using hl
    have e1 : (q :: t).reverse ++ r :: B = t.reverse ++ q :: r :: B := by simp
    have r1 : rd_T34 (t.reverse ++ q :: r :: B) (((q :: t).length : Nat) : Int) = r := by rw [← e1]; exact rd_mid _ _ _ _ (by simp)
    have r0 : rd_T34 (t.reverse ++ q :: r :: B) (t.length : Int) = q := rd_mid _ _ _ _ (by simp)
    have s1 : (t.reverse ++ q :: r :: B).set (((q :: t).length : Nat) : Int).toNat q = t.reverse ++ q :: q :: B := by
      rw [← e1, set_mid (q :: t).reverse B r q _ (by simp)]; simp
    have s0 : (t.reverse ++ q :: q :: B).set ((t.length : Nat) : Int).toNat r = t.reverse ++ r :: q :: B := set_mid _ _ _ _ _ (by simp)
    have len : (t.reverse ++ q :: r :: B).length = t.length + B.length + 2 := by simp; omega
    have ew : wrap64 ((((q :: t).length : Nat) : Int) - 1) = (t.length : Int) := by
      rw [List.length_cons, w64 (by omega) (by omega)]; omega
    by_cases c : r.f0 < q.f0
    · have hb : bub (q :: t) r B = bub t r (q :: B) := if_pos c
      rw [hb] at h
      refine Ev.step (fun k => ?_) (rnorm1 l i v N hN t r (q :: B) (by simp; omega) h)
      rw [e1]
      simp only [brambleref02_Norm.l1]
      rw [if_pos (by simp <;> omega), if_pos (by omega), if_pos (by rw [len]; simp <;> omega), ew, if_pos (by omega), if_pos (by rw [len]; omega), r1, r0, if_pos c, s1, s0]
    · have hb : bub (q :: t) r B = (q :: t).reverse ++ r :: B := if_neg c
      rw [hb, e1] at h
      refine Ev.step (fun k => ?_) h
      rw [e1]
      simp only [brambleref02_Norm.l1]
      rw [if_pos (by simp <;> omega), if_pos (by omega), if_pos (by rw [len]; simp <;> omega), ew, if_pos (by omega), if_pos (by rw [len]; omega), r1, r0, if_neg c]
theorem rnorm2 (ys : List S34) (hl : ys.length < 8796093022208) (d : Nat) : ∀ (i : Nat) (acc : List S34), i + d = ys.length → acc.length ≤ i →
    Ev (fun k => brambleref02_Norm.l2 k ys acc.reverse i) ((ys.drop i).foldl mstep acc).reverse := by
  induction d with
  | zero =>
    intro i acc hi ha
    refine evAt fun k => ?_
    simp only [brambleref02_Norm.l2]
    rw [if_neg (by omega), List.drop_of_length_le (by omega)]
    rfl
  | succ d ih =>
    intro i acc hi ha
    have hil : i < ys.length := by omega
    rw [rd_dropR ys i hil, List.foldl_cons]
    match acc, ha with
    | [], ha =>
      refine Ev.step (fun k => ?_) (ih (i + 1) (mstep [] (rd_T34 ys i)) (by omega) (by simp [mstep]))
      simp only [brambleref02_Norm.l2]
      rw [if_pos (by omega), if_neg (by simp), if_pos (by omega), if_pos (by simp), w64 (x := (i : Int) + 1) (by omega) (by omega)]
      rfl
    | q :: t, ha =>
      have e : (wrap64 (((q :: t).reverse.length : Int) - 1)) = t.reverse.length := by
        rw [List.length_reverse, List.length_reverse, List.length_cons] at *
        rw [w64 (by omega) (by omega)]
        omega
      have ht : (q :: t).reverse.length = t.length + 1 := by simp
      have ht2 : (q :: t).length = t.length + 1 := by simp
      by_cases c : (rd_T34 ys i).f0 ≤ q.f1
      · refine Ev.step (fun k => ?_) (ih (i + 1) (mstep (q :: t) (rd_T34 ys i)) (by omega) (by rw [mstep, if_pos c]; simp at ha ⊢; omega))
        rw [mstep, if_pos c]
        simp only [brambleref02_Norm.l2]
        rw [if_pos (by omega), if_pos (by rw [ht]; omega), if_pos (by omega), e, if_pos (by omega), if_pos (by rw [ht, List.length_reverse]; omega), List.reverse_cons, rd_app _ _ _ rfl, if_pos c, set_app _ _ _ _ rfl, w64 (x := (i : Int) + 1) (by omega) (by omega), List.reverse_cons]
        rfl
      · refine Ev.step (fun k => ?_) (ih (i + 1) (mstep (q :: t) (rd_T34 ys i)) (by omega) (by rw [mstep, if_neg c]; simp at ha ⊢; omega))
        rw [mstep, if_neg c]
        simp only [brambleref02_Norm.l2]
        rw [if_pos (by omega), if_pos (by rw [ht]; omega), if_pos (by omega), e, if_pos (by omega), if_pos (by rw [ht, List.length_reverse]; omega), List.reverse_cons, rd_app _ _ _ rfl, if_neg c, if_pos (by rw [← List.reverse_cons, ht]; rw [ht2] at ha; omega), w64 (x := (i : Int) + 1) (by omega) (by omega), List.reverse_cons, List.reverse_cons]
        rfl
theorem rnorm0 (l : List S34) (hl : l.length < 8796093022208) (d : Nat) : ∀ (i : Nat) (x3 : List S34), i + d = l.length → x3.Perm (keep (l.take i)) → x3.Pairwise (fun a b => a.f0 ≤ b.f0) →
    ∃ ys : List S34, ys.Perm (keep l) ∧ ys.Pairwise (fun a b => a.f0 ≤ b.f0) ∧ ∀ v, Ev (fun k => brambleref02_Norm.l2 k ys ([] : List S34) 0) v → Ev (fun k => brambleref02_Norm.l0 k l x3 i) v := by
  induction d with
  | zero =>
    intro i x3 hi hp hs
    rw [List.take_of_length_le (by omega)] at hp
    refine ⟨x3, hp, hs, fun v h => Ev.step (fun k => ?_) h⟩
    simp only [brambleref02_Norm.l0]
    rw [if_neg (by omega)]
  | succ d ih =>
    intro i x3 hi hp hs
    have hil : i < l.length := by omega
    have hlen : x3.length ≤ i := by
      rw [hp.length_eq]
      exact Nat.le_trans (keep_len _) (by rw [List.length_take]; omega)
    have hk := keep_succ l i hil
    by_cases c : kept (rd_T34 l i) = true
    · rw [if_pos c] at hk
      have c' : ¬ (rd_T34 l i).f1 ≤ mx (rd_T34 l i).f0 0 := by simpa [kept] using c
      obtain ⟨ys, h1, h2, h3⟩ := ih (i + 1) (bub x3.reverse (cut (rd_T34 l i)) []) (by omega) (by
        rw [hk]
        refine (bub_mem _ _ _).trans ?_
        rw [List.reverse_reverse, List.append_nil]
        exact (List.perm_append_singleton _ _).symm.trans (hp.append_right _)) (bub_sorted _ _ _ (by simpa using hs) (fun _ h => nomatch h))
      refine ⟨ys, h1, h2, fun v hv => ?_⟩
      have h4 := rnorm1 l i v (i + 1) (by omega) x3.reverse (cut (rd_T34 l i)) [] (by rw [List.length_reverse, List.length_nil]; omega) (by rw [w64 (by omega) (by omega)]; exact h3 v hv)
      rw [List.reverse_reverse, List.length_reverse] at h4
      refine Ev.step (fun k => ?_) h4
      simp only [brambleref02_Norm.l0]
      have e : wrap64 (((x3 ++ [(⟨mx (rd_T34 l i).f0 0, (rd_T34 l i).f1⟩ : S34)]).length : Int) - 1) = x3.length := by
        rw [List.length_append, List.length_singleton, w64 (by omega) (by omega)]; omega
      rw [if_pos (by omega), if_pos (by omega), if_neg c', if_pos (by omega)]
      simp only [Option.bind_some]
      rw [e]
      rfl
    · rw [if_neg c] at hk
      have c' : (rd_T34 l i).f1 ≤ mx (rd_T34 l i).f0 0 := by simpa [kept] using c
      obtain ⟨ys, h1, h2, h3⟩ := ih (i + 1) x3 (by omega) (by rw [hk]; exact hp) hs
      refine ⟨ys, h1, h2, fun v hv => Ev.step (fun k => ?_) (h3 v hv)⟩
      simp only [brambleref02_Norm.l0]
      rw [if_pos (by omega), if_pos (by omega), if_pos c', w64 (x := (i : Int) + 1) (by omega) (by omega)]
      rfl
theorem rnorm (l : List S34) (hl : l.length < 8796093022208) : ∃ v, Ev (fun k => brambleref02_Norm.f k l) v ∧ NF v ∧ (∀ i, cv v i ↔ 0 ≤ i ∧ cv l i) ∧ v.length ≤ l.length := by
  have hk := keep_len l
  obtain ⟨ys, h2, h3, h1⟩ := rnorm0 l hl l.length 0 [] (by omega) (List.Perm.refl _) List.Pairwise.nil
  have hlen : ys.length = (keep l).length := h2.length_eq
  have hpos : Pos ys := fun r hr => keep_pos l r (h2.mem_iff.1 hr)
  obtain ⟨g1, g2, g3⟩ := mfold_nf ys [] ⟨(fun _ h => nomatch h), List.Pairwise.nil⟩ hpos h3 (fun _ h => nomatch h)
  refine ⟨(ys.foldl mstep []).reverse, h1 _ (rnorm2 ys (by omega) ys.length 0 [] (by omega) (by simp)), nfr_rev g1, fun i => ?_, ?_⟩
  · rw [cv_rev, g2, cv_mem (fun r => h2.mem_iff), keep_cv]
    simp [cv_nil]
  · rw [List.length_reverse]
    simp only [List.length_nil] at g3
    omega
theorem rnorm_nf {l : List S34} (h : NF l) (hl : l.length < 8796093022208) : Ev (fun k => brambleref02_Norm.f k l) l := by
  obtain ⟨v, h1, h2, h3, _⟩ := rnorm l hl
  have : v = l := nf_one h2 h fun i => by
    rw [h3]
    refine ⟨fun g => g.2, fun g => ⟨?_, g⟩⟩
    obtain ⟨r, hr, hi⟩ := g
    have := h.1 r hr
    omega
  rw [this] at h1
  exact h1
/-! ### Trees: the size and the fit -/
theorem bal_ext {a b : ByteArray} (h : a.toList = b.toList) : a = b := by
  rw [ByteArray.toList_eq, ByteArray.toList_eq] at h
  obtain ⟨⟨a⟩⟩ := a
  obtain ⟨⟨b⟩⟩ := b
  simpa using h
theorem rd_drop24 (l : List S24) (i : Nat) (h : i < l.length) : l.drop i = rd_T24 l i :: l.drop (i + 1) := by
  rw [List.drop_eq_getElem_cons h]
  unfold rd_T24
  rw [List.getD_eq_getElem?_getD, Int.toNat_natCast, List.getElem?_eq_getElem h]
  rfl
theorem rd_mem24 (l : List S24) (i : Nat) (h : i < l.length) : rd_T24 l i ∈ l := by
  unfold rd_T24
  rw [List.getD_eq_getElem?_getD, Int.toNat_natCast, List.getElem?_eq_getElem h]
  exact List.getElem_mem h
theorem small_l0 (l : List S24) (hl : l.length * 88 ≤ 140737488351232)
    (ih : ∀ y ∈ l, ∀ a : Int, 0 ≤ a → a ≤ 1000000 → ∃ v : Int, Ev (fun k => brambleref14_Small.f k y.f0 y.f1 y.f2 y.f3 y.f4 y.f5 y.f6 a) v ∧ -1 ≤ v ∧ v ≤ a ∧ (0 ≤ v → (szN24 y : Int) = a - v))
    (b0 : ByteArray) (b1 : Bool) (b2 : ByteArray) (b3 b4 b5 : Int) (d : Nat) : ∀ (i : Nat) (a : Int), i + d = l.length → -1 ≤ a → a ≤ 1000000 →
    ∃ v : Int, Ev (fun k => brambleref14_Small.l0 k a i b0 b1 b2 b3 b4 b5 l) v ∧ -1 ≤ v ∧ v ≤ a ∧ (0 ≤ v → (szL24 (l.drop i) : Int) = a - v) := by
  induction d with
  | zero =>
    intro i a hi h1 h2
    refine ⟨a, evAt fun k => ?_, h1, Int.le_refl _, fun _ => ?_⟩
    · simp only [brambleref14_Small.l0]
      rw [if_neg (by omega)]
    · rw [List.drop_of_length_le (by omega), szL24]
      omega
  | succ d ihd =>
    intro i a hi h1 h2
    have hil : i < l.length := by omega
    by_cases c : a ≥ 0
    · obtain ⟨v1, e1, g1, g2, g3⟩ := ih _ (rd_mem24 l i hil) a c h2
      obtain ⟨v2, e2, k1, k2, k3⟩ := ihd (i + 1) v1 (by omega) g1 (by omega)
      refine ⟨v2, Ev.step (fun k => ?_) (Ev.bind e1 (f := fun k t => brambleref14_Small.l0 k t ((i + 1 : Nat) : Int) b0 b1 b2 b3 b4 b5 l) e2), k1, by omega, fun hv => ?_⟩
      · simp only [brambleref14_Small.l0]
        rw [if_pos (by omega), if_pos c, if_pos (by omega), w64 (x := (i : Int) + 1) (by omega) (by omega)]
        rfl
      · rw [rd_drop24 l i hil, szL24]
        have := k3 hv
        have := g3 (by omega)
        omega
    · refine ⟨a, evAt fun k => ?_, h1, Int.le_refl _, fun hv => absurd hv (by omega)⟩
      simp only [brambleref14_Small.l0]
      rw [if_pos (by omega), if_neg c]
theorem szN_eq (s : S24) : szN24 s = szL24 s.f6 + 1 := by
  obtain ⟨f0, f1, f2, f3, f4, f5, f6⟩ := s
  rw [szN24]
theorem small_Ev : ∀ (n : Nat) (s : S24), okF24 n s → ∀ a : Int, 0 ≤ a → a ≤ 1000000 → ∃ v : Int, Ev (fun k => brambleref14_Small.f k s.f0 s.f1 s.f2 s.f3 s.f4 s.f5 s.f6 a) v ∧ -1 ≤ v ∧ v ≤ a ∧ (0 ≤ v → (szN24 s : Int) = a - v)
  | 0, _, h, _, _, _ => h.elim
  | n + 1, s, h, a, h1, h2 => by
    obtain ⟨_, _, _, _, _, _, hl, hk⟩ := h
    obtain ⟨v, e, g1, g2, g3⟩ := small_l0 s.f6 hl (fun y hy => small_Ev n y (hk y hy)) s.f0 s.f1 s.f2 s.f3 s.f4 s.f5 s.f6.length 0 (a - 1) (by omega) (by omega) (by omega)
    refine ⟨v, Ev.step (fun k => ?_) e, g1, by omega, fun hv => ?_⟩
    · simp only [brambleref14_Small.f]
      rw [w64 (by omega) (by omega)]
      rfl
    · have := g3 hv
      rw [szN_eq]
      simp only [List.drop_zero] at this
      omega
/-- No place of the tree lies before 0 or behind H. -/
inductive Bd (H : Int) : S24 → Prop
  | mk (s : S24) (h0 : 0 ≤ s.f3) (h1 : s.f3 ≤ s.f4) (h2 : s.f4 ≤ H) (hk : ∀ y ∈ s.f6, Bd H y) : Bd H s
theorem fit_l0 (H : Int) (l : List S24) (hl : l.length * 88 ≤ 140737488351232)
    (ih : ∀ y ∈ l, ∀ lo hi d : Int, 0 ≤ lo → hi ≤ H → ∃ b, Ev (fun k => brambleref14_fit.f k y.f0 y.f1 y.f2 y.f3 y.f4 y.f5 y.f6 lo hi d) b ∧ (b = true → Bd H y))
    (b0 : ByteArray) (b1 : Bool) (b2 : ByteArray) (b3 b4 b5 : Int) (hb4 : b4 ≤ H) (dp : Int) (d : Nat) : ∀ (i : Nat) (lo : Int), i + d = l.length → 0 ≤ lo →
    ∃ b, Ev (fun k => brambleref14_fit.l0 k dp lo i b0 b1 b2 b3 b4 b5 l) b ∧ (b = true → ∀ y ∈ l.drop i, Bd H y) := by
  induction d with
  | zero =>
    intro i lo hi h1
    refine ⟨true, evAt fun k => ?_, fun _ y hy => ?_⟩
    · simp only [brambleref14_fit.l0]
      rw [if_neg (by omega)]
    · rw [List.drop_of_length_le (by omega)] at hy
      cases hy
  | succ d ihd =>
    intro i lo hi h1
    have hil : i < l.length := by omega
    obtain ⟨b, e1, g1⟩ := ih _ (rd_mem24 l i hil) lo b4 (wrap64 (dp + 1)) h1 hb4
    cases b with
    | false =>
      refine ⟨false, Ev.step (fun k => ?_) (Ev.bind e1 (f := fun k t => if t = true then brambleref14_fit.l0 k dp ((rd_T24 l i).f4) ((i + 1 : Nat) : Int) b0 b1 b2 b3 b4 b5 l else some false) (evAt fun _ => rfl)), fun h => nomatch h⟩
      simp only [brambleref14_fit.l0]
      rw [if_pos (by omega), if_pos (by omega), w64 (x := (i : Int) + 1) (by omega) (by omega)]
      rfl
    | true =>
      have hy := g1 rfl
      obtain ⟨b', e2, g2⟩ := ihd (i + 1) ((rd_T24 l i).f4) (by omega) (by cases hy; omega)
      refine ⟨b', Ev.step (fun k => ?_) (Ev.bind e1 (f := fun k t => if t = true then brambleref14_fit.l0 k dp ((rd_T24 l i).f4) ((i + 1 : Nat) : Int) b0 b1 b2 b3 b4 b5 l else some false) e2), fun hb y hy' => ?_⟩
      · simp only [brambleref14_fit.l0]
        rw [if_pos (by omega), if_pos (by omega), w64 (x := (i : Int) + 1) (by omega) (by omega)]
        rfl
      · rw [rd_drop24 l i hil] at hy'
        rcases List.mem_cons.1 hy' with rfl | hy'
        · exact hy
        · exact g2 hb y hy'
theorem fit_Ev (H : Int) : ∀ (n : Nat) (s : S24), okF24 n s → ∀ lo hi d : Int, 0 ≤ lo → hi ≤ H → ∃ b, Ev (fun k => brambleref14_fit.f k s.f0 s.f1 s.f2 s.f3 s.f4 s.f5 s.f6 lo hi d) b ∧ (b = true → Bd H s)
  | 0, _, h, _, _, _, _, _ => h.elim
  | n + 1, s, h, lo, hi, d, hlo, hhi => by
    obtain ⟨_, _, _, _, _, _, hl, hk⟩ := h
    have T : Ev (fun k => brambleref14_fit.j0 k d true s.f0 s.f1 s.f2 s.f3 s.f4 s.f5 s.f6) false := evAt fun k => by simp only [brambleref14_fit.j0]; rfl
    have T1 : Ev (fun k => brambleref14_fit.j1 k d true s.f0 s.f1 s.f2 s.f3 s.f4 s.f5 s.f6) false := evAt fun k => by simp only [brambleref14_fit.j1]; rfl
    have no : ∀ {g : Nat → Option Bool}, Ev g false → ∃ b, Ev g b ∧ (b = true → Bd H s) := fun h => ⟨false, h, fun h => nomatch h⟩
    by_cases c1 : d > 32
    · exact no (Ev.step (fun k => by simp only [brambleref14_fit.f]; rw [if_pos c1]) T)
    by_cases c2 : s.f3 < lo
    · exact no (Ev.step (fun k => by simp only [brambleref14_fit.f]; rw [if_neg c1, if_pos c2]) T)
    by_cases c3 : s.f4 < s.f3
    · exact no (Ev.step (fun k => by simp only [brambleref14_fit.f]; rw [if_neg c1, if_neg c2, if_pos c3]) T)
    by_cases c4 : s.f4 > hi
    · exact no (Ev.step (fun k => by simp only [brambleref14_fit.f]; rw [if_neg c1, if_neg c2, if_neg c3, if_pos c4]) T)
    by_cases c5 : s.f0.toList = ([] : List UInt8)
    · exact no (Ev.step (fun k => by simp only [brambleref14_fit.f]; rw [if_neg c1, if_neg c2, if_neg c3, if_neg c4, if_pos c5]) T)
    by_cases c6 : (s.f0.size : Int) > 80
    · exact no (Ev.step (fun k => by simp only [brambleref14_fit.f]; rw [if_neg c1, if_neg c2, if_neg c3, if_neg c4, if_neg c5, if_pos c6]) T)
    by_cases c7 : (s.f2.size : Int) > 32
    · exact no (Ev.step (fun k => by simp only [brambleref14_fit.f]; rw [if_neg c1, if_neg c2, if_neg c3, if_neg c4, if_neg c5, if_neg c6, if_pos c7]) T)
    by_cases c8 : s.f5 < 0
    · exact no (Ev.step (fun k => by simp only [brambleref14_fit.f]; rw [if_neg c1, if_neg c2, if_neg c3, if_neg c4, if_neg c5, if_neg c6, if_neg c7, if_pos c8]) T)
    by_cases c9 : s.f5 ≥ 3
    · exact no (Ev.step (fun k => by simp only [brambleref14_fit.f]; rw [if_neg c1, if_neg c2, if_neg c3, if_neg c4, if_neg c5, if_neg c6, if_neg c7, if_neg c8, decide_eq_true c9]) T)
    have e9 : decide (s.f5 ≥ 3) = false := decide_eq_false c9
    have E : ∀ k, brambleref14_fit.f (k + 1) s.f0 s.f1 s.f2 s.f3 s.f4 s.f5 s.f6 lo hi d = brambleref14_fit.j0 k d false s.f0 s.f1 s.f2 s.f3 s.f4 s.f5 s.f6 := fun k => by
      simp only [brambleref14_fit.f]; rw [if_neg c1, if_neg c2, if_neg c3, if_neg c4, if_neg c5, if_neg c6, if_neg c7, if_neg c8, e9]
    obtain ⟨b, e2, g2⟩ := fit_l0 H s.f6 hl (fun y hy => fit_Ev H n y (hk y hy)) s.f0 s.f1 s.f2 s.f3 s.f4 s.f5 (by omega) d s.f6.length 0 s.f3 (by omega) (by omega)
    have yes : ∃ b, Ev (fun k => brambleref14_fit.j1 k d false s.f0 s.f1 s.f2 s.f3 s.f4 s.f5 s.f6) b ∧ (b = true → Bd H s) := ⟨b, Ev.step (fun k => by simp only [brambleref14_fit.j1]; rfl) e2, fun hb => ⟨s, by omega, by omega, by omega, fun y hy => g2 hb y (by simpa using hy)⟩⟩
    have J : ∃ b, Ev (fun k => brambleref14_fit.j0 k d false s.f0 s.f1 s.f2 s.f3 s.f4 s.f5 s.f6) b ∧ (b = true → Bd H s) := by
      by_cases d1 : s.f5 = 2
      · by_cases d2 : (s.f6.length : Int) > 0
        · exact no (Ev.step (fun k => by simp only [brambleref14_fit.j0]; rw [if_neg (by simp), if_pos d1, if_pos d2]) T1)
        · cases d3 : (s.f3 != s.f4) with
          | true => exact no (Ev.step (fun k => by simp only [brambleref14_fit.j0]; rw [if_neg (by simp), if_pos d1, if_neg d2, d3]) T1)
          | false =>
            obtain ⟨b, e, g⟩ := yes
            exact ⟨b, Ev.step (fun k => by simp only [brambleref14_fit.j0]; rw [if_neg (by simp), if_pos d1, if_neg d2, d3]) e, g⟩
      · obtain ⟨b, e, g⟩ := yes
        exact ⟨b, Ev.step (fun k => by simp only [brambleref14_fit.j0]; rw [if_neg (by simp), if_neg d1]) e, g⟩
    obtain ⟨b, e, g⟩ := J
    exact ⟨b, Ev.step E e, g⟩
theorem good_Ev {s : S24} (h : ok24 s) : ∃ b, Ev (fun k => bramblelaw22_good.f k s.f0 s.f1 s.f2 s.f3 s.f4 s.f5 s.f6) b ∧ (b = true → szN24 s ≤ 300 ∧ Bd 300 s) := by
  obtain ⟨n, h⟩ := h
  obtain ⟨v, e1, g1, g2, g3⟩ := small_Ev n s h 300 (by decide) (by decide)
  by_cases c : v ≥ 0
  · obtain ⟨v', e2, _, _, k3⟩ := small_Ev n s h 5000 (by decide) (by decide)
    obtain ⟨b, e3, g4⟩ := fit_Ev 300 n s h 0 300 1 (by decide) (by decide)
    have hL : Ev (fun k => brambleref14_Light.f k s.f0 s.f1 s.f2 s.f3 s.f4 s.f5 s.f6) (decide (v' ≥ 0)) := Ev.bind e2 (evAt fun _ => rfl)
    by_cases c' : v' ≥ 0
    · rw [decide_eq_true c'] at hL
      refine ⟨b, Ev.bind e1 ?_, fun hb => ⟨by have := g3 c; omega, g4 hb⟩⟩
      have : Ev (fun k => brambleref14_Fit.f k s.f0 s.f1 s.f2 s.f3 s.f4 s.f5 s.f6 300) b := Ev.bind hL (Ev.bind e3 (evAt fun _ => rfl))
      have h2 : Ev (fun k => (brambleref14_Fit.f k s.f0 s.f1 s.f2 s.f3 s.f4 s.f5 s.f6 300).bind fun t => some t) b := Ev.bind this (evAt fun _ => rfl)
      simpa only [if_pos c] using h2
    · rw [decide_eq_false c'] at hL
      refine ⟨false, Ev.bind e1 ?_, fun h => nomatch h⟩
      have : Ev (fun k => brambleref14_Fit.f k s.f0 s.f1 s.f2 s.f3 s.f4 s.f5 s.f6 300) false := Ev.bind hL (evAt fun _ => rfl)
      have h2 : Ev (fun k => (brambleref14_Fit.f k s.f0 s.f1 s.f2 s.f3 s.f4 s.f5 s.f6 300).bind fun t => some t) false := Ev.bind this (evAt fun _ => rfl)
      simpa only [if_pos c] using h2
  · refine ⟨false, Ev.bind e1 ?_, fun h => nomatch h⟩
    simp only [if_neg c]
    exact evAt fun _ => rfl
/-! ### What Changed answers -/
theorem cov_len (at_ : Int) : ∀ (f : Nat) (x : S24), (nodeK.cov at_ f x).length ≤ szN24 x
  | 0, x => Nat.zero_le _
  | f + 1, x => by
    cases h : nodeK.has at_ x with
    | false =>
      show (if nodeK.has at_ x = true then _ else []).length ≤ _
      rw [h]
      exact Nat.zero_le _
    | true =>
      rw [Cover.cov_true nodeK at_ f x h, List.length_cons]
      have hs : szN24 x = szL24 x.f6 + 1 := szN_eq x
      cases hf : (nodeK.kids x).find? (nodeK.has at_) with
      | none => simp only [List.length_nil]; omega
      | some y =>
        have h1 := cov_len at_ f y
        have h2 := sizeN24 x y (List.mem_of_find?_eq_some hf)
        simp only
        omega
def mk (s : S24) (at_ : Int) : List S53 := (Cover.marksV nodeK at_ s).map markS
theorem marks_eq (s : S24) (at_ : Int) (h : szN24 s ≤ 300) : diff_Marks.f s.f0 s.f1 s.f2 s.f3 s.f4 s.f5 s.f6 at_ = some (mk s at_) := by
  obtain ⟨f0, f1, f2, f3, f4, f5, f6⟩ := s
  unfold diff_Marks.f
  simp only
  rw [if_pos (Nat.le_trans (cov_len at_ _ _) (by omega))]
  rfl
theorem ne53 (x y : S53) : (!((x.f0).toList == (y.f0).toList) || (!(x.f1 == y.f1) || !(x.f2 == y.f2))) = true ↔ x ≠ y := by
  obtain ⟨a, b, c⟩ := x
  obtain ⟨a', b', c'⟩ := y
  have h : a.toList = a'.toList ↔ a = a' := ⟨bal_ext, fun h => by rw [h]⟩
  simp only [Bool.or_eq_true, Bool.not_eq_true', beq_eq_false_iff_ne, ne_eq, S53.mk.injEq, h]
  by_cases h1 : a = a' <;> by_cases h2 : b = b' <;> by_cases h3 : c = c' <;> simp [h1, h2, h3]
theorem rd_drop53 (l : List S53) (i : Nat) (h : i < l.length) : l.drop i = rd_T53 l i :: l.drop (i + 1) := by
  rw [List.drop_eq_getElem_cons h]
  unfold rd_T53
  rw [List.getD_eq_getElem?_getD, Int.toNat_natCast, List.getElem?_eq_getElem h]
  rfl
theorem equal_l0 (A B : List S53) (hlen : A.length = B.length) (hA : A.length ≤ 1000000) (d : Nat) : ∀ i : Nat, i + d = A.length → ∃ b, Ev (fun k => api_Mark.l0 k A B (A.length : Int) i) b ∧ (b = true ↔ A.drop i = B.drop i) := by
  induction d with
  | zero =>
    intro i hi
    refine ⟨true, evAt fun k => ?_, ⟨fun _ => ?_, fun _ => rfl⟩⟩
    · simp only [api_Mark.l0]
      rw [if_neg (by omega)]
    · rw [List.drop_of_length_le (by omega), List.drop_of_length_le (by omega)]
  | succ d ih =>
    intro i hi
    rw [rd_drop53 A i (by omega), rd_drop53 B i (by omega)]
    by_cases c : rd_T53 A i = rd_T53 B i
    · obtain ⟨b, e, g⟩ := ih (i + 1) (by omega)
      refine ⟨b, Ev.step (fun k => ?_) e, ?_⟩
      · simp only [api_Mark.l0]
        rw [if_pos (by omega), if_pos (by omega), if_pos (by omega), if_pos (by omega), if_neg (by rw [ne53]; exact fun h => h c), w64 (x := (i : Int) + 1) (by omega) (by omega)]
        rfl
      · rw [g, c]
        simp
    · refine ⟨false, evAt fun k => ?_, by simp [c]⟩
      simp only [api_Mark.l0]
      rw [if_pos (by omega), if_pos (by omega), if_pos (by omega), if_pos (by omega), if_pos (by rw [ne53]; exact c)]
theorem equal_Ev (A B : List S53) (hA : A.length ≤ 1000000) (hB : B.length ≤ 1000000) : ∃ b, Ev (fun k => api_Mark.f k A B) b ∧ (b = true ↔ A = B) := by
  unfold api_Mark.f
  by_cases c : A.length = B.length
  · obtain ⟨b, e, g⟩ := equal_l0 A B c hA A.length 0 (by omega)
    refine ⟨b, ?_, by simpa using g⟩
    simp only [if_pos (show (A.length : Int) = B.length by omega)]
    exact e
  · refine ⟨false, ?_, by simp; exact fun h => c (by rw [h])⟩
    simp only [if_neg (show ¬ (A.length : Int) = B.length by omega)]
    exact evAt fun _ => rfl
theorem mk_len (s : S24) (at_ : Int) (h : szN24 s ≤ 300) : (mk s at_).length ≤ 300 := by
  rw [mk, List.length_map, Cover.marksV, List.length_map]
  exact Nat.le_trans (cov_len at_ _ _) h
/-- The bytes that stand told by a row of ranges, from the last range on. -/
def addR : List S34 → Int → List S34
  | [], i => [⟨i, i + 1⟩]
  | r :: t, i => if r.f1 = i then ⟨r.f0, i + 1⟩ :: t else ⟨i, i + 1⟩ :: r :: t
def runs (P : Int → Bool) : Nat → List S34
  | 0 => []
  | n + 1 => if P n = true then addR (runs P n) n else runs P n
theorem addR_facts {acc : List S34} {i : Int} (h0 : 0 ≤ i) (h : NFr acc) (hb : ∀ r ∈ acc, r.f1 ≤ i) : NFr (addR acc i) ∧ (∀ r ∈ addR acc i, r.f1 ≤ i + 1) ∧ (∀ j, cv (addR acc i) j ↔ cv acc j ∨ j = i) ∧ (addR acc i).length ≤ acc.length + 1 := by
  match acc, h, hb with
  | [], h, _ =>
    refine ⟨⟨fun q hq => ?_, by simp [addR]⟩, fun q hq => ?_, fun j => ?_, by simp [addR]⟩
    · simp only [addR, List.mem_singleton] at hq
      rw [hq]
      simp only
      omega
    · simp only [addR, List.mem_singleton] at hq
      rw [hq]
      exact Int.le_refl _
    · rw [addR, cv_cons]
      simp only [cv_nil, or_false, false_or]
      omega
  | r :: t, h, hb =>
    have hr := h.1 r (by simp)
    have hrb := hb r (by simp)
    obtain ⟨hp1, hp2⟩ := List.pairwise_cons.1 h.2
    by_cases c : r.f1 = i
    · rw [show addR (r :: t) i = ⟨r.f0, i + 1⟩ :: t from if_pos c]
      refine ⟨⟨fun q hq => ?_, List.pairwise_cons.2 ⟨hp1, hp2⟩⟩, fun q hq => ?_, fun j => ?_, by simp⟩
      · rcases List.mem_cons.1 hq with rfl | hq
        · simp only; omega
        · exact h.1 q (by simp [hq])
      · rcases List.mem_cons.1 hq with rfl | hq
        · exact Int.le_refl _
        · have := hb q (by simp [hq]); omega
      · rw [cv_cons, cv_cons]
        simp only
        constructor
        · rintro (h1 | h1)
          · by_cases c2 : j = i
            · exact .inr c2
            · exact .inl (.inl (by omega))
          · exact .inl (.inr h1)
        · rintro ((h1 | h1) | h1)
          · exact .inl (by omega)
          · exact .inr h1
          · exact .inl (by omega)
    · rw [show addR (r :: t) i = ⟨i, i + 1⟩ :: r :: t from if_neg c]
      refine ⟨⟨fun q hq => ?_, List.pairwise_cons.2 ⟨fun q hq => ?_, h.2⟩⟩, fun q hq => ?_, fun j => ?_, by simp⟩
      · rcases List.mem_cons.1 hq with rfl | hq
        · simp only; omega
        · exact h.1 q hq
      · rcases List.mem_cons.1 hq with rfl | hq
        · simp only; omega
        · have := hp1 q hq
          simp only
          omega
      · rcases List.mem_cons.1 hq with rfl | hq
        · exact Int.le_refl _
        · have := hb q hq; omega
      · rw [cv_cons, or_comm]
        simp only
        constructor
        · rintro (h1 | h1)
          · exact .inl h1
          · exact .inr (by omega)
        · rintro (h1 | h1)
          · exact .inl h1
          · exact .inr (by omega)
theorem runs_facts (P : Int → Bool) : ∀ n : Nat, NFr (runs P n) ∧ (∀ r ∈ runs P n, r.f1 ≤ n) ∧ (∀ j, cv (runs P n) j ↔ 0 ≤ j ∧ j < n ∧ P j = true) ∧ (runs P n).length ≤ n
  | 0 => ⟨⟨(fun _ h => nomatch h), List.Pairwise.nil⟩, (fun _ h => nomatch h), fun j => ⟨fun h => absurd h (cv_nil _), fun h => absurd h (by omega)⟩, Nat.le_refl _⟩
  | n + 1 => by
    obtain ⟨h1, h2, h3, h4⟩ := runs_facts P n
    by_cases c : P n = true
    · rw [show runs P (n + 1) = addR (runs P n) n from if_pos c]
      obtain ⟨g1, g2, g3, g4⟩ := addR_facts (i := n) (by omega) h1 h2
      refine ⟨g1, fun r hr => by have := g2 r hr; omega, fun j => ?_, by omega⟩
      rw [g3, h3]
      constructor
      · rintro (h | rfl)
        · exact ⟨h.1, by omega, h.2.2⟩
        · exact ⟨by omega, by omega, c⟩
      · rintro ⟨k1, k2, k3⟩
        by_cases e : j = n
        · exact .inr e
        · exact .inl ⟨k1, by omega, k3⟩
    · rw [show runs P (n + 1) = runs P n from if_neg c]
      refine ⟨h1, fun r hr => by have := h2 r hr; omega, fun j => ?_, by omega⟩
      rw [h3]
      constructor
      · rintro ⟨k1, k2, k3⟩
        exact ⟨k1, by omega, k3⟩
      · rintro ⟨k1, k2, k3⟩
        refine ⟨k1, ?_, k3⟩
        by_cases e : j = n
        · exact absurd (e ▸ k3) c
        · omega
open Classical in
noncomputable def chg (es : List S45) (a b : S24) (j : Int) : Bool := !((From.fromV (es.map edE) j).2 && decide (mk b j = mk a (From.fromV (es.map edE) j).1))
theorem chg_iff (es : List S45) (a b : S24) (j : Int) : chg es a b j = false ↔ (From.fromV (es.map edE) j).2 = true ∧ mk b j = mk a (From.fromV (es.map edE) j).1 := by
  unfold chg
  simp only [Bool.not_eq_false', Bool.and_eq_true, decide_eq_true_eq]
theorem chg_true (es : List S45) (a b : S24) (j : Int) (h : ¬ ((From.fromV (es.map edE) j).2 = true ∧ mk b j = mk a (From.fromV (es.map edE) j).1)) : chg es a b j = true := by
  cases hc : chg es a b j with
  | true => rfl
  | false => exact absurd ((chg_iff es a b j).1 hc) h
theorem changed_j1 (a b : S24) (es : List S45) (n : Int) (v : List S34) (acc : List S34) (hl : acc.length ≤ 65536) (i : Nat) (hi : i ≤ 65536)
    (h : Ev (fun k => diff_Changed.l0 k es (addR acc i).reverse n ((i + 1 : Nat) : Int) a.f0 a.f1 a.f2 a.f3 a.f4 a.f5 a.f6 b.f0 b.f1 b.f2 b.f3 b.f4 b.f5 b.f6) v) :
    Ev (fun k => diff_Changed.j1 k es acc.reverse i n i false a.f0 a.f1 a.f2 a.f3 a.f4 a.f5 a.f6 b.f0 b.f1 b.f2 b.f3 b.f4 b.f5 b.f6) v := by
  refine Ev.step (fun k => ?_) h
  simp only [diff_Changed.j1]
  rw [if_neg (by simp)]
  match acc, hl with
  | [], hl =>
    rw [if_neg (by simp), if_pos (by simp), w64 (x := (i : Int) + 1) (by omega) (by omega)]
    rfl
  | r :: t, hl =>
    have ht : (r :: t).reverse.length = t.length + 1 := by simp
    have hl' : t.length + 1 ≤ 65536 := hl
    have e : (wrap64 (((r :: t).reverse.length : Int) - 1)) = t.reverse.length := by
      rw [ht, List.length_reverse, w64 (by omega) (by omega)]
      omega
    rw [if_pos (by rw [ht]; omega), e, if_pos (by omega), if_pos (by rw [ht, List.length_reverse]; omega), w64 (x := (i : Int) + 1) (by omega) (by omega), List.reverse_cons, rd_app _ _ _ rfl, set_app _ _ _ _ rfl]
    by_cases c : r.f1 = i
    · rw [if_pos c, show addR (r :: t) i = ⟨r.f0, i + 1⟩ :: t from if_pos c, c, w64 (by omega) (by omega), List.reverse_cons]
      rfl
    · rw [if_neg c, show addR (r :: t) i = ⟨i, i + 1⟩ :: r :: t from if_neg c, if_pos (by rw [← List.reverse_cons, ht]; omega), List.reverse_cons, List.reverse_cons]
      rfl
theorem changed_l0 (a b : S24) (ha : szN24 a ≤ 300) (hb : szN24 b ≤ 300) (es : List S45) (n : Nat) (hn : n ≤ 65536) (d : Nat) : ∀ i : Nat, i + d = n →
    Ev (fun k => diff_Changed.l0 k es (runs (chg es a b) i).reverse (n : Int) i a.f0 a.f1 a.f2 a.f3 a.f4 a.f5 a.f6 b.f0 b.f1 b.f2 b.f3 b.f4 b.f5 b.f6) (runs (chg es a b) n).reverse := by
  induction d with
  | zero =>
    intro i hi
    obtain rfl : i = n := by omega
    obtain ⟨h1, h2, h3, h4⟩ := runs_facts (chg es a b) i
    refine Ev.step (f := fun k => (span_Norm.f k (runs (chg es a b) i).reverse).bind fun t => some t) (fun k => ?_) (Ev.bind (snorm_nf (nfr_rev h1) (by rw [List.length_reverse]; omega)) (evAt fun _ => rfl))
    simp only [diff_Changed.l0]
    rw [if_neg (by omega)]
  | succ d ih =>
    intro i hi
    have hrec := ih (i + 1) (by omega)
    obtain ⟨h1, h2, h3, h4⟩ := runs_facts (chg es a b) i
    have hF : diff_From.f es (i : Int) = some (From.fromV (es.map edE) i) := rfl
    have hout : chg es a b i = true → Ev (fun k => diff_Changed.j1 k es (runs (chg es a b) i).reverse i n i false a.f0 a.f1 a.f2 a.f3 a.f4 a.f5 a.f6 b.f0 b.f1 b.f2 b.f3 b.f4 b.f5 b.f6) (runs (chg es a b) n).reverse := fun hc => by
      refine changed_j1 a b es n _ _ (by omega) i (by omega) ?_
      rw [show runs (chg es a b) (i + 1) = addR (runs (chg es a b) i) i from if_pos hc] at hrec
      exact hrec
    have hin : chg es a b i = false → Ev (fun k => diff_Changed.j1 k es (runs (chg es a b) i).reverse i n i true a.f0 a.f1 a.f2 a.f3 a.f4 a.f5 a.f6 b.f0 b.f1 b.f2 b.f3 b.f4 b.f5 b.f6) (runs (chg es a b) n).reverse := fun hc => by
      rw [show runs (chg es a b) (i + 1) = runs (chg es a b) i from if_neg (by rw [hc]; simp)] at hrec
      refine Ev.step (fun k => ?_) hrec
      simp only [diff_Changed.j1]
      rw [if_pos trivial, w64 (x := (i : Int) + 1) (by omega) (by omega)]
      rfl
    cases ho : (From.fromV (es.map edE) (i : Int)).2 with
    | false =>
      refine Ev.step (fun k => ?_) (hout (chg_true _ _ _ _ (by rw [ho]; exact fun h => nomatch h.1)))
      simp only [diff_Changed.l0]
      rw [if_pos (by omega), hF]
      simp only [Option.bind_some, ho]
      rfl
    | true =>
      obtain ⟨t, e1, g1⟩ := equal_Ev (mk b i) (mk a (From.fromV (es.map edE) (i : Int)).1) (by have := mk_len b i hb; omega) (by have := mk_len a (From.fromV (es.map edE) (i : Int)).1 ha; omega)
      have hj : Ev (fun k => diff_Changed.j1 k es (runs (chg es a b) i).reverse i n i t a.f0 a.f1 a.f2 a.f3 a.f4 a.f5 a.f6 b.f0 b.f1 b.f2 b.f3 b.f4 b.f5 b.f6) (runs (chg es a b) n).reverse := by
        cases t with
        | true => exact hin ((chg_iff _ _ _ _).2 ⟨ho, g1.1 rfl⟩)
        | false => exact hout (chg_true _ _ _ _ (fun h => nomatch g1.2 h.2))
      refine Ev.step (fun k => ?_) (Ev.bind e1 (f := fun k t => diff_Changed.j1 k es (runs (chg es a b) i).reverse i n i t a.f0 a.f1 a.f2 a.f3 a.f4 a.f5 a.f6 b.f0 b.f1 b.f2 b.f3 b.f4 b.f5 b.f6) hj)
      simp only [diff_Changed.l0]
      rw [if_pos (by omega), hF]
      simp only [Option.bind_some, ho, if_true]
      rw [marks_eq b _ hb]
      simp only [Option.bind_some]
      rw [marks_eq a _ ha]
      simp only [Option.bind_some]
theorem changed_Ev {a b : S24} (ha : szN24 a ≤ 300) (hb : szN24 b ≤ 300) (es : List S45) (n : Nat) (hn : n ≤ 65536) :
    Ev (fun k => diff_Changed.f k a.f0 a.f1 a.f2 a.f3 a.f4 a.f5 a.f6 b.f0 b.f1 b.f2 b.f3 b.f4 b.f5 b.f6 es (n : Int)) (runs (chg es a b) n).reverse := by
  have h := changed_l0 a b ha hb es n hn n 0 (by omega)
  have e : mn (mx (n : Int) 0) 65536 = n := by
    have h1 := mx_le (n : Int) 0
    have h2 := mn_le (mx (n : Int) 0) 65536
    omega
  unfold diff_Changed.f
  rw [e]
  exact h
theorem alike_Ev {a b : S24} (ha : szN24 a ≤ 300) (hb : szN24 b ≤ 300) (n : Nat) (hn : n ≤ 65536) :
    Ev (fun k => diff_Alike.f k a.f0 a.f1 a.f2 a.f3 a.f4 a.f5 a.f6 b.f0 b.f1 b.f2 b.f3 b.f4 b.f5 b.f6 (n : Int)) (((runs (chg [] a b) n).reverse.length : Int) == 0) :=
  Ev.bind (changed_Ev ha hb [] n hn) (evAt fun _ => rfl)
/-- A row of none. -/
theorem runs_none (P : Int → Bool) (n : Nat) (h : ∀ j : Int, 0 ≤ j → j < n → P j = false) : runs P n = [] := by
  obtain ⟨h1, h2, h3, h4⟩ := runs_facts P n
  match hr : runs P n with
  | [] => rfl
  | r :: t =>
    have hn : NF (runs P n).reverse := nfr_rev h1
    have hr0 := h1.1 r (by rw [hr]; simp)
    have : cv (runs P n) r.f0 := by rw [hr, cv_cons]; exact .inl (by omega)
    obtain ⟨k1, k2, k3⟩ := (h3 _).1 this
    rw [h _ k1 k2] at k3
    cases k3
theorem from_nil (j : Int) (h : 0 ≤ j) : From.fromV (([] : List S45).map edE) j = (j, true) := by
  show (max j 0, decide (0 ≤ j)) = _
  rw [decide_eq_true h, Int.max_eq_left h]
theorem same34_l0 (A B : List S34) (hlen : A.length = B.length) (hA : A.length ≤ 1000000) (d : Nat) : ∀ i : Nat, i + d = A.length → ∃ b, Ev (fun k => brambleref02_Same.l0 k A B i) b ∧ (b = true ↔ A.drop i = B.drop i) := by
  induction d with
  | zero =>
    intro i hi
    refine ⟨true, evAt fun k => ?_, ⟨fun _ => ?_, fun _ => rfl⟩⟩
    · simp only [brambleref02_Same.l0]
      rw [if_neg (by omega)]
    · rw [List.drop_of_length_le (by omega), List.drop_of_length_le (by omega)]
  | succ d ih =>
    intro i hi
    rw [rd_dropR A i (by omega), rd_dropR B i (by omega)]
    have hne : ((!((rd_T34 A i).f0 == (rd_T34 B i).f0)) || (!((rd_T34 A i).f1 == (rd_T34 B i).f1))) = true ↔ rd_T34 A i ≠ rd_T34 B i := by
      obtain ⟨a, b⟩ := rd_T34 A i
      obtain ⟨a', b'⟩ := rd_T34 B i
      simp only [Bool.or_eq_true, Bool.not_eq_true', beq_eq_false_iff_ne, ne_eq, S34.mk.injEq]
      omega
    by_cases c : rd_T34 A i = rd_T34 B i
    · obtain ⟨b, e, g⟩ := ih (i + 1) (by omega)
      refine ⟨b, Ev.step (fun k => ?_) e, ?_⟩
      · simp only [brambleref02_Same.l0]
        rw [if_pos (by omega), if_pos (by omega), if_pos (by omega), if_neg (by rw [hne]; exact fun h => h c), w64 (x := (i : Int) + 1) (by omega) (by omega)]
        rfl
      · rw [g, c]
        simp
    · refine ⟨false, evAt fun k => ?_, by simp [c]⟩
      simp only [brambleref02_Same.l0]
      rw [if_pos (by omega), if_pos (by omega), if_pos (by omega), if_pos (by rw [hne]; exact c)]
theorem same34_Ev (A B : List S34) (hA : A.length ≤ 1000000) : ∃ b, Ev (fun k => brambleref02_Same.f k A B) b ∧ (b = true ↔ A = B) := by
  unfold brambleref02_Same.f
  by_cases c : A.length = B.length
  · obtain ⟨b, e, g⟩ := same34_l0 A B c hA A.length 0 (by omega)
    refine ⟨b, ?_, by simpa using g⟩
    simp only [if_pos (show (A.length : Int) = B.length by omega)]
    exact e
  · refine ⟨false, ?_, by simp; exact fun h => c (by rw [h])⟩
    simp only [if_neg (show ¬ (A.length : Int) = B.length by omega)]
    exact evAt fun _ => rfl
theorem same53_l0 (A B : List S53) (hlen : A.length = B.length) (hA : A.length ≤ 1000000) (d : Nat) : ∀ i : Nat, i + d = A.length → ∃ b, Ev (fun k => brambleref22_Same.l0 k A B i) b ∧ (b = true ↔ A.drop i = B.drop i) := by
  induction d with
  | zero =>
    intro i hi
    refine ⟨true, evAt fun k => ?_, ⟨fun _ => ?_, fun _ => rfl⟩⟩
    · simp only [brambleref22_Same.l0]
      rw [if_neg (by omega)]
    · rw [List.drop_of_length_le (by omega), List.drop_of_length_le (by omega)]
  | succ d ih =>
    intro i hi
    rw [rd_drop53 A i (by omega), rd_drop53 B i (by omega)]
    by_cases c : rd_T53 A i = rd_T53 B i
    · obtain ⟨b, e, g⟩ := ih (i + 1) (by omega)
      refine ⟨b, Ev.step (fun k => ?_) e, ?_⟩
      · simp only [brambleref22_Same.l0]
        rw [if_pos (by omega), if_pos (by omega), if_pos (by omega), if_neg (by rw [ne53]; exact fun h => h c), w64 (x := (i : Int) + 1) (by omega) (by omega)]
        rfl
      · rw [g, c]
        simp
    · refine ⟨false, evAt fun k => ?_, by simp [c]⟩
      simp only [brambleref22_Same.l0]
      rw [if_pos (by omega), if_pos (by omega), if_pos (by omega), if_pos (by rw [ne53]; exact c)]
theorem same53_Ev (A B : List S53) (hA : A.length ≤ 1000000) : ∃ b, Ev (fun k => brambleref22_Same.f k A B) b ∧ (b = true ↔ A = B) := by
  unfold brambleref22_Same.f
  by_cases c : A.length = B.length
  · obtain ⟨b, e, g⟩ := same53_l0 A B c hA A.length 0 (by omega)
    refine ⟨b, ?_, by simpa using g⟩
    simp only [if_pos (show (A.length : Int) = B.length by omega)]
    exact e
  · refine ⟨false, ?_, by simp; exact fun h => c (by rw [h])⟩
    simp only [if_neg (show ¬ (A.length : Int) = B.length by omega)]
    exact evAt fun _ => rfl
theorem same34_true {A B : List S34} (hA : A.length ≤ 1000000) (h : A = B) : Ev (fun k => brambleref02_Same.f k A B) true := by
  obtain ⟨b, e, g⟩ := same34_Ev A B hA
  rw [g.2 h] at e
  exact e
theorem same53_true {A B : List S53} (hA : A.length ≤ 1000000) (h : A = B) : Ev (fun k => brambleref22_Same.f k A B) true := by
  obtain ⟨b, e, g⟩ := same53_Ev A B hA
  rw [g.2 h] at e
  exact e
deriving instance DecidableEq for S53
theorem chg_self (s : S24) (j : Int) (h : 0 ≤ j) : chg [] s s j = false := by
  rw [chg_iff, from_nil j h]
  exact ⟨rfl, rfl⟩
def wA : S24 := ⟨⟨#[97]⟩, false, ⟨#[]⟩, 0, 3, 0, []⟩
def wB : S24 := ⟨⟨#[97]⟩, false, ⟨#[]⟩, 0, 4, 0, []⟩
def wE : List S45 := [⟨3, 0, ⟨#[120]⟩⟩]
theorem awake_runs : (runs (chg wE wA wB) 4).reverse = [⟨2, 4⟩] := by
  obtain ⟨h1, h2, h3, h4⟩ := runs_facts (chg wE wA wB) 4
  refine nf_one (nfr_rev h1) ⟨fun r hr => ?_, by simp⟩ fun j => ?_
  · simp only [List.mem_singleton] at hr
    rw [hr]
    decide
  · rw [cv_rev, h3, cv_cons]
    simp only [cv_nil, or_false]
    constructor
    · rintro ⟨k1, k2, k3⟩
      have e0 : chg wE wA wB 0 = false := (chg_iff _ _ _ _).2 (by decide +kernel)
      have e1 : chg wE wA wB 1 = false := (chg_iff _ _ _ _).2 (by decide +kernel)
      by_cases c0 : j = 0
      · rw [c0, e0] at k3; cases k3
      by_cases c1 : j = 1
      · rw [c1, e1] at k3; cases k3
      omega
    · rintro ⟨k1, k2⟩
      have e2 : chg wE wA wB 2 = true := chg_true _ _ _ _ (by decide +kernel)
      have e3 : chg wE wA wB 3 = true := chg_true _ _ _ _ (by decide +kernel)
      refine ⟨by omega, by omega, ?_⟩
      by_cases c : j = 2
      · rw [c]; exact e2
      · obtain rfl : j = 3 := by omega
        exact e3
theorem awake_Ev : Ev (fun k => bramblelaw22_awake.f k) true := by
  have hA : szN24 wA ≤ 300 := by decide +kernel
  have hB : szN24 wB ≤ 300 := by decide +kernel
  have h1 := changed_Ev hA hB wE 4 (by decide)
  rw [awake_runs] at h1
  have h2 := same34_true (A := [⟨2, 4⟩]) (by decide) (rfl : _ = ([⟨2, 4⟩] : List S34))
  have h3 : mk wA 2 = [⟨⟨#[97]⟩, false, true⟩] := by decide +kernel
  have h4 := same53_true (A := [⟨⟨#[97]⟩, false, true⟩]) (by decide) (rfl : _ = ([⟨⟨#[97]⟩, false, true⟩] : List S53))
  have h5 := alike_Ev hA hA 9 (by decide)
  rw [runs_none _ 9 (fun j k1 _ => chg_self wA j k1)] at h5
  have f2 : diff_From.f wE 2 = some (2, true) := by decide +kernel
  have f3 : diff_From.f wE 3 = some (0, false) := by decide +kernel
  have hm := marks_eq wA 2 hA
  rw [h3] at hm
  simp only [wA, wB, wE] at h1 h5 f2 f3 hm
  unfold bramblelaw22_awake.f
  simp only [Option.bind_some]
  rw [f2, f3, hm]
  simp only [Option.bind_some]
  refine Ev.bind h1 (Ev.bind h2 ?_)
  simp only [if_true]
  simp only [Bool.false_eq_true, if_false]
  refine Ev.bind h4 ?_
  simp only [if_true]
  exact Ev.bind h5 (evAt fun _ => rfl)
theorem from_one (t : ByteArray) (ht : t.size ≤ 140737488351232) (e : S45) (h : fitV t.size e.f0 e.f1 e.f2.size = 0) (b : Int) (hb0 : 0 ≤ b) (hb : b < (applyV t e.f0 e.f1 e.f2).1.size) (c : Int) (hc : From.fromR [edE e] b = some c) :
    0 ≤ c ∧ c < t.size ∧ t.data.toList[c.toNat]? = (applyV t e.f0 e.f1 e.f2).1.data.toList[b.toNat]? := by
  obtain ⟨h1, h2, h3, h4, h5⟩ := fitV_zero h
  have hs := applyV_size h
  rw [applyV_list h]
  unfold From.fromR edE at hc
  simp only at hc
  rw [if_neg (by omega)] at hc
  have hA : (t.data.toList.take e.f0.toNat).length = e.f0.toNat := by rw [List.length_take, ba_len]; omega
  by_cases c1 : b < e.f0
  · rw [if_pos c1] at hc
    obtain rfl : b = c := Option.some.inj hc
    refine ⟨hb0, by omega, ?_⟩
    rw [List.append_assoc, List.getElem?_append_left (by omega), List.getElem?_take_of_lt (by omega)]
  · rw [if_neg c1, w64 (by omega) (by omega)] at hc
    by_cases c2 : b - e.f0 < e.f2.size
    · rw [if_pos c2] at hc
      cases hc
    · rw [if_neg c2, w64 (x := e.f1 - (e.f2.size : Int)) (by omega) (by omega), w64 (by omega) (by omega)] at hc
      obtain rfl : b + (e.f1 - (e.f2.size : Int)) = c := Option.some.inj hc
      refine ⟨by omega, by omega, ?_⟩
      have hB : (t.data.toList.take e.f0.toNat ++ e.f2.data.toList).length = e.f0.toNat + e.f2.size := by rw [List.length_append, hA, ba_len]
      rw [List.getElem?_append_right (by omega), hB, List.getElem?_drop]
      congr 1
      omega
theorem back_ok (s : ByteArray) : ∀ (l : List S45) (t : ByteArray), t.size ≤ 140737488351232 → (allV s t l).2 = 0 → ∀ a : Int, 0 ≤ a → a < (allV s t l).1.size → ∀ b, From.fromR (l.map edE).reverse a = some b →
    0 ≤ b ∧ b < t.size ∧ t.data.toList[b.toNat]? = (allV s t l).1.data.toList[a.toNat]?
  | [], t, _, _, a, h0, h1, b, hb => by
    obtain rfl : a = b := Option.some.inj hb
    exact ⟨h0, h1, rfl⟩
  | e :: r, t, ht, h, a, h0, h1, b, hb => by
    unfold allV at h h1 ⊢
    by_cases c : (applyV t e.f0 e.f1 e.f2).2 = 0
    · rw [if_pos c] at h h1 ⊢
      rw [List.map_cons, List.reverse_cons, From.fromR_app] at hb
      obtain ⟨b', h2, h3⟩ := Option.bind_eq_some_iff.1 hb
      obtain ⟨k0, k1, k2⟩ := back_ok s r _ (applyV_bound ht) h a h0 h1 b' h2
      have hf : fitV t.size e.f0 e.f1 e.f2.size = 0 := by
        unfold applyV at c
        split at c
        · assumption
        · exact absurd c ‹_›
      obtain ⟨g0, g1, g2⟩ := from_one t ht e hf b' k0 k1 b h3
      exact ⟨g0, g1, g2.trans k2⟩
    · rw [if_neg c] at h
      exact absurd h c
theorem has_l0 (l : List S34) (hl : l.length ≤ 1000000) (a : Int) (ha : 0 ≤ a) (d : Nat) : ∀ i : Nat, i + d = l.length → ∃ b, Ev (fun k => brambleref02_Has.l0 k l a i) b ∧ (b = true ↔ cv (l.drop i) a) := by
  induction d with
  | zero =>
    intro i hi
    refine ⟨false, evAt fun k => ?_, ?_⟩
    · simp only [brambleref02_Has.l0]
      rw [if_neg (by omega)]
    · rw [List.drop_of_length_le (by omega)]
      exact ⟨(fun h => nomatch h), fun h => absurd h (cv_nil _)⟩
  | succ d ih =>
    intro i hi
    have hil : i < l.length := by omega
    obtain ⟨b, e, g⟩ := ih (i + 1) (by omega)
    rw [rd_dropR l i hil, cv_cons, ← g]
    by_cases c1 : (rd_T34 l i).f0 ≤ a
    · by_cases c2 : a < (rd_T34 l i).f1
      · refine ⟨true, evAt fun k => ?_, ⟨fun _ => .inl ⟨c1, c2⟩, fun _ => rfl⟩⟩
        simp only [brambleref02_Has.l0]
        rw [if_pos (by omega), if_pos (by omega), if_pos (by omega), if_pos c1, if_pos c2]
      · refine ⟨b, Ev.step (fun k => ?_) e, ⟨fun h => .inr h, fun h => h.elim (fun h => absurd h.2 c2) id⟩⟩
        simp only [brambleref02_Has.l0]
        rw [if_pos (by omega), if_pos (by omega), if_pos (by omega), if_pos c1, if_neg c2, w64 (x := (i : Int) + 1) (by omega) (by omega)]
        rfl
    · refine ⟨b, Ev.step (fun k => ?_) e, ⟨fun h => .inr h, fun h => h.elim (fun h => absurd h.1 c1) id⟩⟩
      simp only [brambleref02_Has.l0]
      rw [if_pos (by omega), if_pos (by omega), if_pos (by omega), if_neg c1, w64 (x := (i : Int) + 1) (by omega) (by omega)]
      rfl
theorem has_Ev (l : List S34) (hl : l.length ≤ 1000000) (a : Int) (ha : 0 ≤ a) : ∃ b, Ev (fun k => brambleref02_Has.f k l a) b ∧ (b = true ↔ cv l a) := by
  obtain ⟨b, e, g⟩ := has_l0 l hl a ha l.length 0 (by omega)
  exact ⟨b, e, by simpa using g⟩
theorem DiffJust : bramblelaw22_DiffJust.Pure := by
  intro s0 s1 a2 l3 a4 ok0 ok1 h2 h3 h4
  suffices Ev (fun k => bramblelaw22_DiffJust.f k s0.f0 s0.f1 s0.f2 s0.f3 s0.f4 s0.f5 s0.f6 s1.f0 s1.f1 s1.f2 s1.f3 s1.f4 s1.f5 s1.f6 a2 l3 a4) true by
    obtain ⟨K, h⟩ := this
    exact ⟨K, h K (Nat.le_refl _)⟩
  have awk : Ev (fun k => (bramblelaw22_awake.f k).bind fun t => some t) true := Ev.bind awake_Ev (evAt fun _ => rfl)
  have J : Ev (fun k => bramblelaw22_DiffJust.j0 k a2 l3 a4 true s0.f0 s0.f1 s0.f2 s0.f3 s0.f4 s0.f5 s0.f6 s1.f0 s1.f1 s1.f2 s1.f3 s1.f4 s1.f5 s1.f6) true := by
    refine Ev.step (fun k => ?_) awk
    simp only [bramblelaw22_DiffJust.j0]
    rw [if_pos trivial]
  have J1 : ∀ t, Ev (fun k => bramblelaw22_DiffJust.j1 k a2 l3 a4 t true s0.f0 s0.f1 s0.f2 s0.f3 s0.f4 s0.f5 s0.f6 s1.f0 s1.f1 s1.f2 s1.f3 s1.f4 s1.f5 s1.f6) true := fun t => by
    refine Ev.step (fun k => ?_) awk
    simp only [bramblelaw22_DiffJust.j1]
    rw [if_pos trivial]
  have J3 : ∀ t c, Ev (fun k => bramblelaw22_DiffJust.j3 k a2 l3 a4 t c true s0.f0 s0.f1 s0.f2 s0.f3 s0.f4 s0.f5 s0.f6 s1.f0 s1.f1 s1.f2 s1.f3 s1.f4 s1.f5 s1.f6) true := fun t c => by
    refine Ev.step (fun k => ?_) awk
    simp only [bramblelaw22_DiffJust.j3]
    rw [if_pos trivial]
  obtain ⟨g0, e0, w0⟩ := good_Ev ok0
  obtain ⟨g1, e1, w1⟩ := good_Ev ok1
  unfold bramblelaw22_DiffJust.f
  refine Ev.bind e0 ?_
  cases g0 with
  | false => simpa only [Bool.false_eq_true, if_false] using J
  | true =>
  simp only [if_true]
  refine Ev.bind e1 ?_
  cases g1 with
  | false => simpa only [Bool.false_eq_true, if_false] using J
  | true =>
  simp only [if_true]
  by_cases c : (a2.size : Int) > 200
  · simp only [if_pos c]
    exact J
  simp only [if_neg c]
  by_cases c' : (l3.length : Int) > 6
  · rw [decide_eq_true c']
    exact J
  rw [decide_eq_false c']
  obtain ⟨z0, _⟩ := w0 rfl
  obtain ⟨z1, _⟩ := w1 rfl
  have hall := allr_ev a2 l3 h2 (by omega) (fun e he => (h3.2 e he).2.2)
  have hres : ∀ p : ByteArray × Int, p = allV a2 a2 l3 → Ev (fun k => if p.2 = 0 then (bramblelaw22_DiffJust.j1 k a2 l3 a4 p.1 (decide ((p.1.size : Int) > 300)) s0.f0 s0.f1 s0.f2 s0.f3 s0.f4 s0.f5 s0.f6 s1.f0 s1.f1 s1.f2 s1.f3 s1.f4 s1.f5 s1.f6) else (bramblelaw22_DiffJust.j1 k a2 l3 a4 p.1 true s0.f0 s0.f1 s0.f2 s0.f3 s0.f4 s0.f5 s0.f6 s1.f0 s1.f1 s1.f2 s1.f3 s1.f4 s1.f5 s1.f6)) true := by
    rintro ⟨t, code⟩ hp
    by_cases d0 : code = 0
    · simp only [if_pos d0]
      by_cases d1 : (t.size : Int) > 300
      · rw [decide_eq_true d1]
        exact J1 t
      rw [decide_eq_false d1]
      have hcode : (allV a2 a2 l3).2 = 0 := by rw [← hp]; exact d0
      have ht : (allV a2 a2 l3).1 = t := by rw [← hp]
      have cc := changed_Ev z0 z1 l3 t.size (by omega)
      obtain ⟨p1, p2, p3, p4⟩ := runs_facts (chg l3 s0 s1) t.size
      have hnf := nfr_rev p1
      have hlen : (runs (chg l3 s0 s1) t.size).reverse.length ≤ 300 := by rw [List.length_reverse]; omega
      have hfit : Ev (fun k => brambleref02_Fit.f k (runs (chg l3 s0 s1) t.size).reverse) true :=
        Ev.bind (rnorm_nf hnf (by omega)) (Ev.bind (same34_true (by omega) rfl) (evAt fun _ => rfl))
      have hcv : ∀ j, cv (runs (chg l3 s0 s1) t.size).reverse j ↔ 0 ≤ j ∧ j < t.size ∧ chg l3 s0 s1 j = true := fun j => by rw [cv_rev, p3]
      have hends : ∀ r ∈ (runs (chg l3 s0 s1) t.size).reverse, r.f1 ≤ t.size := fun r hr => p2 r (List.mem_reverse.1 hr)
      generalize (runs (chg l3 s0 s1) t.size).reverse = cs at cc hnf hlen hfit hcv hends
      have K4 : 0 ≤ a4 → a4 < t.size → ∀ w ok, From.fromV (l3.map edE) a4 = (w, ok) → Ev (fun k => bramblelaw22_DiffJust.j4 k a4 cs w ok false s0.f0 s0.f1 s0.f2 s0.f3 s0.f4 s0.f5 s0.f6 s1.f0 s1.f1 s1.f2 s1.f3 s1.f4 s1.f5 s1.f6) true := by
        intro q0 q1 w ok hw
        obtain ⟨hb, eh, gh⟩ := has_Ev cs (by omega) a4 q0
        rw [hcv] at gh
        cases ok with
        | false =>
          have hb1 : hb = true := gh.2 ⟨q0, q1, chg_true _ _ _ _ (by rw [hw]; exact fun h => nomatch h.1)⟩
          refine Ev.step (f := fun k => (brambleref02_Has.f k cs a4).bind fun t244 => if (t244 == true) = true then ((bramblelaw22_awake.f k).bind fun t253 => (some t253)) else (some false)) (fun k => ?_) (Ev.bind eh ?_)
          · simp only [bramblelaw22_DiffJust.j4]
            rw [if_neg (by simp)]
            simp only [Bool.false_eq_true, if_false]
          · rw [hb1]
            exact awk
        | true =>
          obtain ⟨sm, es, gs⟩ := same53_Ev (mk s0 w) (mk s1 a4) (by have := mk_len s0 w z0; omega)
          have hbs : (hb == !sm) = true := by
            have hch := chg_iff l3 s0 s1 a4
            rw [hw] at hch
            cases hsm : sm with
            | true =>
              have h1 : chg l3 s0 s1 a4 = false := hch.2 ⟨rfl, (gs.1 hsm).symm⟩
              cases hb with
              | true => have := (gh.1 rfl).2.2; rw [h1] at this; cases this
              | false => rfl
            | false =>
              have h1 : chg l3 s0 s1 a4 = true := chg_true _ _ _ _ (by
                rw [hw]
                intro h
                have := gs.2 h.2.symm
                rw [hsm] at this
                cases this)
              rw [gh.2 ⟨q0, q1, h1⟩]
              rfl
          refine Ev.step (f := fun k => (brambleref02_Has.f k cs a4).bind fun t244 => ((brambleref22_Same.f k (mk s0 w) (mk s1 a4)).bind fun t251 => (if (t244 == (!t251)) = true then ((bramblelaw22_awake.f k).bind fun t252 => (some t252)) else (some false)))) (fun k => ?_) (Ev.bind eh (Ev.bind es ?_))
          · simp only [bramblelaw22_DiffJust.j4]
            rw [if_neg (by simp)]
            simp only [if_true, marks_eq s0 w z0, marks_eq s1 a4 z1, Option.bind_some]
          · simp only [hbs, if_true]
            exact awk
      have K3 : 0 ≤ a4 → a4 < t.size → Ev (fun k => bramblelaw22_DiffJust.j3 k a2 l3 a4 t cs false s0.f0 s0.f1 s0.f2 s0.f3 s0.f4 s0.f5 s0.f6 s1.f0 s1.f1 s1.f2 s1.f3 s1.f4 s1.f5 s1.f6) true := by
        intro q0 q1
        have hF : diff_From.f l3 a4 = some (From.fromV (l3.map edE) a4) := rfl
        obtain ⟨w, ok, hw⟩ : ∃ w ok, From.fromV (l3.map edE) a4 = (w, ok) := ⟨_, _, rfl⟩
        have k4 := K4 q0 q1 w ok hw
        cases ok with
        | false =>
          refine Ev.step (fun k => ?_) k4
          simp only [bramblelaw22_DiffJust.j3]
          rw [if_neg (by simp), hF, hw]
          simp only [Option.bind_some, Bool.false_eq_true, if_false]
        | true =>
          have hb := hw
          unfold From.fromV at hb
          cases hr : From.fromR (l3.map edE).reverse a4 with
          | none => rw [hr] at hb; cases hb
          | some b =>
            rw [hr] at hb
            obtain ⟨k0, k1, k2⟩ := back_ok a2 l3 a2 h2 hcode a4 q0 (by rw [ht]; exact q1) b hr
            rw [ht] at k2
            obtain rfl : b = w := by
              have := (Prod.mk.inj hb).1
              rw [Int.max_eq_left k0] at this
              exact this
            have hne : ((bt a2 b) != (bt t a4)) = false := by
              rw [(ba_bt_eq a2 t b a4 k0 k1 q0 q1).2 k2]
              simp
            refine Ev.step (fun k => ?_) k4
            simp only [bramblelaw22_DiffJust.j3]
            rw [if_neg (by simp), hF, hw]
            simp only [Option.bind_some, if_true]
            rw [if_neg (by omega), if_pos k0, if_pos k1, if_pos q0, if_pos q1, hne]
      have K2 : Ev (fun k => bramblelaw22_DiffJust.j2 k a2 l3 a4 t cs false s0.f0 s0.f1 s0.f2 s0.f3 s0.f4 s0.f5 s0.f6 s1.f0 s1.f1 s1.f2 s1.f3 s1.f4 s1.f5 s1.f6) true := by
        by_cases q0 : a4 < 0
        · refine Ev.step (fun k => ?_) (J3 t cs)
          simp only [bramblelaw22_DiffJust.j2]
          rw [if_neg (by simp), if_pos q0]
        · by_cases q1 : a4 ≥ t.size
          · refine Ev.step (fun k => ?_) (J3 t cs)
            simp only [bramblelaw22_DiffJust.j2]
            rw [if_neg (by simp), if_neg q0, decide_eq_true q1]
          · refine Ev.step (fun k => ?_) (K3 (by omega) (by omega))
            simp only [bramblelaw22_DiffJust.j2]
            rw [if_neg (by simp), if_neg q0, decide_eq_false q1]
      refine Ev.step (f := fun k => (diff_Changed.f k s0.f0 s0.f1 s0.f2 s0.f3 s0.f4 s0.f5 s0.f6 s1.f0 s1.f1 s1.f2 s1.f3 s1.f4 s1.f5 s1.f6 l3 (t.size : Int)).bind fun t236 => ((brambleref02_Fit.f k t236).bind fun t239 => (if t239 = true then (if (t236.length : Int) > 0 then (if 0 ≤ (wrap64 ((t236.length : Int) - 1)) then (if (wrap64 ((t236.length : Int) - 1)) < (t236.length : Int) then (bramblelaw22_DiffJust.j2 k a2 l3 a4 t t236 (decide (((rd_T34 t236 (wrap64 ((t236.length : Int) - 1))).f1) > (t.size : Int))) s0.f0 s0.f1 s0.f2 s0.f3 s0.f4 s0.f5 s0.f6 s1.f0 s1.f1 s1.f2 s1.f3 s1.f4 s1.f5 s1.f6) else (none)) else (none)) else (bramblelaw22_DiffJust.j2 k a2 l3 a4 t t236 false s0.f0 s0.f1 s0.f2 s0.f3 s0.f4 s0.f5 s0.f6 s1.f0 s1.f1 s1.f2 s1.f3 s1.f4 s1.f5 s1.f6)) else (bramblelaw22_DiffJust.j2 k a2 l3 a4 t t236 true s0.f0 s0.f1 s0.f2 s0.f3 s0.f4 s0.f5 s0.f6 s1.f0 s1.f1 s1.f2 s1.f3 s1.f4 s1.f5 s1.f6))))
        (fun k => ?_) (Ev.bind cc (Ev.bind hfit ?_))
      · simp only [bramblelaw22_DiffJust.j1]
        rw [if_neg (by simp)]
      · simp only [if_true]
        by_cases r0 : (cs.length : Int) > 0
        · have ew : wrap64 ((cs.length : Int) - 1) = ((cs.length - 1 : Nat) : Int) := by rw [w64 (by omega) (by omega)]; omega
          have hm : rd_T34 cs ((cs.length - 1 : Nat) : Int) ∈ cs := by
            unfold rd_T34
            rw [List.getD_eq_getElem?_getD, Int.toNat_natCast, List.getElem?_eq_getElem (by omega)]
            exact List.getElem_mem (by omega)
          have := hends _ hm
          have n0 : (0 : Int) ≤ ((cs.length - 1 : Nat) : Int) := by omega
          have n1 : ((cs.length - 1 : Nat) : Int) < (cs.length : Int) := by omega
          simp only [if_pos r0, ew, if_pos n0, if_pos n1]
          rw [decide_eq_false (by omega)]
          exact K2
        · simp only [if_neg r0]
          exact K2
    · simp only [if_neg d0]
      exact J1 t
  refine Ev.step (fun k => ?_) (Ev.bind hall (f := fun k p => if p.2 = 0 then (bramblelaw22_DiffJust.j1 k a2 l3 a4 p.1 (decide ((p.1.size : Int) > 300)) s0.f0 s0.f1 s0.f2 s0.f3 s0.f4 s0.f5 s0.f6 s1.f0 s1.f1 s1.f2 s1.f3 s1.f4 s1.f5 s1.f6) else (bramblelaw22_DiffJust.j1 k a2 l3 a4 p.1 true s0.f0 s0.f1 s0.f2 s0.f3 s0.f4 s0.f5 s0.f6 s1.f0 s1.f1 s1.f2 s1.f3 s1.f4 s1.f5 s1.f6)) (hres _ rfl))
  simp only [bramblelaw22_DiffJust.j0]
  rw [if_neg (by simp)]

end Go.Proofs.Ytefkdfjdlhmknaa.Pure
