/- SpanSizes: what either has and what both have are together as many bytes as each; and what one has without the other is what is left. No condition. -/
import Derived.Test.YtebphbnkogianaaStaSpanSizes
namespace Go.Proofs.Ytebphbnkogianaa.Pure
set_option linter.unusedVariables false
set_option linter.unusedSimpArgs false
open Go.RowKit Go.Proofs.Ytebphbnkogianaa.PSpanSizes Go.Proofs.YtebphbnkogianaaW.PrintWords Go.Proofs.YtebphbnkogianaaW.PrintLast Go.Proofs.YtebphbnkogianaaW.PrintMore

theorem w64 {x : Int} (h1 : -9223372036854775808 ≤ x) (h2 : x ≤ 9223372036854775807) : wrap64 x = x := by
  unfold wrap64
  omega
theorem wf64 {x : Int} (h : (Lit.int .i64 x).wf = true) : -9223372036854775808 ≤ x ∧ x ≤ 9223372036854775807 := by
  simp only [Lit.wf, Bool.and_eq_true, decide_eq_true_eq] at h
  have e1 : IntKind.i64.min = -9223372036854775808 := rfl
  have e2 : IntKind.i64.max = 9223372036854775807 := rfl
  omega
theorem evAt {α : Type} {g : Nat → Option α} {r : α} (h : ∀ k, g (k + 1) = some r) : Ev g r := ⟨1, fun k hk => by obtain ⟨m, rfl⟩ : ∃ m, k = m + 1 := ⟨k - 1, by omega⟩; exact h m⟩
theorem ba_ext {a b : ByteArray} (h : a.data.toList = b.data.toList) : a = b := by
  obtain ⟨⟨a⟩⟩ := a
  obtain ⟨⟨b⟩⟩ := b
  simpa using h
theorem ba_len (a : ByteArray) : a.data.toList.length = a.size := by rw [Array.length_toList]; rfl
theorem ba_append (a b : ByteArray) : (a ++ b).data.toList = a.data.toList ++ b.data.toList := by rw [ByteArray.data_append, Array.toList_append]
theorem ba_extract (a : ByteArray) (i j : Nat) : (a.extract i j).data.toList = (a.data.toList.take j).drop i := by
  rw [ByteArray.data_extract, Array.toList_extract, List.extract_eq_take_drop, List.drop_take]
theorem ba_get (a : ByteArray) (i : Nat) (h : i < a.size) : a[i]'h = a.data.toList[i]'(by rw [ba_len]; exact h) := rfl
theorem ba_bt (a : ByteArray) (i : Int) (h0 : 0 ≤ i) (h : i < a.size) : bt a i = ((a.data.toList[i.toNat]'(by rw [ba_len]; omega)).toNat : Int) := by
  unfold bt
  rw [dif_pos (by omega), ba_get]
theorem ba_bt_eq (a b : ByteArray) (i j : Int) (h0 : 0 ≤ i) (h1 : i < a.size) (h2 : 0 ≤ j) (h3 : j < b.size) : bt a i = bt b j ↔ a.data.toList[i.toNat]? = b.data.toList[j.toNat]? := by
  rw [ba_bt a i h0 h1, ba_bt b j h2 h3, List.getElem?_eq_getElem (by rw [ba_len]; omega), List.getElem?_eq_getElem (by rw [ba_len]; omega), Option.some.injEq, Int.ofNat_inj]
  exact UInt8.toNat_inj

def fitV (n at_ old tn : Int) : Int := if at_ < 0 ∨ old < 0 ∨ at_ > n ∨ old > n - at_ then 13 else if n - old + tn > 65536 then 12 else 0
theorem fitV_zero {n at_ old tn : Int} (h : fitV n at_ old tn = 0) : 0 ≤ at_ ∧ 0 ≤ old ∧ at_ ≤ n ∧ old ≤ n - at_ ∧ n - old + tn ≤ 65536 := by
  unfold fitV at h
  split at h
  · omega
  · split at h <;> omega
theorem fitV_of {n at_ old tn : Int} (h : 0 ≤ at_ ∧ 0 ≤ old ∧ at_ ≤ n ∧ old ≤ n - at_ ∧ n - old + tn ≤ 65536) : fitV n at_ old tn = 0 := by
  unfold fitV
  rw [if_neg (by omega), if_neg (by omega)]
def applyV (s : ByteArray) (at_ old : Int) (t : ByteArray) : ByteArray × Int :=
  if fitV s.size at_ old t.size = 0 then ((s.extract 0 at_.toNat ++ t) ++ s.extract (at_ + old).toNat s.size, 0) else (s, fitV s.size at_ old t.size)
theorem applyV_list {s : ByteArray} {at_ old : Int} {t : ByteArray} (h : fitV s.size at_ old t.size = 0) :
    (applyV s at_ old t).1.data.toList = s.data.toList.take at_.toNat ++ t.data.toList ++ s.data.toList.drop (at_ + old).toNat := by
  unfold applyV
  rw [if_pos h]
  simp only [ba_append, ba_extract, List.drop_zero]
  rw [List.take_of_length_le (l := s.data.toList) (i := s.size) (by rw [ba_len]; exact Nat.le_refl _)]
theorem applyV_size {s : ByteArray} {at_ old : Int} {t : ByteArray} (h : fitV s.size at_ old t.size = 0) :
    ((applyV s at_ old t).1.size : Int) = s.size - old + t.size := by
  obtain ⟨h1, h2, h3, h4, h5⟩ := fitV_zero h
  have := congrArg List.length (applyV_list h)
  rw [ba_len] at this
  rw [this]
  simp only [List.length_append, List.length_take, List.length_drop, ba_len]
  omega
/-! ### Rows of ranges in normal form -/
def cv (l : List S34) (i : Int) : Prop := ∃ r ∈ l, r.f0 ≤ i ∧ i < r.f1
theorem cv_nil (i : Int) : ¬ cv [] i := by rintro ⟨r, h, _⟩; cases h
theorem cv_cons (r : S34) (t : List S34) (i : Int) : cv (r :: t) i ↔ (r.f0 ≤ i ∧ i < r.f1) ∨ cv t i := by
  constructor
  · rintro ⟨q, h, hq⟩
    rcases List.mem_cons.1 h with rfl | h
    · exact .inl hq
    · exact .inr ⟨q, h, hq⟩
  · rintro (h | ⟨q, h, hq⟩)
    · exact ⟨r, by simp, h⟩
    · exact ⟨q, by simp [h], hq⟩
theorem cv_app (s t : List S34) (i : Int) : cv (s ++ t) i ↔ cv s i ∨ cv t i := by
  induction s with
  | nil => simp [cv_nil]
  | cons r s ih => rw [List.cons_append, cv_cons, cv_cons, ih, or_assoc]
theorem cv_mem {s t : List S34} (h : ∀ r, r ∈ s ↔ r ∈ t) (i : Int) : cv s i ↔ cv t i := by
  constructor
  · rintro ⟨r, hr, hi⟩; exact ⟨r, (h r).1 hr, hi⟩
  · rintro ⟨r, hr, hi⟩; exact ⟨r, (h r).2 hr, hi⟩
theorem cv_rev (s : List S34) (i : Int) : cv s.reverse i ↔ cv s i := cv_mem (fun r => List.mem_reverse) i
/-- Every range holds a byte, none lies before 0. -/
def Pos (l : List S34) : Prop := ∀ r ∈ l, 0 ≤ r.f0 ∧ r.f0 < r.f1
def NF (l : List S34) : Prop := Pos l ∧ l.Pairwise (fun a b => a.f1 < b.f0)
theorem nf_nil : NF [] := ⟨(fun _ h => nomatch h), List.Pairwise.nil⟩
theorem nf_tail {r : S34} {t : List S34} (h : NF (r :: t)) : NF t := ⟨fun q hq => h.1 q (by simp [hq]), (List.pairwise_cons.1 h.2).2⟩
theorem nf_first {r : S34} {t : List S34} (h : NF (r :: t)) {i : Int} (hi : cv t i) : r.f1 < i := by
  obtain ⟨q, hq, h1, h2⟩ := hi
  have := (List.pairwise_cons.1 h.2).1 q hq
  omega
theorem nf_lo {r : S34} {t : List S34} (h : NF (r :: t)) {i : Int} (hi : cv (r :: t) i) : r.f0 ≤ i := by
  rcases (cv_cons _ _ _).1 hi with h1 | h1
  · exact h1.1
  · have := nf_first h h1
    have := h.1 r (by simp)
    omega
theorem nf_head {r : S34} {t : List S34} (h : NF (r :: t)) : cv (r :: t) r.f0 := (cv_cons _ _ _).2 (.inl (by have := h.1 r (by simp); omega))
theorem nf_ends {r q : S34} {t s : List S34} (hr : NF (r :: t)) (hq : NF (q :: s)) (h : ∀ i, cv (q :: s) i → cv (r :: t) i) (e : r.f0 = q.f0) : q.f1 ≤ r.f1 := by
  by_cases c : q.f1 ≤ r.f1
  · exact c
  · have h1 := hr.1 r (by simp)
    have h2 := hq.1 q (by simp)
    have h3 := h r.f1 ((cv_cons _ _ _).2 (.inl (by omega)))
    rcases (cv_cons _ _ _).1 h3 with h4 | h4
    · omega
    · have := nf_first hr h4
      omega
theorem nf_one : ∀ {l m : List S34}, NF l → NF m → (∀ i, cv l i ↔ cv m i) → l = m
  | [], [], _, _, _ => rfl
  | [], q :: s, _, hm, h => absurd ((h _).2 (nf_head hm)) (cv_nil _)
  | r :: t, [], hl, _, h => absurd ((h _).1 (nf_head hl)) (cv_nil _)
  | r :: t, q :: s, hl, hm, h => by
    have e0 : r.f0 = q.f0 := by
      have h1 := nf_lo hm ((h _).1 (nf_head hl))
      have h2 := nf_lo hl ((h _).2 (nf_head hm))
      omega
    have e1 : r.f1 = q.f1 := by
      have h1 := nf_ends hl hm (fun i => (h i).2) e0
      have h2 := nf_ends hm hl (fun i => (h i).1) e0.symm
      omega
    have e : r = q := by cases r; cases q; simp_all
    subst e
    congr 1
    refine nf_one (nf_tail hl) (nf_tail hm) fun i => ?_
    constructor
    · intro hi
      have h1 := nf_first hl hi
      rcases (cv_cons _ _ _).1 ((h i).1 ((cv_cons _ _ _).2 (.inr hi))) with h2 | h2
      · omega
      · exact h2
    · intro hi
      have h1 := nf_first hm hi
      rcases (cv_cons _ _ _).1 ((h i).2 ((cv_cons _ _ _).2 (.inr hi))) with h2 | h2
      · omega
      · exact h2
/-! ### The merging of a row that stands in order of its beginnings (what lies behind stands first) -/
def mstep : List S34 → S34 → List S34
  | [], r => [r]
  | q :: t, r => if r.f0 ≤ q.f1 then ⟨q.f0, mx q.f1 r.f1⟩ :: t else r :: q :: t
def NFr (l : List S34) : Prop := Pos l ∧ l.Pairwise (fun a b => b.f1 < a.f0)
theorem nfr_rev {l : List S34} (h : NFr l) : NF l.reverse := ⟨fun r hr => h.1 r (List.mem_reverse.1 hr), List.pairwise_reverse.2 h.2⟩
theorem nf_rev {l : List S34} (h : NF l) : NFr l.reverse := ⟨fun r hr => h.1 r (List.mem_reverse.1 hr), List.pairwise_reverse.2 h.2⟩
theorem mx_le (a b : Int) : a ≤ mx a b ∧ b ≤ mx a b ∧ (mx a b = a ∨ mx a b = b) := by unfold mx; split <;> omega
theorem mn_le (a b : Int) : mn a b ≤ a ∧ mn a b ≤ b ∧ (mn a b = a ∨ mn a b = b) := by unfold mn; split <;> omega
theorem mstep_nf {acc : List S34} {r : S34} (h : NFr acc) (hr : 0 ≤ r.f0 ∧ r.f0 < r.f1) (hle : ∀ q ∈ acc, q.f0 ≤ r.f0) : NFr (mstep acc r) ∧ (∀ i, cv (mstep acc r) i ↔ cv acc i ∨ (r.f0 ≤ i ∧ i < r.f1)) ∧ (∀ q ∈ mstep acc r, q.f0 ≤ r.f0) ∧ (mstep acc r).length ≤ acc.length + 1 := by
  match acc, h, hle with
  | [], h, _ => exact ⟨⟨fun q hq => by simp [mstep] at hq; rw [hq]; exact hr, by simp [mstep]⟩, fun i => by rw [mstep, cv_cons]; simp [cv_nil], by simp [mstep], by simp [mstep]⟩
  | q :: t, h, hle =>
    have hq := h.1 q (by simp)
    have hqr := hle q (by simp)
    obtain ⟨hp1, hp2⟩ := List.pairwise_cons.1 h.2
    by_cases c : r.f0 ≤ q.f1
    · rw [show mstep (q :: t) r = ⟨q.f0, mx q.f1 r.f1⟩ :: t from if_pos c]
      have hm := mx_le q.f1 r.f1
      refine ⟨⟨fun p hp => ?_, List.pairwise_cons.2 ⟨hp1, hp2⟩⟩, fun i => ?_, fun p hp => ?_, by simp⟩
      · rcases List.mem_cons.1 hp with rfl | hp
        · simp only; omega
        · exact h.1 p (by simp [hp])
      · rw [cv_cons, cv_cons]
        simp only
        constructor
        · rintro (h1 | h1)
          · by_cases c2 : i < q.f1
            · exact .inl (.inl ⟨h1.1, c2⟩)
            · exact .inr (by omega)
          · exact .inl (.inr h1)
        · rintro ((h1 | h1) | h1)
          · exact .inl (by omega)
          · exact .inr h1
          · exact .inl (by omega)
      · rcases List.mem_cons.1 hp with rfl | hp
        · exact hqr
        · exact hle p (by simp [hp])
    · rw [show mstep (q :: t) r = r :: q :: t from if_neg c]
      refine ⟨⟨fun p hp => ?_, List.pairwise_cons.2 ⟨fun p hp => ?_, h.2⟩⟩, fun i => ?_, fun p hp => ?_, by simp⟩
      · rcases List.mem_cons.1 hp with rfl | hp
        · exact hr
        · exact h.1 p hp
      · rcases List.mem_cons.1 hp with rfl | hp
        · omega
        · have := hp1 p hp
          omega
      · rw [cv_cons, or_comm]
      · rcases List.mem_cons.1 hp with rfl | hp
        · exact Int.le_refl _
        · exact hle p hp
theorem mfold_nf : ∀ (xs acc : List S34), NFr acc → Pos xs → xs.Pairwise (fun a b => a.f0 ≤ b.f0) → (∀ q ∈ acc, ∀ r ∈ xs, q.f0 ≤ r.f0) →
    NFr (xs.foldl mstep acc) ∧ (∀ i, cv (xs.foldl mstep acc) i ↔ cv acc i ∨ cv xs i) ∧ (xs.foldl mstep acc).length ≤ acc.length + xs.length
  | [], acc, h, _, _, _ => ⟨h, fun i => by simp [cv_nil], by simp⟩
  | r :: xs, acc, h, hp, hs, hle => by
    obtain ⟨h1, h2, h3, h4⟩ := mstep_nf h (hp r (by simp)) (fun q hq => hle q hq r (by simp))
    obtain ⟨hs1, hs2⟩ := List.pairwise_cons.1 hs
    obtain ⟨g1, g2, g3⟩ := mfold_nf xs (mstep acc r) h1 (fun q hq => hp q (by simp [hq])) hs2 (fun q hq p hp => by
      have := h3 q hq
      have := hs1 p hp
      omega)
    refine ⟨g1, fun i => ?_, by rw [List.foldl_cons, List.length_cons]; omega⟩
    rw [List.foldl_cons, g2, h2, cv_cons, or_assoc]
def kept (r : S34) : Bool := decide (r.f1 > mx r.f0 0)
def cut (r : S34) : S34 := ⟨mx r.f0 0, r.f1⟩
/-- What a row of ranges keeps: the bytes from 0 on, no empty range. -/
def keep (l : List S34) : List S34 := (l.filter kept).map cut
theorem keep_pos (l : List S34) : Pos (keep l) := by
  intro r hr
  obtain ⟨q, hq, rfl⟩ := List.mem_map.1 hr
  have := (List.mem_filter.1 hq).2
  have h := mx_le q.f0 0
  simp only [kept, decide_eq_true_eq] at this
  simp only [cut]
  omega
theorem keep_cv (l : List S34) (i : Int) : cv (keep l) i ↔ 0 ≤ i ∧ cv l i := by
  constructor
  · rintro ⟨r, hr, h1, h2⟩
    obtain ⟨q, hq, rfl⟩ := List.mem_map.1 hr
    have h := mx_le q.f0 0
    simp only [cut] at h1 h2
    exact ⟨by omega, q, (List.mem_filter.1 hq).1, by omega, h2⟩
  · rintro ⟨h0, r, hr, h1, h2⟩
    have h := mx_le r.f0 0
    refine ⟨cut r, List.mem_map.2 ⟨r, List.mem_filter.2 ⟨hr, ?_⟩, rfl⟩, ?_, h2⟩
    · simp only [kept, decide_eq_true_eq]; omega
    · simp only [cut]; omega
theorem keep_app (s t : List S34) : keep (s ++ t) = keep s ++ keep t := by simp [keep]
theorem keep_len (l : List S34) : (keep l).length ≤ l.length := by
  rw [keep, List.length_map]
  exact List.length_filter_le _ _
theorem keep_nf {l : List S34} (h : Pos l) : keep l = l := by
  induction l with
  | nil => rfl
  | cons r t ih =>
    have h1 := h r (by simp)
    have hm := mx_le r.f0 0
    have k : kept r = true := by simp only [kept, decide_eq_true_eq]; omega
    have c : cut r = r := by
      obtain ⟨a, b⟩ := r
      simp only [cut] at *
      congr 1
      omega
    have := ih (fun q hq => h q (by simp [hq]))
    simp only [keep, List.filter_cons_of_pos k, List.map_cons, c] at this ⊢
    rw [this]
theorem rd_app (s : List S34) (r : S34) (x : Int) (h : x = s.length) : rd_T34 (s ++ [r]) x = r := by
  subst h
  unfold rd_T34
  rw [List.getD_eq_getElem?_getD, Int.toNat_natCast]
  simp
theorem set_app (s : List S34) (r q : S34) (x : Int) (h : x = s.length) : (s ++ [r]).set x.toNat q = s ++ [q] := by
  subst h
  rw [Int.toNat_natCast]
  simp
theorem rd_dropR (l : List S34) (i : Nat) (h : i < l.length) : l.drop i = rd_T34 l i :: l.drop (i + 1) := by
  rw [List.drop_eq_getElem_cons h]
  unfold rd_T34
  rw [List.getD_eq_getElem?_getD, Int.toNat_natCast, List.getElem?_eq_getElem h]
  rfl
/-! ### The sort and the program's own Norm -/
theorem sort_is (l : List S34) (h : l.length < 4611686018427387904) : ∃ ys, api_Range.f l = some ys ∧ ys.Perm l ∧ ys.Pairwise (fun a b => a.f0 ≤ b.f0) := by
  have hs := Go.Sort.pdq_sorts (Go.Proofs.ltOf cfR34) cfR_swo34 l.toArray 0 l.toArray.size (Go.Lib.bitLen l.toArray.size) true true (Nat.zero_le _) (Nat.le_refl _) (.inl rfl)
  obtain ⟨⟨h1, h2, h3⟩, h4⟩ := hs
  clear h2
  unfold api_Range.f
  rw [if_pos h]
  generalize hd : Go.Sort.pdq (Go.Proofs.ltOf cfR34) l.toArray 0 l.toArray.size (Go.Lib.bitLen l.toArray.size) true true = d at *
  refine ⟨_, rfl, ?_, ?_⟩
  · have e1 : d.extract 0 l.toArray.size = d := by rw [← h1]; simp
    have e2 : l.toArray.extract 0 l.toArray.size = l.toArray := by simp
    rw [e1, e2] at h3
    simpa using h3
  · rw [List.pairwise_iff_getElem]
    intro i j hi hj hij
    have hi' : i < d.size := by simpa using hi
    have hj' : j < d.size := by simpa using hj
    have := h4 i j (by omega) hij (by omega)
    rw [cfR_lt34, getElem!_pos d i hi', getElem!_pos d j hj'] at this
    simp only [decide_eq_false_iff_not, Array.getElem_toList] at this ⊢
    omega
theorem snorm1 (ys : List S34) (hl : ys.length < 8796093022208) (d : Nat) : ∀ (i : Nat) (acc : List S34), i + d = ys.length → acc.length ≤ i →
    Ev (fun k => span_Norm.l1 k acc.reverse ys (ys.length : Int) i) ((ys.drop i).foldl mstep acc).reverse := by
  induction d with
  | zero =>
    intro i acc hi ha
    refine evAt fun k => ?_
    simp only [span_Norm.l1]
    rw [if_neg (by omega), List.drop_of_length_le (by omega)]
    rfl
  | succ d ih =>
    intro i acc hi ha
    have hil : i < ys.length := by omega
    rw [rd_dropR ys i hil, List.foldl_cons]
    match acc, ha with
    | [], ha =>
      refine Ev.step (fun k => ?_) (ih (i + 1) (mstep [] (rd_T34 ys i)) (by omega) (by simp [mstep]))
      simp only [span_Norm.l1]
      rw [if_pos (by omega), if_pos (by omega), if_pos (by omega), if_neg (by simp), if_pos (by simp), w64 (x := (i : Int) + 1) (by omega) (by omega)]
      rfl
    | q :: t, ha =>
      have e : (wrap64 (((q :: t).reverse.length : Int) - 1)) = t.reverse.length := by
        rw [List.length_reverse, List.length_reverse, List.length_cons] at *
        rw [w64 (by omega) (by omega)]
        omega
      have ht : (q :: t).reverse.length = t.length + 1 := by simp
      have ht2 : (q :: t).length = t.length + 1 := by simp
      by_cases c : (rd_T34 ys i).f0 ≤ q.f1
      · refine Ev.step (fun k => ?_) (ih (i + 1) (mstep (q :: t) (rd_T34 ys i)) (by omega) (by rw [mstep, if_pos c]; simp at ha ⊢; omega))
        rw [mstep, if_pos c]
        simp only [span_Norm.l1]
        rw [if_pos (by omega), if_pos (by omega), if_pos (by omega), if_pos (by rw [ht]; omega), e, if_pos (by omega), if_pos (by rw [ht, List.length_reverse]; omega), List.reverse_cons, rd_app _ _ _ rfl, if_pos c, set_app _ _ _ _ rfl, w64 (x := (i : Int) + 1) (by omega) (by omega), List.reverse_cons]
        rfl
      · refine Ev.step (fun k => ?_) (ih (i + 1) (mstep (q :: t) (rd_T34 ys i)) (by omega) (by rw [mstep, if_neg c]; simp at ha ⊢; omega))
        rw [mstep, if_neg c]
        simp only [span_Norm.l1]
        rw [if_pos (by omega), if_pos (by omega), if_pos (by omega), if_pos (by rw [ht]; omega), e, if_pos (by omega), if_pos (by rw [ht, List.length_reverse]; omega), List.reverse_cons, rd_app _ _ _ rfl, if_neg c, if_pos (by rw [← List.reverse_cons, ht]; rw [ht2] at ha; omega), w64 (x := (i : Int) + 1) (by omega) (by omega), List.reverse_cons, List.reverse_cons]
        rfl
theorem keep_succ (l : List S34) (i : Nat) (h : i < l.length) : keep (l.take (i + 1)) = if kept (rd_T34 l i) = true then keep (l.take i) ++ [cut (rd_T34 l i)] else keep (l.take i) := by
  have e : l.take (i + 1) = l.take i ++ [rd_T34 l i] := by
    rw [List.take_succ_eq_append_getElem h]
    congr 2
    unfold rd_T34
    rw [List.getD_eq_getElem?_getD, Int.toNat_natCast, List.getElem?_eq_getElem h]
    rfl
  rw [e, keep_app]
  split
  · rename_i c
    simp [keep, c]
  · rename_i c
    simp [keep, c]
theorem snorm0 (l : List S34) (hl : l.length < 8796093022208) (v : List S34) (hv : Ev (fun k => (api_Range.f (keep l)).bind fun t => span_Norm.l1 k ([] : List S34) t ((keep l).length : Int) 0) v) (d : Nat) : ∀ (i : Nat), i + d = l.length →
    Ev (fun k => span_Norm.l0 k (keep (l.take i)) l (l.length : Int) i) v := by
  induction d with
  | zero =>
    intro i hi
    rw [List.take_of_length_le (by omega)]
    refine Ev.step (fun k => ?_) hv
    simp only [span_Norm.l0]
    rw [if_neg (by omega)]
  | succ d ih =>
    intro i hi
    have hil : i < l.length := by omega
    refine Ev.step (fun k => ?_) (ih (i + 1) (by omega))
    simp only [span_Norm.l0]
    rw [if_pos (by omega), if_pos (by omega), if_pos (by omega), keep_succ l i hil, w64 (x := (i : Int) + 1) (by omega) (by omega)]
    by_cases c : (rd_T34 l i).f1 > mx (rd_T34 l i).f0 0
    · have hk : (keep (l.take i)).length ≤ i := Nat.le_trans (keep_len _) (by rw [List.length_take]; omega)
      rw [if_pos c, if_pos (by omega), if_pos (by simpa [kept] using c)]
      rfl
    · rw [if_neg c, if_neg (by simpa [kept] using c)]
      rfl
theorem snorm (l : List S34) (hl : l.length < 8796093022208) : ∃ v, Ev (fun k => span_Norm.f k l) v ∧ NF v ∧ (∀ i, cv v i ↔ 0 ≤ i ∧ cv l i) ∧ v.length ≤ l.length := by
  have hk := keep_len l
  obtain ⟨ys, h1, h2, h3⟩ := sort_is (keep l) (by omega)
  have hlen : ys.length = (keep l).length := h2.length_eq
  have hpos : Pos ys := fun r hr => keep_pos l r (h2.mem_iff.1 hr)
  obtain ⟨g1, g2, g3⟩ := mfold_nf ys [] ⟨(fun _ h => nomatch h), List.Pairwise.nil⟩ hpos h3 (fun _ h => nomatch h)
  refine ⟨(ys.foldl mstep []).reverse, snorm0 l hl _ ?_ l.length 0 (by omega), nfr_rev g1, fun i => ?_, ?_⟩
  · rw [h1]
    have := snorm1 ys (by omega) ys.length 0 [] (by omega) (by simp)
    rw [← hlen]
    exact this
  · rw [cv_rev, g2, cv_mem (fun r => h2.mem_iff), keep_cv]
    simp [cv_nil]
  · rw [List.length_reverse]
    simp only [List.length_nil] at g3
    omega
theorem snorm_nf {l : List S34} (h : NF l) (hl : l.length < 8796093022208) : Ev (fun k => span_Norm.f k l) l := by
  obtain ⟨v, h1, h2, h3, _⟩ := snorm l hl
  have : v = l := nf_one h2 h fun i => by
    rw [h3]
    refine ⟨fun g => g.2, fun g => ⟨?_, g⟩⟩
    obtain ⟨r, hr, hi⟩ := g
    have := h.1 r hr
    omega
  rw [this] at h1
  exact h1
theorem same34_l0 (A B : List S34) (hlen : A.length = B.length) (hA : A.length ≤ 1000000) (d : Nat) : ∀ i : Nat, i + d = A.length → ∃ b, Ev (fun k => brambleref02_Same.l0 k A B i) b ∧ (b = true ↔ A.drop i = B.drop i) := by
  induction d with
  | zero =>
    intro i hi
    refine ⟨true, evAt fun k => ?_, ⟨fun _ => ?_, fun _ => rfl⟩⟩
    · simp only [brambleref02_Same.l0]
      rw [if_neg (by omega)]
    · rw [List.drop_of_length_le (by omega), List.drop_of_length_le (by omega)]
  | succ d ih =>
    intro i hi
    rw [rd_dropR A i (by omega), rd_dropR B i (by omega)]
    have hne : ((!((rd_T34 A i).f0 == (rd_T34 B i).f0)) || (!((rd_T34 A i).f1 == (rd_T34 B i).f1))) = true ↔ rd_T34 A i ≠ rd_T34 B i := by
      obtain ⟨a, b⟩ := rd_T34 A i
      obtain ⟨a', b'⟩ := rd_T34 B i
      simp only [Bool.or_eq_true, Bool.not_eq_true', beq_eq_false_iff_ne, ne_eq, S34.mk.injEq]
      omega
    by_cases c : rd_T34 A i = rd_T34 B i
    · obtain ⟨b, e, g⟩ := ih (i + 1) (by omega)
      refine ⟨b, Ev.step (fun k => ?_) e, ?_⟩
      · simp only [brambleref02_Same.l0]
        rw [if_pos (by omega), if_pos (by omega), if_pos (by omega), if_neg (by rw [hne]; exact fun h => h c), w64 (x := (i : Int) + 1) (by omega) (by omega)]
        rfl
      · rw [g, c]
        simp
    · refine ⟨false, evAt fun k => ?_, by simp [c]⟩
      simp only [brambleref02_Same.l0]
      rw [if_pos (by omega), if_pos (by omega), if_pos (by omega), if_pos (by rw [hne]; exact c)]
theorem same34_Ev (A B : List S34) (hA : A.length ≤ 1000000) : ∃ b, Ev (fun k => brambleref02_Same.f k A B) b ∧ (b = true ↔ A = B) := by
  unfold brambleref02_Same.f
  by_cases c : A.length = B.length
  · obtain ⟨b, e, g⟩ := same34_l0 A B c hA A.length 0 (by omega)
    refine ⟨b, ?_, by simpa using g⟩
    simp only [if_pos (show (A.length : Int) = B.length by omega)]
    exact e
  · refine ⟨false, ?_, by simp; exact fun h => c (by rw [h])⟩
    simp only [if_neg (show ¬ (A.length : Int) = B.length by omega)]
    exact evAt fun _ => rfl
theorem same34_true {A B : List S34} (hA : A.length ≤ 1000000) (h : A = B) : Ev (fun k => brambleref02_Same.f k A B) true := by
  obtain ⟨b, e, g⟩ := same34_Ev A B hA
  rw [g.2 h] at e
  exact e
/-! ### Places without and within -/
theorem nf_drop {l : List S34} (h : NF l) (i : Nat) : NF (l.drop i) := ⟨fun r hr => h.1 r (List.mem_of_mem_drop hr), h.2.sublist (List.drop_sublist i l)⟩
def outL : List S34 → Int → Option Int
  | [], _ => none
  | r :: t, a => if a < r.f1 - r.f0 then some (r.f0 + a) else outL t (a - (r.f1 - r.f0))
def sizeL : List S34 → Int
  | [] => 0
  | r :: t => (r.f1 - r.f0) + sizeL t
def innL : List S34 → Int → Int
  | [], _ => 0
  | r :: t, k => (if r.f0 < k then mn r.f1 k - r.f0 else 0) + innL t k
theorem size_ge : ∀ {l : List S34}, NF l → 0 ≤ sizeL l
  | [], _ => Int.le_refl _
  | r :: t, h => by
    have := size_ge (nf_tail h)
    have := h.1 r (by simp)
    unfold sizeL
    omega
theorem size_le : ∀ {l : List S34} {M : Int} (lo : Int), NF l → (∀ r ∈ l, lo ≤ r.f0 ∧ r.f1 ≤ M) → lo ≤ M → sizeL l ≤ M - lo
  | [], M, lo, _, _, h => by unfold sizeL; omega
  | r :: t, M, lo, h, hb, _ => by
    have h1 := hb r (by simp)
    have h0 := h.1 r (by simp)
    have hp := (List.pairwise_cons.1 h.2).1
    have := size_le (M := M) r.f1 (nf_tail h) (fun q hq => ⟨by have := hp q hq; omega, (hb q (by simp [hq])).2⟩) h1.2
    unfold sizeL
    omega
theorem inn_le : ∀ {l : List S34} (k : Int), NF l → 0 ≤ innL l k ∧ innL l k ≤ sizeL l
  | [], k, _ => by unfold innL sizeL; omega
  | r :: t, k, h => by
    have h0 := h.1 r (by simp)
    have := inn_le k (nf_tail h)
    have hm := mn_le r.f1 k
    unfold innL sizeL
    split <;> omega
theorem inn_none : ∀ {l : List S34} (k : Int), (∀ r ∈ l, k ≤ r.f0) → innL l k = 0
  | [], k, _ => rfl
  | r :: t, k, h => by
    have h1 := h r (by simp)
    unfold innL
    rw [if_neg (by omega), inn_none k (fun q hq => h q (by simp [hq]))]
    rfl
theorem out_none : ∀ {l : List S34} (a : Int), 0 ≤ a → NF l → (outL l a = none ↔ a ≥ sizeL l)
  | [], a, h0, _ => by
    unfold outL sizeL
    exact ⟨fun _ => h0, fun _ => rfl⟩
  | r :: t, a, h0, h => by
    have hs := size_ge (nf_tail h)
    unfold outL sizeL
    split
    · exact ⟨(fun h => nomatch h), fun h => by omega⟩
    · rw [out_none (a - (r.f1 - r.f0)) (by omega) (nf_tail h)]
      omega
theorem out_some : ∀ {l : List S34} (a k : Int), 0 ≤ a → NF l → outL l a = some k → innL l k = a ∧ cv l k
  | [], a, k, _, _, e => nomatch e
  | r :: t, a, k, h0, h, e => by
    have hr := h.1 r (by simp)
    have hp := (List.pairwise_cons.1 h.2).1
    have hm := mn_le r.f1 k
    unfold outL at e
    split at e
    · obtain rfl := Option.some.inj e
      unfold innL
      rw [inn_none _ (fun q hq => by have := hp q hq; omega)]
      refine ⟨?_, (cv_cons _ _ _).2 (.inl (by omega))⟩
      split <;> omega
    · obtain ⟨h1, h2⟩ := out_some _ k (by omega) (nf_tail h) e
      have hk := nf_first h h2
      unfold innL
      rw [h1, if_pos (by omega)]
      exact ⟨by omega, (cv_cons _ _ _).2 (.inr h2)⟩
theorem out_lt : ∀ {l : List S34} (a k k' : Int), 0 ≤ a → NF l → outL l a = some k → outL l (a + 1) = some k' → k < k'
  | [], a, k, k', _, _, e, _ => nomatch e
  | r :: t, a, k, k', h0, h, e, e' => by
    have hr := h.1 r (by simp)
    unfold outL at e e'
    split at e
    · obtain rfl := Option.some.inj e
      split at e'
      · obtain rfl := Option.some.inj e'
        omega
      · have := nf_first h (out_some _ k' (by omega) (nf_tail h) e').2
        omega
    · rw [if_neg (by omega)] at e'
      have : a + 1 - (r.f1 - r.f0) = a - (r.f1 - r.f0) + 1 := by omega
      rw [this] at e'
      exact out_lt _ k k' (by omega) (nf_tail h) e e'
theorem piece_len (s : ByteArray) (r : S34) (h0 : 0 ≤ r.f0) (h1 : r.f0 < r.f1) : ((Txt.piece s (rgE r)).data.toList.length : Int) = min r.f1 (s.size : Int) - min r.f0 (s.size : Int) := by
  unfold Txt.piece rgE
  rw [Array.length_toList]
  show (((s.extract _ _).size : Nat) : Int) = _
  simp only [ByteArray.size_extract]
  omega
theorem bytes_len (s : ByteArray) : ∀ {l : List S34} (lo : Int), NF l → (∀ r ∈ l, lo ≤ r.f0) → 0 ≤ lo → ((Txt.bytes s (l.map rgE)).length : Int) + min lo (s.size : Int) ≤ s.size
  | [], lo, _, _, _ => by simp [Txt.bytes]; omega
  | r :: t, lo, h, hb, h0 => by
    have hr := h.1 r (by simp)
    have hl := hb r (by simp)
    have hp := (List.pairwise_cons.1 h.2).1
    have ih := bytes_len s r.f1 (nf_tail h) (fun q hq => by have := hp q hq; omega) (by omega)
    have pl := piece_len s r hr.1 hr.2
    have e : Txt.bytes s ((r :: t).map rgE) = (Txt.piece s (rgE r)).data.toList ++ Txt.bytes s (t.map rgE) := rfl
    rw [e, List.length_append]
    omega
theorem bytes_at (s : ByteArray) : ∀ {l : List S34} (a k : Int), 0 ≤ a → NF l → outL l a = some k → k < s.size → (Txt.bytes s (l.map rgE))[a.toNat]? = s.data.toList[k.toNat]?
  | [], a, k, _, _, e, _ => nomatch e
  | r :: t, a, k, h0, h, e, hk => by
    have hr := h.1 r (by simp)
    have pl := piece_len s r hr.1 hr.2
    have eb : Txt.bytes s ((r :: t).map rgE) = (Txt.piece s (rgE r)).data.toList ++ Txt.bytes s (t.map rgE) := rfl
    rw [eb]
    unfold outL at e
    split at e
    · obtain rfl := Option.some.inj e
      rw [List.getElem?_append_left (by omega)]
      unfold Txt.piece rgE
      rw [ByteArray.data_extract, Array.toList_extract, List.extract_eq_take_drop, List.getElem?_take_of_lt (by omega), List.getElem?_drop]
      congr 1
      simp only
      omega
    · have hf := nf_first h (out_some _ k (by omega) (nf_tail h) e).2
      rw [List.getElem?_append_right (by omega)]
      have := bytes_at s _ k (by omega) (nf_tail h) e hk
      rw [← this]
      congr 1
      omega
theorem nf_rise {l : List S34} (h : NF l) : Has.Rise (l.map rgJ) := by
  unfold Has.Rise
  rw [List.pairwise_map]
  refine h.2.imp_of_mem fun {x y} hx hy hxy => ?_
  have := h.1 x hx
  have := h.1 y hy
  show x.f1 ≤ y.f1
  omega
theorem has_cv : ∀ {l : List S34} (k : Int), NF l → (Has.hasV (l.map rgJ) k = true ↔ cv l k)
  | [], k, _ => ⟨(fun h => nomatch h), fun h => absurd h (cv_nil _)⟩
  | r :: t, k, h => by
    have hr := h.1 r (by simp)
    rw [cv_cons]
    by_cases c : r.f1 ≤ k
    · have e : Has.hasV ((r :: t).map rgJ) k = Has.hasV (t.map rgJ) k := by
        unfold Has.hasV Has.upto
        rw [List.map_cons, List.takeWhile_cons, if_pos (decide_eq_true (show (rgJ r).2 ≤ k from c)), List.length_cons, List.getElem?_cons_succ]
      rw [e, has_cv k (nf_tail h)]
      exact ⟨.inr, fun h => h.elim (fun h => by omega) id⟩
    · have e : Has.hasV ((r :: t).map rgJ) k = decide (r.f0 ≤ k) := by
        unfold Has.hasV Has.upto
        rw [List.map_cons, List.takeWhile_cons, if_neg (by rw [decide_eq_true_eq]; exact c)]
        rfl
      rw [e, decide_eq_true_eq]
      exact ⟨fun g => .inl (by omega), fun g => g.elim (fun g => g.1) (fun g => by have := nf_first h g; omega)⟩
/-! ### The walks of the places -/
theorem rd_in (l : List S34) (i : Nat) (h : i < l.length) : rd_T34 l i ∈ l := by
  unfold rd_T34
  rw [List.getD_eq_getElem?_getD, Int.toNat_natCast, List.getElem?_eq_getElem h]
  exact List.getElem_mem h
def pairO (o : Option Int) : Int × Bool := match o with
  | none => (0, false)
  | some k => (k, true)
theorem out_l0 (l : List S34) (h : NF l) (hb : ∀ r ∈ l, r.f1 ≤ 9223372036854775807) (hl : l.length ≤ 1000000) (d : Nat) : ∀ (i : Nat) (a : Int), i + d = l.length → 0 ≤ a → a ≤ 9223372036854775807 →
    Ev (fun k => span_Outer.l0 k a l (l.length : Int) i) (pairO (outL (l.drop i) a)) := by
  induction d with
  | zero =>
    intro i a hi h0 h1
    refine evAt fun k => ?_
    simp only [span_Outer.l0]
    rw [if_neg (by omega), List.drop_of_length_le (by omega)]
    rfl
  | succ d ih =>
    intro i a hi h0 h1
    have hil : i < l.length := by omega
    have hr := h.1 _ (rd_in l i hil)
    have hr1 := hb _ (rd_in l i hil)
    rw [rd_dropR l i hil]
    by_cases c : a < (rd_T34 l i).f1 - (rd_T34 l i).f0
    · refine evAt fun k => ?_
      simp only [span_Outer.l0]
      rw [if_pos (by omega), if_pos (by omega), if_pos (by omega), w64 (x := (rd_T34 l i).f1 - (rd_T34 l i).f0) (by omega) (by omega), if_pos c, w64 (by omega) (by omega)]
      unfold outL
      rw [if_pos c]
      rfl
    · refine Ev.step (fun k => ?_) (show Ev _ (pairO (outL (rd_T34 l i :: l.drop (i + 1)) a)) from by
        unfold outL
        rw [if_neg c]
        exact ih (i + 1) (a - ((rd_T34 l i).f1 - (rd_T34 l i).f0)) (by omega) (by omega) (by omega))
      simp only [span_Outer.l0]
      rw [if_pos (by omega), if_pos (by omega), if_pos (by omega), w64 (x := (rd_T34 l i).f1 - (rd_T34 l i).f0) (by omega) (by omega), if_neg c, w64 (x := a - ((rd_T34 l i).f1 - (rd_T34 l i).f0)) (by omega) (by omega), w64 (x := (i : Int) + 1) (by omega) (by omega)]
      rfl
theorem out_Ev {l : List S34} (h : NF l) (hb : ∀ r ∈ l, r.f1 ≤ 9223372036854775807) (hl : l.length ≤ 1000000) (a : Int) (h0 : 0 ≤ a) (h1 : a ≤ 9223372036854775807) : Ev (fun k => span_Outer.f k l a) (pairO (outL l a)) := by
  have := out_l0 l h hb hl l.length 0 a (by omega) h0 h1
  unfold span_Outer.f
  simp only [if_neg (show ¬ a < 0 by omega)]
  exact this
theorem out_neg (l : List S34) (a : Int) (h : a < 0) : Ev (fun k => span_Outer.f k l a) (0, false) := by
  unfold span_Outer.f
  simp only [if_pos h]
  exact evAt fun _ => rfl
theorem sizeT {l : List S34} {M : Int} (h : NF l) (hb : ∀ r ∈ l, r.f1 ≤ M) (hM : 0 ≤ M) : sizeL l ≤ M := by
  have := size_le (M := M) 0 h (fun r hr => ⟨(h.1 r hr).1, hb r hr⟩) hM
  omega
theorem size_l0 (l : List S34) (h : NF l) (hb : ∀ r ∈ l, r.f1 ≤ 9223372036854775807) (hl : l.length ≤ 1000000) (d : Nat) : ∀ (i : Nat) (a : Int), i + d = l.length → 0 ≤ a → a + sizeL (l.drop i) ≤ 9223372036854775807 →
    Ev (fun k => span_Size.l0 k a l (l.length : Int) i) (a + sizeL (l.drop i)) := by
  induction d with
  | zero =>
    intro i a hi h0 h1
    refine evAt fun k => ?_
    simp only [span_Size.l0]
    rw [if_neg (by omega), List.drop_of_length_le (by omega)]
    unfold sizeL
    rw [Int.add_zero]
  | succ d ih =>
    intro i a hi h0 h1
    have hil : i < l.length := by omega
    have hr := h.1 _ (rd_in l i hil)
    have hr1 := hb _ (rd_in l i hil)
    have hs := size_ge (nf_drop h (i + 1))
    rw [rd_dropR l i hil] at h1 ⊢
    unfold sizeL at h1 ⊢
    have := ih (i + 1) (a + ((rd_T34 l i).f1 - (rd_T34 l i).f0)) (by omega) (by omega) (by omega)
    rw [show a + ((rd_T34 l i).f1 - (rd_T34 l i).f0 + sizeL (l.drop (i + 1))) = a + ((rd_T34 l i).f1 - (rd_T34 l i).f0) + sizeL (l.drop (i + 1)) by omega]
    refine Ev.step (fun k => ?_) this
    simp only [span_Size.l0]
    rw [if_pos (by omega), if_pos (by omega), if_pos (by omega), w64 (x := (rd_T34 l i).f1 - (rd_T34 l i).f0) (by omega) (by omega), w64 (x := a + ((rd_T34 l i).f1 - (rd_T34 l i).f0)) (by omega) (by omega), w64 (x := (i : Int) + 1) (by omega) (by omega)]
    rfl
theorem size_Ev {l : List S34} (h : NF l) (hb : ∀ r ∈ l, r.f1 ≤ 9223372036854775807) (hl : l.length ≤ 1000000) : Ev (fun k => span_Size.f k l) (sizeL l) := by
  have hs := sizeT h hb (by omega)
  have := size_l0 l h hb hl l.length 0 0 (by omega) (by omega) (by rw [List.drop_zero]; omega)
  rw [List.drop_zero, Int.zero_add] at this
  exact this
theorem text_eq (s : ByteArray) (hs : s.size ≤ 140737488351232) {l : List S34} (h : NF l) : span_Text.f s l = some (Txt.textV s (l.map rgE)) := by
  unfold span_Text.f
  rw [if_pos]
  refine ⟨by omega, fun r hr => ?_, ?_⟩
  · obtain ⟨q, hq, rfl⟩ := List.mem_map.1 hr
    have := h.1 q hq
    show 0 ≤ q.f0 ∧ min q.f0 (s.size : Int) ≤ min q.f1 (s.size : Int)
    omega
  · have := bytes_len s 0 h (fun r hr => (h.1 r hr).1) (Int.le_refl _)
    omega
theorem awake_norm : Ev (fun k => span_Norm.f k [⟨5, 7⟩, ⟨1, 3⟩, ⟨3, 4⟩]) [⟨1, 4⟩, ⟨5, 7⟩] := by
  obtain ⟨v, h1, h2, h3, _⟩ := snorm [⟨5, 7⟩, ⟨1, 3⟩, ⟨3, 4⟩] (by decide)
  have e : v = [⟨1, 4⟩, ⟨5, 7⟩] := nf_one h2 ⟨by unfold Pos; decide, by decide⟩ fun i => by
    rw [h3]
    simp only [cv_cons, cv_nil, or_false]
    omega
  rw [e] at h1
  exact h1
theorem awake_Ev : Ev (fun k => bramblelaw02_awake.f k) true := by
  have hn : NF [⟨1, 4⟩, ⟨5, 7⟩] := ⟨by unfold Pos; decide, by decide⟩
  have hb : ∀ r ∈ ([⟨1, 4⟩, ⟨5, 7⟩] : List S34), r.f1 ≤ 9223372036854775807 := by decide
  have h2 := out_Ev hn hb (by decide) 3 (by decide) (by decide)
  have h3 := same34_true (A := [⟨1, 4⟩, ⟨5, 7⟩]) (by decide) (rfl : _ = ([⟨1, 4⟩, ⟨5, 7⟩] : List S34))
  have h4 := text_eq ⟨#[97, 98, 99, 100, 101, 102, 103, 104]⟩ (by decide) hn
  have h5 := size_Ev hn hb (by decide)
  have e4 : (Txt.textV ⟨#[97, 98, 99, 100, 101, 102, 103, 104]⟩ (([⟨1, 4⟩, ⟨5, 7⟩] : List S34).map rgE)).toList = [98, 99, 100, 102, 103] := by
    rw [ByteArray.toList_eq]
    decide +kernel
  unfold bramblelaw02_awake.f
  refine Ev.bind awake_norm (Ev.bind h2 (Ev.bind h3 ?_))
  simp only [if_true]
  have o3 : pairO (outL ([⟨1, 4⟩, ⟨5, 7⟩] : List S34) 3) = (5, true) := by decide +kernel
  rw [o3]
  simp only [if_true, h4, Option.bind_some, e4]
  exact Ev.bind h5 (evAt fun _ => rfl)
/-! ### The pieces between borders, as a set -/
theorem cut_inv (d : Array Int) (hd : ∀ i j : Nat, i ≤ j → j < d.size → d[i]! ≤ d[j]!) : ∀ m : Nat, m ≤ d.size → (Go.Lib.compactUpTo d m).Pairwise (· < ·) ∧ ∀ x, x ∈ Go.Lib.compactUpTo d m ↔ ∃ j, j < m ∧ d[j]! = x
  | 0, _ => by
    refine ⟨by simp [Go.Lib.compactUpTo], fun x => ?_⟩
    simp [Go.Lib.compactUpTo]
  | m + 1, h => by
    obtain ⟨h1, h2⟩ := cut_inv d hd m (by omega)
    rw [Go.Lib.compactUpTo_succ]
    by_cases hk : Go.Lib.keeps d m = true
    · rw [if_pos hk]
      have hk' : m = 0 ∨ d[m]! ≠ d[m - 1]! := by simpa [Go.Lib.keeps] using hk
      refine ⟨List.pairwise_append.2 ⟨h1, by simp, fun x hx y hy => ?_⟩, fun x => ?_⟩
      · obtain ⟨j, hj, rfl⟩ := (h2 x).1 hx
        obtain rfl : y = d[m]! := by simpa using hy
        have a1 := hd j (m - 1) (by omega) (by omega)
        have a2 := hd (m - 1) m (by omega) (by omega)
        rcases hk' with rfl | hk'
        · omega
        · omega
      · rw [List.mem_append, h2]
        constructor
        · rintro (⟨j, hj, e⟩ | h3)
          · exact ⟨j, by omega, e⟩
          · exact ⟨m, by omega, by simpa using Eq.symm (by simpa using h3)⟩
        · rintro ⟨j, hj, e⟩
          by_cases c : j = m
          · subst c
            exact .inr (by simp [e])
          · exact .inl ⟨j, by omega, e⟩
    · rw [if_neg hk, List.append_nil]
      have hk' : ¬ (m = 0 ∨ d[m]! ≠ d[m - 1]!) := by simpa [Go.Lib.keeps] using hk
      have hm : m ≠ 0 := fun e => hk' (.inl e)
      have he : d[m]! = d[m - 1]! := Classical.not_not.1 fun e => hk' (.inr e)
      refine ⟨h1, fun x => ?_⟩
      rw [h2]
      constructor
      · rintro ⟨j, hj, e⟩; exact ⟨j, by omega, e⟩
      · rintro ⟨j, hj, e⟩
        by_cases c : j = m
        · subst c; exact ⟨j - 1, by omega, by rw [← he]; exact e⟩
        · exact ⟨j, by omega, e⟩
theorem bds_spec (L : List Rg.R) : (Brd.bds L).Pairwise (· < ·) ∧ ∀ x, x ∈ Brd.bds L ↔ ∃ r ∈ L, x = r.1 ∨ x = r.2 := by
  have hs : (Brd.sorted (Brd.ends L)).Pairwise (fun x y => decide (x ≤ y) = true) :=
    List.pairwise_mergeSort (fun a b c h1 h2 => by simp only [decide_eq_true_eq] at *; omega) (fun a b => by simp only [Bool.or_eq_true, decide_eq_true_eq]; omega) _
  have hm : ∀ x, x ∈ Brd.sorted (Brd.ends L) ↔ x ∈ Brd.ends L := fun x => (List.mergeSort_perm _ _).mem_iff
  generalize hz : Brd.sorted (Brd.ends L) = z at hs hm
  have hd : ∀ i j : Nat, i ≤ j → j < z.toArray.size → z.toArray[i]! ≤ z.toArray[j]! := by
    intro i j hij hj
    have hj' : j < z.length := by simpa using hj
    rcases Nat.lt_or_ge i j with h | h
    · have := List.pairwise_iff_getElem.1 hs i j (by omega) hj' h
      rw [getElem!_pos z.toArray i (by simp; omega), getElem!_pos z.toArray j hj]
      simpa using this
    · obtain rfl : i = j := by omega
      exact Int.le_refl _
  obtain ⟨g1, g2⟩ := cut_inv z.toArray hd z.length (by simp)
  have e : Brd.bds L = Go.Lib.compactUpTo z.toArray z.length := by unfold Brd.bds Go.Lib.compact; rw [hz]
  rw [e]
  refine ⟨g1, fun x => ?_⟩
  rw [g2]
  have h3 : (∃ j, j < z.length ∧ z.toArray[j]! = x) ↔ x ∈ z := by
    rw [List.mem_iff_getElem]
    constructor
    · rintro ⟨j, hj, rfl⟩
      exact ⟨j, hj, by rw [getElem!_pos z.toArray j (by simpa using hj)]; simp⟩
    · rintro ⟨j, hj, rfl⟩
      exact ⟨j, hj, by rw [getElem!_pos z.toArray j (by simpa using hj)]; simp⟩
  rw [h3, hm]
  simp [Brd.ends, List.mem_flatMap]
theorem gaps_in : ∀ {t : List Int}, t.Pairwise (· < ·) → ∀ {x y : Int}, (x, y) ∈ Gap.gaps t → x ∈ t ∧ x < y ∧ ∀ z ∈ t, z ≤ x ∨ y ≤ z
  | [], _, x, y, h => by simp [Gap.gaps] at h
  | [a], _, x, y, h => by simp [Gap.gaps] at h
  | a :: b :: s, hp, x, y, h => by
    obtain ⟨h1, h2⟩ := List.pairwise_cons.1 hp
    have hab := h1 b (by simp)
    have h' : (x, y) = (a, b) ∨ (x, y) ∈ Gap.gaps (b :: s) := List.mem_cons.1 h
    rcases h' with h' | h'
    · obtain ⟨rfl, rfl⟩ := Prod.mk.inj h'
      refine ⟨by simp, hab, fun z hz => ?_⟩
      rcases List.mem_cons.1 hz with rfl | hz
      · exact .inl (Int.le_refl _)
      · rcases List.mem_cons.1 hz with rfl | hz
        · exact .inr (Int.le_refl _)
        · have := (List.pairwise_cons.1 h2).1 z hz
          exact .inr (by omega)
    · obtain ⟨g0, g1, g2⟩ := gaps_in h2 h'
      refine ⟨List.mem_cons_of_mem _ g0, g1, fun z hz => ?_⟩
      rcases List.mem_cons.1 hz with rfl | hz
      · have := h1 x g0
        exact .inl (by omega)
      · exact g2 z hz
theorem gaps_over : ∀ {t : List Int}, t.Pairwise (· < ·) → ∀ {p q i : Int}, p ∈ t → q ∈ t → p ≤ i → i < q → ∃ g ∈ Gap.gaps t, g.1 ≤ i ∧ i < g.2
  | [], _, p, q, i, hp, _, _, _ => nomatch hp
  | [a], _, p, q, i, hp, hq, h1, h2 => by
    obtain rfl : p = a := by simpa using hp
    obtain rfl : q = p := by simpa using hq
    omega
  | a :: b :: s, hpw, p, q, i, hp, hq, h1, h2 => by
    obtain ⟨w1, w2⟩ := List.pairwise_cons.1 hpw
    by_cases c : i < b
    · refine ⟨(a, b), List.mem_cons_self, ?_, c⟩
      rcases List.mem_cons.1 hp with rfl | hp
      · exact h1
      · exfalso
        rcases List.mem_cons.1 hp with rfl | hp
        · omega
        · have := (List.pairwise_cons.1 w2).1 p hp
          omega
    · have hq' : q ∈ b :: s := by
        rcases List.mem_cons.1 hq with rfl | hq
        · have := w1 b (by simp); omega
        · exact hq
      obtain ⟨g, hg, hgi⟩ := gaps_over w2 (p := b) (q := q) (i := i) (by simp) hq' (by omega) h2
      exact ⟨g, List.mem_cons_of_mem _ hg, hgi⟩
theorem gaps_len2 (L : List Rg.R) : (Gap.gaps (Brd.bds L)).length ≤ 2 * L.length := by
  have h1 : (Brd.bds L).length ≤ (Brd.sorted (Brd.ends L)).length := by
    unfold Brd.bds Go.Lib.compact Go.Lib.compactUpTo
    rw [List.length_map]
    exact Nat.le_trans (List.length_filter_le _ _) (by simp)
  have h2 : (Brd.sorted (Brd.ends L)).length = (Brd.ends L).length := List.length_mergeSort _
  have h3 : ∀ l : List Rg.R, (Brd.ends l).length = l.length * 2 := by
    intro l
    induction l with
    | nil => rfl
    | cons x t ih => show ([x.1, x.2] ++ Brd.ends t).length = _; rw [List.length_append, ih, List.length_cons]; simp; omega
  rw [h3] at h2
  rw [Gap.gaps_len]
  omega
theorem cv_mkJ (l : List Rg.R) (i : Int) : cv (l.map mkJ) i ↔ ∃ r ∈ l, r.1 ≤ i ∧ i < r.2 := by
  constructor
  · rintro ⟨q, hq, h⟩
    obtain ⟨r, hr, rfl⟩ := List.mem_map.1 hq
    exact ⟨r, hr, h⟩
  · rintro ⟨r, hr, h⟩
    exact ⟨mkJ r, List.mem_map.2 ⟨r, hr, rfl⟩, h⟩
theorem cv_same {n : List S34} {t : List Int} {x y i : Int} (hn : ∀ r ∈ n, r.f0 ∈ t ∧ r.f1 ∈ t) (hg : ∀ z ∈ t, z ≤ x ∨ y ≤ z) (h1 : x ≤ i) (h2 : i < y) : cv n i ↔ cv n x := by
  constructor
  · rintro ⟨r, hr, a1, a2⟩
    have b1 := hg _ (hn r hr).1
    have b2 := hg _ (hn r hr).2
    exact ⟨r, hr, by omega, by omega⟩
  · rintro ⟨r, hr, a1, a2⟩
    have b1 := hg _ (hn r hr).1
    have b2 := hg _ (hn r hr).2
    exact ⟨r, hr, by omega, by omega⟩
theorem siftF_Ev (st : Bool → Bool → Bool) (h0 : st false false = false) (a b : List S34) (ha : a.length ≤ 100000) (hb : b.length ≤ 100000) :
    ∃ v, Ev (fun k => siftF st k a b) v ∧ NF v ∧ (∀ (i : Int) (x y : Bool), (x = true ↔ cv a i) → (y = true ↔ cv b i) → (cv v i ↔ 0 ≤ i ∧ st x y = true)) ∧ v.length ≤ 2 * (a.length + b.length) := by
  obtain ⟨na, e1, n1, c1, l1⟩ := snorm a (by omega)
  obtain ⟨nb, e2, n2, c2, l2⟩ := snorm b (by omega)
  obtain ⟨t, ht⟩ : ∃ t, t = Brd.bds (na.map rgJ ++ nb.map rgJ) := ⟨_, rfl⟩
  have hts := bds_spec (na.map rgJ ++ nb.map rgJ)
  have htl := gaps_len2 (na.map rgJ ++ nb.map rgJ)
  rw [← ht] at hts htl
  obtain ⟨hp, hm⟩ := hts
  have ma : ∀ r ∈ na, r.f0 ∈ t ∧ r.f1 ∈ t := fun r hr => by
    have : rgJ r ∈ na.map rgJ ++ nb.map rgJ := List.mem_append.2 (.inl (List.mem_map.2 ⟨r, hr, rfl⟩))
    exact ⟨(hm _).2 ⟨_, this, .inl rfl⟩, (hm _).2 ⟨_, this, .inr rfl⟩⟩
  have mb : ∀ r ∈ nb, r.f0 ∈ t ∧ r.f1 ∈ t := fun r hr => by
    have : rgJ r ∈ na.map rgJ ++ nb.map rgJ := List.mem_append.2 (.inr (List.mem_map.2 ⟨r, hr, rfl⟩))
    exact ⟨(hm _).2 ⟨_, this, .inl rfl⟩, (hm _).2 ⟨_, this, .inr rfl⟩⟩
  obtain ⟨out, ho⟩ : ∃ out, out = (((Gap.gaps t).filter fun x => st (Has.hasV (na.map rgJ) x.1) (Has.hasV (nb.map rgJ) x.1)).map mkJ) := ⟨_, rfl⟩
  have hol : out.length ≤ 2 * (a.length + b.length) := by
    rw [ho, List.length_map]
    refine Nat.le_trans (List.length_filter_le _ _) (Nat.le_trans htl ?_)
    rw [List.length_append, List.length_map, List.length_map]
    omega
  obtain ⟨v, e3, n3, c3, l3⟩ := snorm out (by omega)
  have neg : ∀ i, i < 0 → ¬ cv na i := fun i hi h => by have := (c1 i).1 h; omega
  refine ⟨v, ?_, n3, fun i x y hx hy => ?_, by omega⟩
  · refine Ev.bind e1 (Ev.bind e2 ?_)
    rw [← ht, ← ho]
    have hc : na.length ≤ 1000000000 ∧ nb.length ≤ 1000000000 ∧ Has.Rise (na.map rgJ) ∧ Has.Rise (nb.map rgJ) := ⟨by omega, by omega, nf_rise n1, nf_rise n2⟩
    simp only [if_pos hc]
    exact e3
  · rw [c3]
    refine and_congr_right fun hi => ?_
    have hx' : x = true ↔ cv na i := by rw [hx, c1]; exact ⟨fun h => ⟨hi, h⟩, fun h => h.2⟩
    have hy' : y = true ↔ cv nb i := by rw [hy, c2]; exact ⟨fun h => ⟨hi, h⟩, fun h => h.2⟩
    rw [ho, cv_mkJ]
    constructor
    · rintro ⟨⟨p, q⟩, hg, h1, h2⟩
      obtain ⟨hg, hst⟩ := List.mem_filter.1 hg
      obtain ⟨_, _, g2⟩ := gaps_in hp hg
      have ea : Has.hasV (na.map rgJ) p = x := by
        rw [Bool.eq_iff_iff, hx', cv_same ma g2 h1 h2]
        exact has_cv p n1
      have eb : Has.hasV (nb.map rgJ) p = y := by
        rw [Bool.eq_iff_iff, hy', cv_same mb g2 h1 h2]
        exact has_cv p n2
      simp only [ea, eb] at hst
      exact hst
    · intro hst
      have hin : cv na i ∨ cv nb i := by
        rcases Bool.eq_false_or_eq_true x with h | h
        · exact .inl (hx'.1 h)
        · rcases Bool.eq_false_or_eq_true y with h' | h'
          · exact .inr (hy'.1 h')
          · rw [h, h', h0] at hst
            cases hst
      have hov : ∃ g ∈ Gap.gaps t, g.1 ≤ i ∧ i < g.2 := by
        rcases hin with ⟨r, hr, h1, h2⟩ | ⟨r, hr, h1, h2⟩
        · exact gaps_over hp (ma r hr).1 (ma r hr).2 h1 h2
        · exact gaps_over hp (mb r hr).1 (mb r hr).2 h1 h2
      obtain ⟨⟨p, q⟩, hg, h1, h2⟩ := hov
      obtain ⟨_, _, g2⟩ := gaps_in hp hg
      have ea : Has.hasV (na.map rgJ) p = x := by
        rw [Bool.eq_iff_iff, hx', cv_same ma g2 h1 h2]
        exact has_cv p n1
      have eb : Has.hasV (nb.map rgJ) p = y := by
        rw [Bool.eq_iff_iff, hy', cv_same mb g2 h1 h2]
        exact has_cv p n2
      refine ⟨(p, q), List.mem_filter.2 ⟨hg, ?_⟩, h1, h2⟩
      simp only [ea, eb]
      exact hst
theorem boolOf (p : Prop) : ∃ x : Bool, x = true ↔ p := by
  by_cases h : p
  · exact ⟨true, by simp [h]⟩
  · exact ⟨false, by simp [h]⟩
theorem join_Ev (a b : List S34) (ha : a.length ≤ 100000) (hb : b.length ≤ 100000) : ∃ v, Ev (fun k => span_Join.f k a b) v ∧ NF v ∧ (∀ i, cv v i ↔ 0 ≤ i ∧ (cv a i ∨ cv b i)) ∧ v.length ≤ 2 * (a.length + b.length) := by
  obtain ⟨v, h1, h2, h3, h4⟩ := siftF_Ev (fun x y => x || y) rfl a b ha hb
  refine ⟨v, h1, h2, fun i => ?_, h4⟩
  obtain ⟨x, hx⟩ := boolOf (cv a i)
  obtain ⟨y, hy⟩ := boolOf (cv b i)
  rw [h3 i x y hx hy, ← hx, ← hy, Bool.or_eq_true]
theorem meet_Ev (a b : List S34) (ha : a.length ≤ 100000) (hb : b.length ≤ 100000) : ∃ v, Ev (fun k => span_Meet.f k a b) v ∧ NF v ∧ (∀ i, cv v i ↔ 0 ≤ i ∧ cv a i ∧ cv b i) ∧ v.length ≤ 2 * (a.length + b.length) := by
  obtain ⟨v, h1, h2, h3, h4⟩ := siftF_Ev (fun x y => x && y) rfl a b ha hb
  refine ⟨v, h1, h2, fun i => ?_, h4⟩
  obtain ⟨x, hx⟩ := boolOf (cv a i)
  obtain ⟨y, hy⟩ := boolOf (cv b i)
  rw [h3 i x y hx hy, ← hx, ← hy, Bool.and_eq_true]
theorem less_Ev (a b : List S34) (ha : a.length ≤ 100000) (hb : b.length ≤ 100000) : ∃ v, Ev (fun k => span_Less.f k a b) v ∧ NF v ∧ (∀ i, cv v i ↔ 0 ≤ i ∧ cv a i ∧ ¬ cv b i) ∧ v.length ≤ 2 * (a.length + b.length) := by
  obtain ⟨v, h1, h2, h3, h4⟩ := siftF_Ev (fun x y => x && !y) rfl a b ha hb
  refine ⟨v, h1, h2, fun i => ?_, h4⟩
  obtain ⟨x, hx⟩ := boolOf (cv a i)
  obtain ⟨y, hy⟩ := boolOf (cv b i)
  rw [h3 i x y hx hy, ← hx, ← hy, Bool.and_eq_true, Bool.not_eq_true', Bool.not_eq_true]
/-! ### How many bytes a row of ranges has -/
open Classical in
noncomputable def cnt (p : Int → Prop) : Nat → Int
  | 0 => 0
  | n + 1 => cnt p n + if p (n : Int) then 1 else 0
theorem cnt_congr {p q : Int → Prop} (h : ∀ i, 0 ≤ i → (p i ↔ q i)) : ∀ n, cnt p n = cnt q n
  | 0 => rfl
  | n + 1 => by
    rw [cnt, cnt, cnt_congr h n]
    have := h n (by omega)
    by_cases c : p (n : Int)
    · rw [if_pos c, if_pos (this.1 c)]
    · rw [if_neg c, if_neg (fun d => c (this.2 d))]
theorem cnt_two (p q : Int → Prop) : ∀ n, cnt (fun i => p i ∨ q i) n + cnt (fun i => p i ∧ q i) n = cnt p n + cnt q n
  | 0 => rfl
  | n + 1 => by
    have := cnt_two p q n
    simp only [cnt]
    by_cases h1 : p (n : Int) <;> by_cases h2 : q (n : Int) <;> simp only [h1, h2, or_self, or_true, true_or, or_false, false_or, and_self, and_true, true_and, and_false, false_and, if_true, if_false] <;> omega
theorem cnt_none {p : Int → Prop} (h : ∀ i, 0 ≤ i → ¬ p i) : ∀ n, cnt p n = 0
  | 0 => rfl
  | n + 1 => by
    rw [cnt, cnt_none h n, if_neg (h n (by omega))]
    rfl
theorem cnt_one {a b : Int} (ha : 0 ≤ a) (hb : a ≤ b) : ∀ n : Nat, cnt (fun i => a ≤ i ∧ i < b) n = if (n : Int) ≤ a then 0 else if (n : Int) ≤ b then n - a else b - a
  | 0 => by rw [if_pos (by omega)]; rfl
  | n + 1 => by
    rw [cnt, cnt_one ha hb n]
    by_cases h1 : a ≤ (n : Int) ∧ (n : Int) < b
    · rw [if_pos h1]
      by_cases c : (n : Int) ≤ a
      · rw [if_pos c, if_neg (by omega), if_pos (by omega)]; omega
      · rw [if_neg c, if_pos (by omega), if_neg (by omega), if_pos (by omega)]; omega
    · rw [if_neg h1]
      by_cases c : (n : Int) < a
      · rw [if_pos (by omega), if_pos (by omega)]; rfl
      · by_cases d : (n : Int) ≤ a
        · rw [if_pos d, if_neg (by omega), if_neg (by omega)]; omega
        · by_cases e : (n : Int) ≤ b
          · rw [if_neg d, if_pos e, if_neg (by omega), if_neg (by omega)]; omega
          · rw [if_neg d, if_neg e, if_neg (by omega), if_neg (by omega)]; omega
theorem cnt_size : ∀ {l : List S34} (n : Nat), NF l → (∀ r ∈ l, r.f1 ≤ n) → cnt (cv l) n = sizeL l
  | [], n, _, _ => cnt_none (fun i _ => cv_nil i) n
  | r :: t, n, h, hb => by
    have hr := h.1 r (by simp)
    have hn := hb r (by simp)
    have ih := cnt_size n (nf_tail h) (fun q hq => hb q (by simp [hq]))
    have e1 : cnt (cv (r :: t)) n = cnt (fun i => (r.f0 ≤ i ∧ i < r.f1) ∨ cv t i) n := cnt_congr (fun i _ => cv_cons r t i) n
    have e2 := cnt_two (fun i => r.f0 ≤ i ∧ i < r.f1) (cv t) n
    have e3 : cnt (fun i => (r.f0 ≤ i ∧ i < r.f1) ∧ cv t i) n = 0 := cnt_none (fun i _ ⟨p, q⟩ => by have := nf_first h q; omega) n
    have e4 := cnt_one hr.1 (by omega) n (b := r.f1)
    rw [if_neg (by omega)] at e4
    have e5 : cnt (fun i => r.f0 ≤ i ∧ i < r.f1) n = r.f1 - r.f0 := by
      rw [e4]
      split <;> omega
    rw [e1]
    show _ = (r.f1 - r.f0) + sizeL t
    omega
theorem nf_bound {l : List S34} {N : Int} (h : NF l) (hc : ∀ i, cv l i → i < N) : ∀ r ∈ l, r.f1 ≤ N := fun r hr => by
  have := h.1 r hr
  have := hc (r.f1 - 1) ⟨r, hr, by omega, by omega⟩
  omega
theorem last_most {l : List S34} (h : NF l) (hl : 0 < l.length) : ∀ r ∈ l, r.f1 ≤ (rd_T34 l ((l.length : Int) - 1)).f1 := by
  intro r hr
  obtain ⟨i, hi, rfl⟩ := List.mem_iff_getElem.1 hr
  have e : rd_T34 l ((l.length : Int) - 1) = l[l.length - 1]'(by omega) := by
    unfold rd_T34
    rw [List.getD_eq_getElem?_getD, show ((l.length : Int) - 1).toNat = l.length - 1 by omega, List.getElem?_eq_getElem (by omega)]
    rfl
  rw [e]
  rcases Nat.lt_or_ge i (l.length - 1) with c | c
  · have h1 := List.pairwise_iff_getElem.1 h.2 i (l.length - 1) hi (by omega) c
    have h2 := h.1 (l[l.length - 1]'(by omega)) (List.getElem_mem _)
    omega
  · have : i = l.length - 1 := by omega
    simp only [this]
    exact Int.le_refl _
theorem not_big {l : List S34} (h : NF l) (hb : ¬ big40 l = true) : ∀ r ∈ l, r.f1 ≤ 1099511627776 := by
  intro r hr
  have hl : 0 < l.length := List.length_pos_of_mem hr
  have := last_most h hl r hr
  have c : ¬ (1099511627776 < (rd_T34 l ((l.length : Int) - 1)).f1) := fun hc => hb (by
    unfold big40
    rw [decide_eq_true hc, decide_eq_true (by omega)]
    rfl)
  omega
theorem SpanSizes : bramblelaw02_SpanSizes.Pure := by
  intro a b h0 h1
  suffices Ev (fun k => bramblelaw02_SpanSizes.f k a b) true by
    obtain ⟨K, h⟩ := this
    exact ⟨K, h K (Nat.le_refl _)⟩
  unfold bramblelaw02_SpanSizes.f
  by_cases c : a.length ≤ 100 ∧ b.length ≤ 100
  rotate_left
  · simp only [if_neg c]
    exact awake_Ev
  simp only [if_pos c]
  obtain ⟨na, e1, n1, v1, l1⟩ := snorm a (by omega)
  obtain ⟨nb, e2, n2, v2, l2⟩ := snorm b (by omega)
  refine Ev.bind e1 (Ev.bind e2 ?_)
  by_cases g : (big40 na || big40 nb) = true
  · simp only [if_pos g]
    exact awake_Ev
  simp only [if_neg g]
  rw [Bool.or_eq_true, not_or] at g
  have ba := not_big n1 g.1
  have bb := not_big n2 g.2
  have up : ∀ i, 0 ≤ i → cv a i → i < 1099511627776 := fun i hi h => by
    obtain ⟨r, hr, _, h2⟩ := (v1 i).2 ⟨hi, h⟩
    have := ba r hr
    omega
  have ub : ∀ i, 0 ≤ i → cv b i → i < 1099511627776 := fun i hi h => by
    obtain ⟨r, hr, _, h2⟩ := (v2 i).2 ⟨hi, h⟩
    have := bb r hr
    omega
  obtain ⟨j, e5, n5, v5, l5⟩ := join_Ev a b (by omega) (by omega)
  obtain ⟨m, e7, n7, v7, l7⟩ := meet_Ev a b (by omega) (by omega)
  obtain ⟨l, e9, n9, v9, l9⟩ := less_Ev a b (by omega) (by omega)
  have bj := nf_bound n5 (N := 1099511627776) (fun i h => by have := (v5 i).1 h; exact this.2.elim (up i this.1) (ub i this.1))
  have bm := nf_bound n7 (N := 1099511627776) (fun i h => by have := (v7 i).1 h; exact up i this.1 this.2.1)
  have bl := nf_bound n9 (N := 1099511627776) (fun i h => by have := (v9 i).1 h; exact up i this.1 this.2.1)
  obtain ⟨N, hN⟩ : ∃ N : Nat, (N : Int) = 1099511627776 := ⟨1099511627776, rfl⟩
  have sj := cnt_size (l := j) N n5 (by rw [hN]; exact bj)
  have sm := cnt_size (l := m) N n7 (by rw [hN]; exact bm)
  have sl := cnt_size (l := l) N n9 (by rw [hN]; exact bl)
  have sa := cnt_size (l := na) N n1 (by rw [hN]; exact ba)
  have sb := cnt_size (l := nb) N n2 (by rw [hN]; exact bb)
  have t1 := cnt_two (cv na) (cv nb) N
  have t2 := cnt_two (cv l) (cv m) N
  have c1 := cnt_congr (p := fun i => cv na i ∨ cv nb i) (q := cv j) (fun i hi => by rw [v1, v2, v5]; simp [hi]) N
  have c2 := cnt_congr (p := fun i => cv na i ∧ cv nb i) (q := cv m) (fun i hi => by rw [v1, v2, v7]; simp [hi]) N
  have c3 := cnt_congr (p := fun i => cv l i ∨ cv m i) (q := cv na) (fun i hi => by
    rw [v1, v9, v7]
    constructor
    · rintro (⟨p, q, _⟩ | ⟨p, q, _⟩)
      · exact ⟨p, q⟩
      · exact ⟨p, q⟩
    · rintro ⟨p, q⟩
      by_cases h : cv b i
      · exact .inr ⟨p, q, h⟩
      · exact .inl ⟨p, q, h⟩) N
  have c4 := cnt_none (p := fun i => cv l i ∧ cv m i) (fun i hi h => ((v9 i).1 h.1).2.2 ((v7 i).1 h.2).2.2) N
  have wide : ∀ {l : List S34}, NF l → (∀ r ∈ l, r.f1 ≤ 1099511627776) → (∀ r ∈ l, r.f1 ≤ 9223372036854775807) ∧ 0 ≤ sizeL l ∧ sizeL l ≤ 1099511627776 := fun h hb => ⟨fun r hr => by have := hb r hr; omega, size_ge h, sizeT h hb (by omega)⟩
  have wj := wide n5 bj
  have wm := wide n7 bm
  have wl := wide n9 bl
  have wa := wide n1 ba
  have wb := wide n2 bb
  have hfin : wrap64 (sizeL j + sizeL m) = wrap64 (sizeL na + sizeL nb) ∧ wrap64 (sizeL l + sizeL m) = sizeL na := by
    rw [w64 (x := sizeL j + sizeL m) (by omega) (by omega), w64 (x := sizeL na + sizeL nb) (by omega) (by omega), w64 (x := sizeL l + sizeL m) (by omega) (by omega)]
    rw [c1, c2, sj, sm, sa, sb] at t1
    rw [c3, c4, sl, sm, sa] at t2
    omega
  refine Ev.bind e7 (Ev.bind (size_Ev n7 wm.1 (by omega)) (Ev.bind e5 (Ev.bind (size_Ev n5 wj.1 (by omega)) (Ev.bind (size_Ev n1 wa.1 (by omega)) (Ev.bind (size_Ev n2 wb.1 (by omega)) (Ev.bind e9 (Ev.bind (size_Ev n9 wl.1 (by omega)) ?_)))))))
  simp only [if_pos hfin]
  exact awake_Ev

end Go.Proofs.Ytebphbnkogianaa.Pure
