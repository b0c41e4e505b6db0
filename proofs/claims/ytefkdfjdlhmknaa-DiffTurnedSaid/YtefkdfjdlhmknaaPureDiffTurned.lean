/- DiffTurned: what is changed between two trees is changed the other way round; and nothing is changed between two that was not changed on the way over a third. No condition. -/
import Derived.Test.YtefkdfjdlhmknaaStaDiffTurned
namespace Go.Proofs.Ytefkdfjdlhmknaa.Pure
set_option linter.unusedVariables false
set_option linter.unusedSimpArgs false
open Go.RowKit Go.Proofs.Ytefkdfjdlhmknaa.PDiffTurned Go.Proofs.YtefkdfjdlhmknaaW.PrintWords Go.Proofs.YtefkdfjdlhmknaaW.PrintLast Go.Proofs.YtefkdfjdlhmknaaW.PrintMore

theorem w64 {x : Int} (h1 : -9223372036854775808 ≤ x) (h2 : x ≤ 9223372036854775807) : wrap64 x = x := by
  unfold wrap64
  omega
theorem wf64 {x : Int} (h : (Lit.int .i64 x).wf = true) : -9223372036854775808 ≤ x ∧ x ≤ 9223372036854775807 := by
  simp only [Lit.wf, Bool.and_eq_true, decide_eq_true_eq] at h
  have e1 : IntKind.i64.min = -9223372036854775808 := rfl
  have e2 : IntKind.i64.max = 9223372036854775807 := rfl
  omega
theorem evAt {α : Type} {g : Nat → Option α} {r : α} (h : ∀ k, g (k + 1) = some r) : Ev g r := ⟨1, fun k hk => by obtain ⟨m, rfl⟩ : ∃ m, k = m + 1 := ⟨k - 1, by omega⟩; exact h m⟩
/-! ### Rows of ranges in normal form -/
def cv (l : List S34) (i : Int) : Prop := ∃ r ∈ l, r.f0 ≤ i ∧ i < r.f1
theorem cv_nil (i : Int) : ¬ cv [] i := by rintro ⟨r, h, _⟩; cases h
theorem cv_cons (r : S34) (t : List S34) (i : Int) : cv (r :: t) i ↔ (r.f0 ≤ i ∧ i < r.f1) ∨ cv t i := by
  constructor
  · rintro ⟨q, h, hq⟩
    rcases List.mem_cons.1 h with rfl | h
    · exact .inl hq
    · exact .inr ⟨q, h, hq⟩
  · rintro (h | ⟨q, h, hq⟩)
    · exact ⟨r, by simp, h⟩
    · exact ⟨q, by simp [h], hq⟩
theorem cv_app (s t : List S34) (i : Int) : cv (s ++ t) i ↔ cv s i ∨ cv t i := by
  induction s with
  | nil => simp [cv_nil]
  | cons r s ih => rw [List.cons_append, cv_cons, cv_cons, ih, or_assoc]
theorem cv_mem {s t : List S34} (h : ∀ r, r ∈ s ↔ r ∈ t) (i : Int) : cv s i ↔ cv t i := by
  constructor
  · rintro ⟨r, hr, hi⟩; exact ⟨r, (h r).1 hr, hi⟩
  · rintro ⟨r, hr, hi⟩; exact ⟨r, (h r).2 hr, hi⟩
theorem cv_rev (s : List S34) (i : Int) : cv s.reverse i ↔ cv s i := cv_mem (fun r => List.mem_reverse) i
/-- Every range holds a byte, none lies before 0. -/
def Pos (l : List S34) : Prop := ∀ r ∈ l, 0 ≤ r.f0 ∧ r.f0 < r.f1
def NF (l : List S34) : Prop := Pos l ∧ l.Pairwise (fun a b => a.f1 < b.f0)
theorem nf_nil : NF [] := ⟨(fun _ h => nomatch h), List.Pairwise.nil⟩
theorem nf_tail {r : S34} {t : List S34} (h : NF (r :: t)) : NF t := ⟨fun q hq => h.1 q (by simp [hq]), (List.pairwise_cons.1 h.2).2⟩
theorem nf_first {r : S34} {t : List S34} (h : NF (r :: t)) {i : Int} (hi : cv t i) : r.f1 < i := by
  obtain ⟨q, hq, h1, h2⟩ := hi
  have := (List.pairwise_cons.1 h.2).1 q hq
  omega
theorem nf_lo {r : S34} {t : List S34} (h : NF (r :: t)) {i : Int} (hi : cv (r :: t) i) : r.f0 ≤ i := by
  rcases (cv_cons _ _ _).1 hi with h1 | h1
  · exact h1.1
  · have := nf_first h h1
    have := h.1 r (by simp)
    omega
theorem nf_head {r : S34} {t : List S34} (h : NF (r :: t)) : cv (r :: t) r.f0 := (cv_cons _ _ _).2 (.inl (by have := h.1 r (by simp); omega))
theorem nf_ends {r q : S34} {t s : List S34} (hr : NF (r :: t)) (hq : NF (q :: s)) (h : ∀ i, cv (q :: s) i → cv (r :: t) i) (e : r.f0 = q.f0) : q.f1 ≤ r.f1 := by
  by_cases c : q.f1 ≤ r.f1
  · exact c
  · have h1 := hr.1 r (by simp)
    have h2 := hq.1 q (by simp)
    have h3 := h r.f1 ((cv_cons _ _ _).2 (.inl (by omega)))
    rcases (cv_cons _ _ _).1 h3 with h4 | h4
    · omega
    · have := nf_first hr h4
      omega
theorem nf_one : ∀ {l m : List S34}, NF l → NF m → (∀ i, cv l i ↔ cv m i) → l = m
  | [], [], _, _, _ => rfl
  | [], q :: s, _, hm, h => absurd ((h _).2 (nf_head hm)) (cv_nil _)
  | r :: t, [], hl, _, h => absurd ((h _).1 (nf_head hl)) (cv_nil _)
  | r :: t, q :: s, hl, hm, h => by
    have e0 : r.f0 = q.f0 := by
      have h1 := nf_lo hm ((h _).1 (nf_head hl))
      have h2 := nf_lo hl ((h _).2 (nf_head hm))
      omega
    have e1 : r.f1 = q.f1 := by
      have h1 := nf_ends hl hm (fun i => (h i).2) e0
      have h2 := nf_ends hm hl (fun i => (h i).1) e0.symm
      omega
    have e : r = q := by cases r; cases q; simp_all
    subst e
    congr 1
    refine nf_one (nf_tail hl) (nf_tail hm) fun i => ?_
    constructor
    · intro hi
      have h1 := nf_first hl hi
      rcases (cv_cons _ _ _).1 ((h i).1 ((cv_cons _ _ _).2 (.inr hi))) with h2 | h2
      · omega
      · exact h2
    · intro hi
      have h1 := nf_first hm hi
      rcases (cv_cons _ _ _).1 ((h i).2 ((cv_cons _ _ _).2 (.inr hi))) with h2 | h2
      · omega
      · exact h2
/-! ### The merging of a row that stands in order of its beginnings (what lies behind stands first) -/
def mstep : List S34 → S34 → List S34
  | [], r => [r]
  | q :: t, r => if r.f0 ≤ q.f1 then ⟨q.f0, mx q.f1 r.f1⟩ :: t else r :: q :: t
def NFr (l : List S34) : Prop := Pos l ∧ l.Pairwise (fun a b => b.f1 < a.f0)
theorem nfr_rev {l : List S34} (h : NFr l) : NF l.reverse := ⟨fun r hr => h.1 r (List.mem_reverse.1 hr), List.pairwise_reverse.2 h.2⟩
theorem nf_rev {l : List S34} (h : NF l) : NFr l.reverse := ⟨fun r hr => h.1 r (List.mem_reverse.1 hr), List.pairwise_reverse.2 h.2⟩
theorem mx_le (a b : Int) : a ≤ mx a b ∧ b ≤ mx a b ∧ (mx a b = a ∨ mx a b = b) := by unfold mx; split <;> omega
theorem mn_le (a b : Int) : mn a b ≤ a ∧ mn a b ≤ b ∧ (mn a b = a ∨ mn a b = b) := by unfold mn; split <;> omega
theorem mstep_nf {acc : List S34} {r : S34} (h : NFr acc) (hr : 0 ≤ r.f0 ∧ r.f0 < r.f1) (hle : ∀ q ∈ acc, q.f0 ≤ r.f0) : NFr (mstep acc r) ∧ (∀ i, cv (mstep acc r) i ↔ cv acc i ∨ (r.f0 ≤ i ∧ i < r.f1)) ∧ (∀ q ∈ mstep acc r, q.f0 ≤ r.f0) ∧ (mstep acc r).length ≤ acc.length + 1 := by
  match acc, h, hle with
  | [], h, _ => exact ⟨⟨fun q hq => by simp [mstep] at hq; rw [hq]; exact hr, by simp [mstep]⟩, fun i => by rw [mstep, cv_cons]; simp [cv_nil], by simp [mstep], by simp [mstep]⟩
  | q :: t, h, hle =>
    have hq := h.1 q (by simp)
    have hqr := hle q (by simp)
    obtain ⟨hp1, hp2⟩ := List.pairwise_cons.1 h.2
    by_cases c : r.f0 ≤ q.f1
    · rw [show mstep (q :: t) r = ⟨q.f0, mx q.f1 r.f1⟩ :: t from if_pos c]
      have hm := mx_le q.f1 r.f1
      refine ⟨⟨fun p hp => ?_, List.pairwise_cons.2 ⟨hp1, hp2⟩⟩, fun i => ?_, fun p hp => ?_, by simp⟩
      · rcases List.mem_cons.1 hp with rfl | hp
        · simp only; omega
        · exact h.1 p (by simp [hp])
      · rw [cv_cons, cv_cons]
        simp only
        constructor
        · rintro (h1 | h1)
          · by_cases c2 : i < q.f1
            · exact .inl (.inl ⟨h1.1, c2⟩)
            · exact .inr (by omega)
          · exact .inl (.inr h1)
        · rintro ((h1 | h1) | h1)
          · exact .inl (by omega)
          · exact .inr h1
          · exact .inl (by omega)
      · rcases List.mem_cons.1 hp with rfl | hp
        · exact hqr
        · exact hle p (by simp [hp])
    · rw [show mstep (q :: t) r = r :: q :: t from if_neg c]
      refine ⟨⟨fun p hp => ?_, List.pairwise_cons.2 ⟨fun p hp => ?_, h.2⟩⟩, fun i => ?_, fun p hp => ?_, by simp⟩
      · rcases List.mem_cons.1 hp with rfl | hp
        · exact hr
        · exact h.1 p hp
      · rcases List.mem_cons.1 hp with rfl | hp
        · omega
        · have := hp1 p hp
          omega
      · rw [cv_cons, or_comm]
      · rcases List.mem_cons.1 hp with rfl | hp
        · exact Int.le_refl _
        · exact hle p hp
theorem mfold_nf : ∀ (xs acc : List S34), NFr acc → Pos xs → xs.Pairwise (fun a b => a.f0 ≤ b.f0) → (∀ q ∈ acc, ∀ r ∈ xs, q.f0 ≤ r.f0) →
    NFr (xs.foldl mstep acc) ∧ (∀ i, cv (xs.foldl mstep acc) i ↔ cv acc i ∨ cv xs i) ∧ (xs.foldl mstep acc).length ≤ acc.length + xs.length
  | [], acc, h, _, _, _ => ⟨h, fun i => by simp [cv_nil], by simp⟩
  | r :: xs, acc, h, hp, hs, hle => by
    obtain ⟨h1, h2, h3, h4⟩ := mstep_nf h (hp r (by simp)) (fun q hq => hle q hq r (by simp))
    obtain ⟨hs1, hs2⟩ := List.pairwise_cons.1 hs
    obtain ⟨g1, g2, g3⟩ := mfold_nf xs (mstep acc r) h1 (fun q hq => hp q (by simp [hq])) hs2 (fun q hq p hp => by
      have := h3 q hq
      have := hs1 p hp
      omega)
    refine ⟨g1, fun i => ?_, by rw [List.foldl_cons, List.length_cons]; omega⟩
    rw [List.foldl_cons, g2, h2, cv_cons, or_assoc]
def kept (r : S34) : Bool := decide (r.f1 > mx r.f0 0)
def cut (r : S34) : S34 := ⟨mx r.f0 0, r.f1⟩
/-- What a row of ranges keeps: the bytes from 0 on, no empty range. -/
def keep (l : List S34) : List S34 := (l.filter kept).map cut
theorem keep_pos (l : List S34) : Pos (keep l) := by
  intro r hr
  obtain ⟨q, hq, rfl⟩ := List.mem_map.1 hr
  have := (List.mem_filter.1 hq).2
  have h := mx_le q.f0 0
  simp only [kept, decide_eq_true_eq] at this
  simp only [cut]
  omega
theorem keep_cv (l : List S34) (i : Int) : cv (keep l) i ↔ 0 ≤ i ∧ cv l i := by
  constructor
  · rintro ⟨r, hr, h1, h2⟩
    obtain ⟨q, hq, rfl⟩ := List.mem_map.1 hr
    have h := mx_le q.f0 0
    simp only [cut] at h1 h2
    exact ⟨by omega, q, (List.mem_filter.1 hq).1, by omega, h2⟩
  · rintro ⟨h0, r, hr, h1, h2⟩
    have h := mx_le r.f0 0
    refine ⟨cut r, List.mem_map.2 ⟨r, List.mem_filter.2 ⟨hr, ?_⟩, rfl⟩, ?_, h2⟩
    · simp only [kept, decide_eq_true_eq]; omega
    · simp only [cut]; omega
theorem keep_app (s t : List S34) : keep (s ++ t) = keep s ++ keep t := by simp [keep]
theorem keep_len (l : List S34) : (keep l).length ≤ l.length := by
  rw [keep, List.length_map]
  exact List.length_filter_le _ _
theorem keep_nf {l : List S34} (h : Pos l) : keep l = l := by
  induction l with
  | nil => rfl
  | cons r t ih =>
    have h1 := h r (by simp)
    have hm := mx_le r.f0 0
    have k : kept r = true := by simp only [kept, decide_eq_true_eq]; omega
    have c : cut r = r := by
      obtain ⟨a, b⟩ := r
      simp only [cut] at *
      congr 1
      omega
    have := ih (fun q hq => h q (by simp [hq]))
    simp only [keep, List.filter_cons_of_pos k, List.map_cons, c] at this ⊢
    rw [this]
theorem rd_app (s : List S34) (r : S34) (x : Int) (h : x = s.length) : rd_T34 (s ++ [r]) x = r := by
  subst h
  unfold rd_T34
  rw [List.getD_eq_getElem?_getD, Int.toNat_natCast]
  simp
theorem set_app (s : List S34) (r q : S34) (x : Int) (h : x = s.length) : (s ++ [r]).set x.toNat q = s ++ [q] := by
  subst h
  rw [Int.toNat_natCast]
  simp
theorem rd_dropR (l : List S34) (i : Nat) (h : i < l.length) : l.drop i = rd_T34 l i :: l.drop (i + 1) := by
  rw [List.drop_eq_getElem_cons h]
  unfold rd_T34
  rw [List.getD_eq_getElem?_getD, Int.toNat_natCast, List.getElem?_eq_getElem h]
  rfl
/-! ### The sort and the program's own Norm -/
theorem sort_is (l : List S34) (h : l.length < 4611686018427387904) : ∃ ys, api_Range.f l = some ys ∧ ys.Perm l ∧ ys.Pairwise (fun a b => a.f0 ≤ b.f0) := by
  have hs := Go.Sort.pdq_sorts (Go.Proofs.ltOf cfR34) cfR_swo34 l.toArray 0 l.toArray.size (Go.Lib.bitLen l.toArray.size) true true (Nat.zero_le _) (Nat.le_refl _) (.inl rfl)
  obtain ⟨⟨h1, h2, h3⟩, h4⟩ := hs
  clear h2
  unfold api_Range.f
  rw [if_pos h]
  generalize hd : Go.Sort.pdq (Go.Proofs.ltOf cfR34) l.toArray 0 l.toArray.size (Go.Lib.bitLen l.toArray.size) true true = d at *
  refine ⟨_, rfl, ?_, ?_⟩
  · have e1 : d.extract 0 l.toArray.size = d := by rw [← h1]; simp
    have e2 : l.toArray.extract 0 l.toArray.size = l.toArray := by simp
    rw [e1, e2] at h3
    simpa using h3
  · rw [List.pairwise_iff_getElem]
    intro i j hi hj hij
    have hi' : i < d.size := by simpa using hi
    have hj' : j < d.size := by simpa using hj
    have := h4 i j (by omega) hij (by omega)
    rw [cfR_lt34, getElem!_pos d i hi', getElem!_pos d j hj'] at this
    simp only [decide_eq_false_iff_not, Array.getElem_toList] at this ⊢
    omega
theorem snorm1 (ys : List S34) (hl : ys.length < 8796093022208) (d : Nat) : ∀ (i : Nat) (acc : List S34), i + d = ys.length → acc.length ≤ i →
    Ev (fun k => span_Norm.l1 k acc.reverse ys (ys.length : Int) i) ((ys.drop i).foldl mstep acc).reverse := by
  induction d with
  | zero =>
    intro i acc hi ha
    refine evAt fun k => ?_
    simp only [span_Norm.l1]
    rw [if_neg (by omega), List.drop_of_length_le (by omega)]
    rfl
  | succ d ih =>
    intro i acc hi ha
    have hil : i < ys.length := by omega
    rw [rd_dropR ys i hil, List.foldl_cons]
    match acc, ha with
    | [], ha =>
      refine Ev.step (fun k => ?_) (ih (i + 1) (mstep [] (rd_T34 ys i)) (by omega) (by simp [mstep]))
      simp only [span_Norm.l1]
      rw [if_pos (by omega), if_pos (by omega), if_pos (by omega), if_neg (by simp), if_pos (by simp), w64 (x := (i : Int) + 1) (by omega) (by omega)]
      rfl
    | q :: t, ha =>
      have e : (wrap64 (((q :: t).reverse.length : Int) - 1)) = t.reverse.length := by
        rw [List.length_reverse, List.length_reverse, List.length_cons] at *
        rw [w64 (by omega) (by omega)]
        omega
      have ht : (q :: t).reverse.length = t.length + 1 := by simp
      have ht2 : (q :: t).length = t.length + 1 := by simp
      by_cases c : (rd_T34 ys i).f0 ≤ q.f1
      · refine Ev.step (fun k => ?_) (ih (i + 1) (mstep (q :: t) (rd_T34 ys i)) (by omega) (by rw [mstep, if_pos c]; simp at ha ⊢; omega))
        rw [mstep, if_pos c]
        simp only [span_Norm.l1]
        rw [if_pos (by omega), if_pos (by omega), if_pos (by omega), if_pos (by rw [ht]; omega), e, if_pos (by omega), if_pos (by rw [ht, List.length_reverse]; omega), List.reverse_cons, rd_app _ _ _ rfl, if_pos c, set_app _ _ _ _ rfl, w64 (x := (i : Int) + 1) (by omega) (by omega), List.reverse_cons]
        rfl
      · refine Ev.step (fun k => ?_) (ih (i + 1) (mstep (q :: t) (rd_T34 ys i)) (by omega) (by rw [mstep, if_neg c]; simp at ha ⊢; omega))
        rw [mstep, if_neg c]
        simp only [span_Norm.l1]
        rw [if_pos (by omega), if_pos (by omega), if_pos (by omega), if_pos (by rw [ht]; omega), e, if_pos (by omega), if_pos (by rw [ht, List.length_reverse]; omega), List.reverse_cons, rd_app _ _ _ rfl, if_neg c, if_pos (by rw [← List.reverse_cons, ht]; rw [ht2] at ha; omega), w64 (x := (i : Int) + 1) (by omega) (by omega), List.reverse_cons, List.reverse_cons]
        rfl
theorem keep_succ (l : List S34) (i : Nat) (h : i < l.length) : keep (l.take (i + 1)) = if kept (rd_T34 l i) = true then keep (l.take i) ++ [cut (rd_T34 l i)] else keep (l.take i) := by
  have e : l.take (i + 1) = l.take i ++ [rd_T34 l i] := by
    rw [List.take_succ_eq_append_getElem h]
    congr 2
    unfold rd_T34
    rw [List.getD_eq_getElem?_getD, Int.toNat_natCast, List.getElem?_eq_getElem h]
    rfl
  rw [e, keep_app]
  split
  · rename_i c
    simp [keep, c]
  · rename_i c
    simp [keep, c]
theorem snorm0 (l : List S34) (hl : l.length < 8796093022208) (v : List S34) (hv : Ev (fun k => (api_Range.f (keep l)).bind fun t => span_Norm.l1 k ([] : List S34) t ((keep l).length : Int) 0) v) (d : Nat) : ∀ (i : Nat), i + d = l.length →
    Ev (fun k => span_Norm.l0 k (keep (l.take i)) l (l.length : Int) i) v := by
  induction d with
  | zero =>
    intro i hi
    rw [List.take_of_length_le (by omega)]
    refine Ev.step (fun k => ?_) hv
    simp only [span_Norm.l0]
    rw [if_neg (by omega)]
  | succ d ih =>
    intro i hi
    have hil : i < l.length := by omega
    refine Ev.step (fun k => ?_) (ih (i + 1) (by omega))
    simp only [span_Norm.l0]
    rw [if_pos (by omega), if_pos (by omega), if_pos (by omega), keep_succ l i hil, w64 (x := (i : Int) + 1) (by omega) (by omega)]
    by_cases c : (rd_T34 l i).f1 > mx (rd_T34 l i).f0 0
    · have hk : (keep (l.take i)).length ≤ i := Nat.le_trans (keep_len _) (by rw [List.length_take]; omega)
      rw [if_pos c, if_pos (by omega), if_pos (by simpa [kept] using c)]
      rfl
    · rw [if_neg c, if_neg (by simpa [kept] using c)]
      rfl
theorem snorm (l : List S34) (hl : l.length < 8796093022208) : ∃ v, Ev (fun k => span_Norm.f k l) v ∧ NF v ∧ (∀ i, cv v i ↔ 0 ≤ i ∧ cv l i) ∧ v.length ≤ l.length := by
  have hk := keep_len l
  obtain ⟨ys, h1, h2, h3⟩ := sort_is (keep l) (by omega)
  have hlen : ys.length = (keep l).length := h2.length_eq
  have hpos : Pos ys := fun r hr => keep_pos l r (h2.mem_iff.1 hr)
  obtain ⟨g1, g2, g3⟩ := mfold_nf ys [] ⟨(fun _ h => nomatch h), List.Pairwise.nil⟩ hpos h3 (fun _ h => nomatch h)
  refine ⟨(ys.foldl mstep []).reverse, snorm0 l hl _ ?_ l.length 0 (by omega), nfr_rev g1, fun i => ?_, ?_⟩
  · rw [h1]
    have := snorm1 ys (by omega) ys.length 0 [] (by omega) (by simp)
    rw [← hlen]
    exact this
  · rw [cv_rev, g2, cv_mem (fun r => h2.mem_iff), keep_cv]
    simp [cv_nil]
  · rw [List.length_reverse]
    simp only [List.length_nil] at g3
    omega
theorem snorm_nf {l : List S34} (h : NF l) (hl : l.length < 8796093022208) : Ev (fun k => span_Norm.f k l) l := by
  obtain ⟨v, h1, h2, h3, _⟩ := snorm l hl
  have : v = l := nf_one h2 h fun i => by
    rw [h3]
    refine ⟨fun g => g.2, fun g => ⟨?_, g⟩⟩
    obtain ⟨r, hr, hi⟩ := g
    have := h.1 r hr
    omega
  rw [this] at h1
  exact h1
/-! ### The reference's Norm, Join and Less -/
def bub : List S34 → S34 → List S34 → List S34
  | [], r, B => r :: B
  | q :: t, r, B => if r.f0 < q.f0 then bub t r (q :: B) else (q :: t).reverse ++ r :: B
theorem bub_mem : ∀ (A : List S34) (r : S34) (B : List S34), (bub A r B).Perm (r :: (A.reverse ++ B))
  | [], r, B => List.Perm.refl _
  | q :: t, r, B => by
    unfold bub
    split
    · refine (bub_mem t r (q :: B)).trans ?_
      rw [List.reverse_cons, List.append_assoc]
      exact List.Perm.refl _
    · exact List.perm_middle
theorem bub_sorted : ∀ (A : List S34) (r : S34) (B : List S34), (A.reverse ++ B).Pairwise (fun a b => a.f0 ≤ b.f0) → (∀ b ∈ B, r.f0 ≤ b.f0) → (bub A r B).Pairwise (fun a b => a.f0 ≤ b.f0)
  | [], r, B, h, hb => List.pairwise_cons.2 ⟨hb, by simpa using h⟩
  | q :: t, r, B, h, hb => by
    unfold bub
    split
    · rename_i c
      refine bub_sorted t r (q :: B) (by simpa [List.reverse_cons, List.append_assoc] using h) fun b hb' => ?_
      rcases List.mem_cons.1 hb' with rfl | hb'
      · omega
      · exact hb b hb'
    · rename_i c
      rw [List.pairwise_append] at h ⊢
      obtain ⟨h1, h2, h3⟩ := h
      refine ⟨h1, List.pairwise_cons.2 ⟨hb, h2⟩, fun a ha b hb' => ?_⟩
      rcases List.mem_cons.1 hb' with rfl | hb'
      · rw [List.reverse_cons] at h1
        rw [List.pairwise_append] at h1
        rcases List.mem_cons.1 (List.mem_reverse.1 ha) with rfl | ha
        · omega
        · have := h1.2.2 a (List.mem_reverse.2 ha) q (by simp)
          omega
      · exact h3 a ha b hb'
theorem rd_mid (s t : List S34) (r : S34) (x : Int) (h : x = s.length) : rd_T34 (s ++ r :: t) x = r := by
  subst h
  unfold rd_T34
  rw [List.getD_eq_getElem?_getD, Int.toNat_natCast]
  simp
theorem set_mid (s t : List S34) (r q : S34) (x : Int) (h : x = s.length) : (s ++ r :: t).set x.toNat q = s ++ q :: t := by
  subst h
  rw [Int.toNat_natCast]
  simp
theorem rnorm1 (l : List S34) (i : Nat) (v : List S34) (N : Nat) (hN : N < 8796093022208) : ∀ (A : List S34) (r : S34) (B : List S34), A.length + B.length + 1 ≤ N →
    Ev (fun k => brambleref02_Norm.l0 k l (bub A r B) (wrap64 ((i : Int) + 1))) v → Ev (fun k => brambleref02_Norm.l1 k l (A.reverse ++ r :: B) (i : Int) (A.length : Int)) v
  | [], r, B, _, h => by
    refine Ev.step (fun k => ?_) h
    simp only [brambleref02_Norm.l1]
    rw [if_neg (by simp)]
    rfl
  | q :: t, r, B, hl, h => by
    have hl' : t.length + 1 + B.length + 1 ≤ N := by simpa using hl
    have e1 : (q :: t).reverse ++ r :: B = t.reverse ++ q :: r :: B := by simp
    have r1 : rd_T34 (t.reverse ++ q :: r :: B) (((q :: t).length : Nat) : Int) = r := by rw [← e1]; exact rd_mid _ _ _ _ (by simp)
    have r0 : rd_T34 (t.reverse ++ q :: r :: B) (t.length : Int) = q := rd_mid _ _ _ _ (by simp)
    have s1 : (t.reverse ++ q :: r :: B).set (((q :: t).length : Nat) : Int).toNat q = t.reverse ++ q :: q :: B := by
      rw [← e1, set_mid (q :: t).reverse B r q _ (by simp)]; simp
    have s0 : (t.reverse ++ q :: q :: B).set ((t.length : Nat) : Int).toNat r = t.reverse ++ r :: q :: B := set_mid _ _ _ _ _ (by simp)
    have len : (t.reverse ++ q :: r :: B).length = t.length + B.length + 2 := by simp; omega
    have ew : wrap64 ((((q :: t).length : Nat) : Int) - 1) = (t.length : Int) := by
      rw [List.length_cons, w64 (by omega) (by omega)]; omega
    by_cases c : r.f0 < q.f0
    · have hb : bub (q :: t) r B = bub t r (q :: B) := if_pos c
      rw [hb] at h
      refine Ev.step (fun k => ?_) (rnorm1 l i v N hN t r (q :: B) (by simp; omega) h)
      rw [e1]
      simp only [brambleref02_Norm.l1]
      rw [if_pos (by simp <;> omega), if_pos (by omega), if_pos (by rw [len]; simp <;> omega), ew, if_pos (by omega), if_pos (by rw [len]; omega), r1, r0, if_pos c, s1, s0]
    · have hb : bub (q :: t) r B = (q :: t).reverse ++ r :: B := if_neg c
      rw [hb, e1] at h
      refine Ev.step (fun k => ?_) h
      rw [e1]
      simp only [brambleref02_Norm.l1]
      rw [if_pos (by simp <;> omega), if_pos (by omega), if_pos (by rw [len]; simp <;> omega), ew, if_pos (by omega), if_pos (by rw [len]; omega), r1, r0, if_neg c]
theorem rnorm2 (ys : List S34) (hl : ys.length < 8796093022208) (d : Nat) : ∀ (i : Nat) (acc : List S34), i + d = ys.length → acc.length ≤ i →
    Ev (fun k => brambleref02_Norm.l2 k ys acc.reverse i) ((ys.drop i).foldl mstep acc).reverse := by
  induction d with
  | zero =>
    intro i acc hi ha
    refine evAt fun k => ?_
    simp only [brambleref02_Norm.l2]
    rw [if_neg (by omega), List.drop_of_length_le (by omega)]
    rfl
  | succ d ih =>
    intro i acc hi ha
    have hil : i < ys.length := by omega
    rw [rd_dropR ys i hil, List.foldl_cons]
    match acc, ha with
    | [], ha =>
      refine Ev.step (fun k => ?_) (ih (i + 1) (mstep [] (rd_T34 ys i)) (by omega) (by simp [mstep]))
      simp only [brambleref02_Norm.l2]
      rw [if_pos (by omega), if_neg (by simp), if_pos (by omega), if_pos (by simp), w64 (x := (i : Int) + 1) (by omega) (by omega)]
      rfl
    | q :: t, ha =>
      have e : (wrap64 (((q :: t).reverse.length : Int) - 1)) = t.reverse.length := by
        rw [List.length_reverse, List.length_reverse, List.length_cons] at *
        rw [w64 (by omega) (by omega)]
        omega
      have ht : (q :: t).reverse.length = t.length + 1 := by simp
      have ht2 : (q :: t).length = t.length + 1 := by simp
      by_cases c : (rd_T34 ys i).f0 ≤ q.f1
      · refine Ev.step (fun k => ?_) (ih (i + 1) (mstep (q :: t) (rd_T34 ys i)) (by omega) (by rw [mstep, if_pos c]; simp at ha ⊢; omega))
        rw [mstep, if_pos c]
        simp only [brambleref02_Norm.l2]
        rw [if_pos (by omega), if_pos (by rw [ht]; omega), if_pos (by omega), e, if_pos (by omega), if_pos (by rw [ht, List.length_reverse]; omega), List.reverse_cons, rd_app _ _ _ rfl, if_pos c, set_app _ _ _ _ rfl, w64 (x := (i : Int) + 1) (by omega) (by omega), List.reverse_cons]
        rfl
      · refine Ev.step (fun k => ?_) (ih (i + 1) (mstep (q :: t) (rd_T34 ys i)) (by omega) (by rw [mstep, if_neg c]; simp at ha ⊢; omega))
        rw [mstep, if_neg c]
        simp only [brambleref02_Norm.l2]
        rw [if_pos (by omega), if_pos (by rw [ht]; omega), if_pos (by omega), e, if_pos (by omega), if_pos (by rw [ht, List.length_reverse]; omega), List.reverse_cons, rd_app _ _ _ rfl, if_neg c, if_pos (by rw [← List.reverse_cons, ht]; rw [ht2] at ha; omega), w64 (x := (i : Int) + 1) (by omega) (by omega), List.reverse_cons, List.reverse_cons]
        rfl
theorem rnorm0 (l : List S34) (hl : l.length < 8796093022208) (d : Nat) : ∀ (i : Nat) (x3 : List S34), i + d = l.length → x3.Perm (keep (l.take i)) → x3.Pairwise (fun a b => a.f0 ≤ b.f0) →
    ∃ ys : List S34, ys.Perm (keep l) ∧ ys.Pairwise (fun a b => a.f0 ≤ b.f0) ∧ ∀ v, Ev (fun k => brambleref02_Norm.l2 k ys ([] : List S34) 0) v → Ev (fun k => brambleref02_Norm.l0 k l x3 i) v := by
  induction d with
  | zero =>
    intro i x3 hi hp hs
    rw [List.take_of_length_le (by omega)] at hp
    refine ⟨x3, hp, hs, fun v h => Ev.step (fun k => ?_) h⟩
    simp only [brambleref02_Norm.l0]
    rw [if_neg (by omega)]
  | succ d ih =>
    intro i x3 hi hp hs
    have hil : i < l.length := by omega
    have hlen : x3.length ≤ i := by
      rw [hp.length_eq]
      exact Nat.le_trans (keep_len _) (by rw [List.length_take]; omega)
    have hk := keep_succ l i hil
    by_cases c : kept (rd_T34 l i) = true
    · rw [if_pos c] at hk
      have c' : ¬ (rd_T34 l i).f1 ≤ mx (rd_T34 l i).f0 0 := by simpa [kept] using c
      obtain ⟨ys, h1, h2, h3⟩ := ih (i + 1) (bub x3.reverse (cut (rd_T34 l i)) []) (by omega) (by
        rw [hk]
        refine (bub_mem _ _ _).trans ?_
        rw [List.reverse_reverse, List.append_nil]
        exact (List.perm_append_singleton _ _).symm.trans (hp.append_right _)) (bub_sorted _ _ _ (by simpa using hs) (fun _ h => nomatch h))
      refine ⟨ys, h1, h2, fun v hv => ?_⟩
      have h4 := rnorm1 l i v (i + 1) (by omega) x3.reverse (cut (rd_T34 l i)) [] (by rw [List.length_reverse, List.length_nil]; omega) (by rw [w64 (by omega) (by omega)]; exact h3 v hv)
      rw [List.reverse_reverse, List.length_reverse] at h4
      refine Ev.step (fun k => ?_) h4
      simp only [brambleref02_Norm.l0]
      have e : wrap64 (((x3 ++ [(⟨mx (rd_T34 l i).f0 0, (rd_T34 l i).f1⟩ : S34)]).length : Int) - 1) = x3.length := by
        rw [List.length_append, List.length_singleton, w64 (by omega) (by omega)]; omega
      rw [if_pos (by omega), if_pos (by omega), if_neg c', if_pos (by omega)]
      simp only [Option.bind_some]
      rw [e]
      rfl
    · rw [if_neg c] at hk
      have c' : (rd_T34 l i).f1 ≤ mx (rd_T34 l i).f0 0 := by simpa [kept] using c
      obtain ⟨ys, h1, h2, h3⟩ := ih (i + 1) x3 (by omega) (by rw [hk]; exact hp) hs
      refine ⟨ys, h1, h2, fun v hv => Ev.step (fun k => ?_) (h3 v hv)⟩
      simp only [brambleref02_Norm.l0]
      rw [if_pos (by omega), if_pos (by omega), if_pos c', w64 (x := (i : Int) + 1) (by omega) (by omega)]
      rfl
theorem rnorm (l : List S34) (hl : l.length < 8796093022208) : ∃ v, Ev (fun k => brambleref02_Norm.f k l) v ∧ NF v ∧ (∀ i, cv v i ↔ 0 ≤ i ∧ cv l i) ∧ v.length ≤ l.length := by
  have hk := keep_len l
  obtain ⟨ys, h2, h3, h1⟩ := rnorm0 l hl l.length 0 [] (by omega) (List.Perm.refl _) List.Pairwise.nil
  have hlen : ys.length = (keep l).length := h2.length_eq
  have hpos : Pos ys := fun r hr => keep_pos l r (h2.mem_iff.1 hr)
  obtain ⟨g1, g2, g3⟩ := mfold_nf ys [] ⟨(fun _ h => nomatch h), List.Pairwise.nil⟩ hpos h3 (fun _ h => nomatch h)
  refine ⟨(ys.foldl mstep []).reverse, h1 _ (rnorm2 ys (by omega) ys.length 0 [] (by omega) (by simp)), nfr_rev g1, fun i => ?_, ?_⟩
  · rw [cv_rev, g2, cv_mem (fun r => h2.mem_iff), keep_cv]
    simp [cv_nil]
  · rw [List.length_reverse]
    simp only [List.length_nil] at g3
    omega
theorem rnorm_nf {l : List S34} (h : NF l) (hl : l.length < 8796093022208) : Ev (fun k => brambleref02_Norm.f k l) l := by
  obtain ⟨v, h1, h2, h3, _⟩ := rnorm l hl
  have : v = l := nf_one h2 h fun i => by
    rw [h3]
    refine ⟨fun g => g.2, fun g => ⟨?_, g⟩⟩
    obtain ⟨r, hr, hi⟩ := g
    have := h.1 r hr
    omega
  rw [this] at h1
  exact h1
theorem rjoin (a b : List S34) (hl : a.length + b.length < 8796093022208) : ∃ v, Ev (fun k => brambleref02_Join.f k a b) v ∧ NF v ∧ (∀ i, cv v i ↔ 0 ≤ i ∧ (cv a i ∨ cv b i)) ∧ v.length ≤ a.length + b.length := by
  obtain ⟨v, h1, h2, h3, h4⟩ := rnorm (a ++ b) (by rw [List.length_append]; exact hl)
  refine ⟨v, ?_, h2, fun i => by rw [h3, cv_app], by rwa [List.length_append] at h4⟩
  unfold brambleref02_Join.f
  have c1 : ([] : List S34).length + a.length < 8796093022208 := by simp; omega
  have c2 : ([] ++ a : List S34).length + b.length < 8796093022208 := by simp; omega
  simp only [if_pos c1, Option.bind_some, if_pos c2, List.nil_append, if_pos hl]
  exact Ev.bind (f := fun _ t => some t) h1 (evAt fun _ => rfl)
theorem nf_len : ∀ {l : List S34} {N : Int}, NF l → ∀ lo : Int, lo ≤ N → (∀ r ∈ l, lo ≤ r.f0 ∧ r.f1 ≤ N) → (l.length : Int) ≤ N - lo
  | [], N, _, lo, h, _ => by simp; omega
  | r :: t, N, h, lo, _, hb => by
    have h0 := h.1 r (by simp)
    have h1 := hb r (by simp)
    have hp := (List.pairwise_cons.1 h.2).1
    have := nf_len (nf_tail h) (lo + 1) (by omega) (fun q hq => ⟨by have := hp q hq; omega, (hb q (by simp [hq])).2⟩)
    rw [List.length_cons]
    omega
theorem nf_short {l : List S34} {N : Int} (h : NF l) (hN : 0 ≤ N) (hb : ∀ i, cv l i → i < N) : (l.length : Int) ≤ N := by
  have := nf_len h 0 hN (fun r hr => by
    have h1 := h.1 r hr
    have := hb (r.f1 - 1) ⟨r, hr, by omega, by omega⟩
    omega)
  omega
/-- What one hole leaves of one range. -/
def two (r h : S34) : List S34 := [⟨r.f0, mn r.f1 h.f0⟩, ⟨mx r.f0 h.f1, r.f1⟩]
theorem two_cv (r h : S34) (hh : h.f0 < h.f1) (i : Int) : cv (two r h) i ↔ (r.f0 ≤ i ∧ i < r.f1) ∧ ¬ (h.f0 ≤ i ∧ i < h.f1) := by
  have h1 := mx_le r.f0 h.f1
  have h2 := mn_le r.f1 h.f0
  rw [two, cv_cons, cv_cons]
  simp only [cv_nil, or_false]
  constructor
  · rintro (⟨a, b⟩ | ⟨a, b⟩)
    · exact ⟨by omega, by omega⟩
    · exact ⟨by omega, by omega⟩
  · rintro ⟨⟨a, b⟩, c⟩
    by_cases d : i < h.f0
    · exact .inl ⟨a, by omega⟩
    · exact .inr ⟨by omega, b⟩
theorem flat_cv (h : S34) (hh : h.f0 < h.f1) : ∀ (l : List S34) (i : Int), cv (l.flatMap fun r => two r h) i ↔ cv l i ∧ ¬ (h.f0 ≤ i ∧ i < h.f1)
  | [], i => by simp [cv_nil]
  | r :: t, i => by
    rw [List.flatMap_cons, cv_app, two_cv r h hh, flat_cv h hh t, cv_cons]
    constructor
    · rintro (⟨a, b⟩ | ⟨a, b⟩)
      · exact ⟨.inl a, b⟩
      · exact ⟨.inr a, b⟩
    · rintro ⟨a | a, b⟩
      · exact .inl ⟨a, b⟩
      · exact .inr ⟨a, b⟩
theorem flat_len (h : S34) (l : List S34) : (l.flatMap fun r => two r h).length = 2 * l.length := by
  induction l with
  | nil => rfl
  | cons r t ih =>
    rw [List.flatMap_cons, List.length_append, ih, List.length_cons]
    simp [two]
    omega
theorem rless1 (xs hs : List S34) (j : Nat) (hj : j < hs.length) (hx : xs.length ≤ 1000000) (v : List S34)
    (h : Ev (fun k => (brambleref02_Norm.f k (xs.flatMap fun r => two r (rd_T34 hs j))).bind fun t => brambleref02_Less.l0 k t hs (wrap64 ((j : Int) + 1))) v) (d : Nat) : ∀ i : Nat, i + d = xs.length →
    Ev (fun k => brambleref02_Less.l1 k xs hs j ((xs.take i).flatMap fun r => two r (rd_T34 hs j)) i) v := by
  induction d with
  | zero =>
    intro i hi
    rw [List.take_of_length_le (by omega)]
    refine Ev.step (fun k => ?_) h
    simp only [brambleref02_Less.l1]
    rw [if_neg (by omega)]
  | succ d ih =>
    intro i hi
    have hil : i < xs.length := by omega
    have e : (xs.take (i + 1)).flatMap (fun r => two r (rd_T34 hs j)) = (xs.take i).flatMap (fun r => two r (rd_T34 hs j)) ++ two (rd_T34 xs i) (rd_T34 hs j) := by
      rw [List.take_succ_eq_append_getElem hil, List.flatMap_append]
      congr 1
      rw [List.flatMap_singleton]
      congr 1
      unfold rd_T34
      rw [List.getD_eq_getElem?_getD, Int.toNat_natCast, List.getElem?_eq_getElem hil]
      rfl
    have h2 := ih (i + 1) (by omega)
    rw [e] at h2
    have hl := flat_len (rd_T34 hs j) (xs.take i)
    rw [List.length_take] at hl
    refine Ev.step (fun k => ?_) h2
    simp only [brambleref02_Less.l1]
    rw [if_pos (by omega), if_pos (by omega), if_pos (by omega), if_pos (by omega)]
    simp only [Option.bind_some]
    rw [if_pos (by rw [hl]; simp; omega), w64 (x := (i : Int) + 1) (by omega) (by omega)]
    rfl
theorem rless0 (hs : List S34) (hp : ∀ h ∈ hs, h.f0 < h.f1) (hl : hs.length ≤ 1000000) (N : Int) (hN : 0 ≤ N) (hN2 : N ≤ 1000000) (d : Nat) : ∀ (j : Nat) (xs : List S34), j + d = hs.length → NF xs → (∀ i, cv xs i → i < N) →
    ∃ v, Ev (fun k => brambleref02_Less.l0 k xs hs j) v ∧ NF v ∧ (∀ i, cv v i ↔ cv xs i ∧ ¬ cv (hs.drop j) i) := by
  induction d with
  | zero =>
    intro j xs hj hnf hb
    refine ⟨xs, evAt fun k => ?_, hnf, fun i => ?_⟩
    · simp only [brambleref02_Less.l0]
      rw [if_neg (by omega)]
    · rw [List.drop_of_length_le (by omega)]
      exact ⟨fun h => ⟨h, cv_nil _⟩, fun h => h.1⟩
  | succ d ih =>
    intro j xs hj hnf hb
    have hjl : j < hs.length := by omega
    have hxs := nf_short hnf hN hb
    have hm : rd_T34 hs j ∈ hs := by
      unfold rd_T34
      rw [List.getD_eq_getElem?_getD, Int.toNat_natCast, List.getElem?_eq_getElem hjl]
      exact List.getElem_mem hjl
    have hh := hp _ hm
    have hfl := flat_len (rd_T34 hs j) xs
    obtain ⟨ys, e1, n1, c1, _⟩ := rnorm (xs.flatMap fun r => two r (rd_T34 hs j)) (by omega)
    have c1' : ∀ i, cv ys i ↔ cv xs i ∧ ¬ ((rd_T34 hs j).f0 ≤ i ∧ i < (rd_T34 hs j).f1) := fun i => by
      rw [c1, flat_cv _ hh]
      refine ⟨fun h => h.2, fun h => ⟨?_, h⟩⟩
      obtain ⟨r, hr, hi⟩ := h.1
      have := hnf.1 r hr
      omega
    obtain ⟨v, e2, n2, c2⟩ := ih (j + 1) ys (by omega) n1 (fun i hi => hb i ((c1' i).1 hi).1)
    refine ⟨v, Ev.step (fun k => ?_) (rless1 xs hs j hjl (by omega) v (Ev.bind e1 (by rw [w64 (by omega) (by omega)]; exact e2)) xs.length 0 (by omega)), n2, fun i => ?_⟩
    · simp only [brambleref02_Less.l0]
      rw [if_pos (by omega)]
      rfl
    · rw [c2, c1', rd_dropR hs j hjl, cv_cons]
      constructor
      · rintro ⟨⟨a, b⟩, c⟩
        exact ⟨a, fun h => h.elim b c⟩
      · rintro ⟨a, b⟩
        exact ⟨⟨a, fun h => b (.inl h)⟩, fun h => b (.inr h)⟩
theorem rless {a b : List S34} {N : Int} (hN : 0 ≤ N) (hN2 : N ≤ 1000000) (ha : NF a) (hb : ∀ i, cv a i → i < N) (hl : b.length ≤ 1000000) : ∃ v, Ev (fun k => brambleref02_Less.f k a b) v ∧ NF v ∧ (∀ i, cv v i ↔ cv a i ∧ ¬ cv b i) := by
  have h1 := nf_short ha hN hb
  obtain ⟨w, e2, n2, c2, l2⟩ := rnorm b (by omega)
  obtain ⟨v, e3, n3, c3⟩ := rless0 w (fun h hh => (n2.1 h hh).2) (by omega) N hN hN2 w.length 0 a (by omega) ha hb
  refine ⟨v, Ev.bind (rnorm_nf ha (by omega)) (Ev.bind e2 e3), n3, fun i => ?_⟩
  rw [c3, List.drop_zero, c2]
  constructor
  · rintro ⟨p, q⟩
    refine ⟨p, fun h => q ⟨?_, h⟩⟩
    obtain ⟨r, hr, hi⟩ := p
    have := ha.1 r hr
    omega
  · rintro ⟨p, q⟩
    exact ⟨p, fun h => q h.2⟩
theorem nf_empty {v : List S34} (h : NF v) (hc : ∀ i, ¬ cv v i) : v = [] := nf_one h nf_nil fun i => ⟨fun g => absurd g (hc i), fun g => absurd g (cv_nil i)⟩
/-! ### Trees: the size and the fit -/
theorem bal_ext {a b : ByteArray} (h : a.toList = b.toList) : a = b := by
  rw [ByteArray.toList_eq, ByteArray.toList_eq] at h
  obtain ⟨⟨a⟩⟩ := a
  obtain ⟨⟨b⟩⟩ := b
  simpa using h
theorem rd_drop24 (l : List S24) (i : Nat) (h : i < l.length) : l.drop i = rd_T24 l i :: l.drop (i + 1) := by
  rw [List.drop_eq_getElem_cons h]
  unfold rd_T24
  rw [List.getD_eq_getElem?_getD, Int.toNat_natCast, List.getElem?_eq_getElem h]
  rfl
theorem rd_mem24 (l : List S24) (i : Nat) (h : i < l.length) : rd_T24 l i ∈ l := by
  unfold rd_T24
  rw [List.getD_eq_getElem?_getD, Int.toNat_natCast, List.getElem?_eq_getElem h]
  exact List.getElem_mem h
theorem small_l0 (l : List S24) (hl : l.length * 88 ≤ 140737488351232)
    (ih : ∀ y ∈ l, ∀ a : Int, 0 ≤ a → a ≤ 1000000 → ∃ v : Int, Ev (fun k => brambleref14_Small.f k y.f0 y.f1 y.f2 y.f3 y.f4 y.f5 y.f6 a) v ∧ -1 ≤ v ∧ v ≤ a ∧ (0 ≤ v → (szN24 y : Int) = a - v))
    (b0 : ByteArray) (b1 : Bool) (b2 : ByteArray) (b3 b4 b5 : Int) (d : Nat) : ∀ (i : Nat) (a : Int), i + d = l.length → -1 ≤ a → a ≤ 1000000 →
    ∃ v : Int, Ev (fun k => brambleref14_Small.l0 k a i b0 b1 b2 b3 b4 b5 l) v ∧ -1 ≤ v ∧ v ≤ a ∧ (0 ≤ v → (szL24 (l.drop i) : Int) = a - v) := by
  induction d with
  | zero =>
    intro i a hi h1 h2
    refine ⟨a, evAt fun k => ?_, h1, Int.le_refl _, fun _ => ?_⟩
    · simp only [brambleref14_Small.l0]
      rw [if_neg (by omega)]
    · rw [List.drop_of_length_le (by omega), szL24]
      omega
  | succ d ihd =>
    intro i a hi h1 h2
    have hil : i < l.length := by omega
    by_cases c : a ≥ 0
    · obtain ⟨v1, e1, g1, g2, g3⟩ := ih _ (rd_mem24 l i hil) a c h2
      obtain ⟨v2, e2, k1, k2, k3⟩ := ihd (i + 1) v1 (by omega) g1 (by omega)
      refine ⟨v2, Ev.step (fun k => ?_) (Ev.bind e1 (f := fun k t => brambleref14_Small.l0 k t ((i + 1 : Nat) : Int) b0 b1 b2 b3 b4 b5 l) e2), k1, by omega, fun hv => ?_⟩
      · simp only [brambleref14_Small.l0]
        rw [if_pos (by omega), if_pos c, if_pos (by omega), w64 (x := (i : Int) + 1) (by omega) (by omega)]
        rfl
      · rw [rd_drop24 l i hil, szL24]
        have := k3 hv
        have := g3 (by omega)
        omega
    · refine ⟨a, evAt fun k => ?_, h1, Int.le_refl _, fun hv => absurd hv (by omega)⟩
      simp only [brambleref14_Small.l0]
      rw [if_pos (by omega), if_neg c]
theorem szN_eq (s : S24) : szN24 s = szL24 s.f6 + 1 := by
  obtain ⟨f0, f1, f2, f3, f4, f5, f6⟩ := s
  rw [szN24]
theorem small_Ev : ∀ (n : Nat) (s : S24), okF24 n s → ∀ a : Int, 0 ≤ a → a ≤ 1000000 → ∃ v : Int, Ev (fun k => brambleref14_Small.f k s.f0 s.f1 s.f2 s.f3 s.f4 s.f5 s.f6 a) v ∧ -1 ≤ v ∧ v ≤ a ∧ (0 ≤ v → (szN24 s : Int) = a - v)
  | 0, _, h, _, _, _ => h.elim
  | n + 1, s, h, a, h1, h2 => by
    obtain ⟨_, _, _, _, _, _, hl, hk⟩ := h
    obtain ⟨v, e, g1, g2, g3⟩ := small_l0 s.f6 hl (fun y hy => small_Ev n y (hk y hy)) s.f0 s.f1 s.f2 s.f3 s.f4 s.f5 s.f6.length 0 (a - 1) (by omega) (by omega) (by omega)
    refine ⟨v, Ev.step (fun k => ?_) e, g1, by omega, fun hv => ?_⟩
    · simp only [brambleref14_Small.f]
      rw [w64 (by omega) (by omega)]
      rfl
    · have := g3 hv
      rw [szN_eq]
      simp only [List.drop_zero] at this
      omega
/-- No place of the tree lies before 0 or behind H. -/
inductive Bd (H : Int) : S24 → Prop
  | mk (s : S24) (h0 : 0 ≤ s.f3) (h1 : s.f3 ≤ s.f4) (h2 : s.f4 ≤ H) (hk : ∀ y ∈ s.f6, Bd H y) : Bd H s
theorem fit_l0 (H : Int) (l : List S24) (hl : l.length * 88 ≤ 140737488351232)
    (ih : ∀ y ∈ l, ∀ lo hi d : Int, 0 ≤ lo → hi ≤ H → ∃ b, Ev (fun k => brambleref14_fit.f k y.f0 y.f1 y.f2 y.f3 y.f4 y.f5 y.f6 lo hi d) b ∧ (b = true → Bd H y))
    (b0 : ByteArray) (b1 : Bool) (b2 : ByteArray) (b3 b4 b5 : Int) (hb4 : b4 ≤ H) (dp : Int) (d : Nat) : ∀ (i : Nat) (lo : Int), i + d = l.length → 0 ≤ lo →
    ∃ b, Ev (fun k => brambleref14_fit.l0 k dp lo i b0 b1 b2 b3 b4 b5 l) b ∧ (b = true → ∀ y ∈ l.drop i, Bd H y) := by
  induction d with
  | zero =>
    intro i lo hi h1
    refine ⟨true, evAt fun k => ?_, fun _ y hy => ?_⟩
    · simp only [brambleref14_fit.l0]
      rw [if_neg (by omega)]
    · rw [List.drop_of_length_le (by omega)] at hy
      cases hy
  | succ d ihd =>
    intro i lo hi h1
    have hil : i < l.length := by omega
    obtain ⟨b, e1, g1⟩ := ih _ (rd_mem24 l i hil) lo b4 (wrap64 (dp + 1)) h1 hb4
    cases b with
    | false =>
      refine ⟨false, Ev.step (fun k => ?_) (Ev.bind e1 (f := fun k t => if t = true then brambleref14_fit.l0 k dp ((rd_T24 l i).f4) ((i + 1 : Nat) : Int) b0 b1 b2 b3 b4 b5 l else some false) (evAt fun _ => rfl)), fun h => nomatch h⟩
      simp only [brambleref14_fit.l0]
      rw [if_pos (by omega), if_pos (by omega), w64 (x := (i : Int) + 1) (by omega) (by omega)]
      rfl
    | true =>
      have hy := g1 rfl
      obtain ⟨b', e2, g2⟩ := ihd (i + 1) ((rd_T24 l i).f4) (by omega) (by cases hy; omega)
      refine ⟨b', Ev.step (fun k => ?_) (Ev.bind e1 (f := fun k t => if t = true then brambleref14_fit.l0 k dp ((rd_T24 l i).f4) ((i + 1 : Nat) : Int) b0 b1 b2 b3 b4 b5 l else some false) e2), fun hb y hy' => ?_⟩
      · simp only [brambleref14_fit.l0]
        rw [if_pos (by omega), if_pos (by omega), w64 (x := (i : Int) + 1) (by omega) (by omega)]
        rfl
      · rw [rd_drop24 l i hil] at hy'
        rcases List.mem_cons.1 hy' with rfl | hy'
        · exact hy
        · exact g2 hb y hy'
theorem fit_Ev (H : Int) : ∀ (n : Nat) (s : S24), okF24 n s → ∀ lo hi d : Int, 0 ≤ lo → hi ≤ H → ∃ b, Ev (fun k => brambleref14_fit.f k s.f0 s.f1 s.f2 s.f3 s.f4 s.f5 s.f6 lo hi d) b ∧ (b = true → Bd H s)
  | 0, _, h, _, _, _, _, _ => h.elim
  | n + 1, s, h, lo, hi, d, hlo, hhi => by
    obtain ⟨_, _, _, _, _, _, hl, hk⟩ := h
    have T : Ev (fun k => brambleref14_fit.j0 k d true s.f0 s.f1 s.f2 s.f3 s.f4 s.f5 s.f6) false := evAt fun k => by simp only [brambleref14_fit.j0]; rfl
    have T1 : Ev (fun k => brambleref14_fit.j1 k d true s.f0 s.f1 s.f2 s.f3 s.f4 s.f5 s.f6) false := evAt fun k => by simp only [brambleref14_fit.j1]; rfl
    have no : ∀ {g : Nat → Option Bool}, Ev g false → ∃ b, Ev g b ∧ (b = true → Bd H s) := fun h => ⟨false, h, fun h => nomatch h⟩
    by_cases c1 : d > 32
    · exact no (Ev.step (fun k => by simp only [brambleref14_fit.f]; rw [if_pos c1]) T)
    by_cases c2 : s.f3 < lo
    · exact no (Ev.step (fun k => by simp only [brambleref14_fit.f]; rw [if_neg c1, if_pos c2]) T)
    by_cases c3 : s.f4 < s.f3
    · exact no (Ev.step (fun k => by simp only [brambleref14_fit.f]; rw [if_neg c1, if_neg c2, if_pos c3]) T)
    by_cases c4 : s.f4 > hi
    · exact no (Ev.step (fun k => by simp only [brambleref14_fit.f]; rw [if_neg c1, if_neg c2, if_neg c3, if_pos c4]) T)
    by_cases c5 : s.f0.toList = ([] : List UInt8)
    · exact no (Ev.step (fun k => by simp only [brambleref14_fit.f]; rw [if_neg c1, if_neg c2, if_neg c3, if_neg c4, if_pos c5]) T)
    by_cases c6 : (s.f0.size : Int) > 80
    · exact no (Ev.step (fun k => by simp only [brambleref14_fit.f]; rw [if_neg c1, if_neg c2, if_neg c3, if_neg c4, if_neg c5, if_pos c6]) T)
    by_cases c7 : (s.f2.size : Int) > 32
    · exact no (Ev.step (fun k => by simp only [brambleref14_fit.f]; rw [if_neg c1, if_neg c2, if_neg c3, if_neg c4, if_neg c5, if_neg c6, if_pos c7]) T)
    by_cases c8 : s.f5 < 0
    · exact no (Ev.step (fun k => by simp only [brambleref14_fit.f]; rw [if_neg c1, if_neg c2, if_neg c3, if_neg c4, if_neg c5, if_neg c6, if_neg c7, if_pos c8]) T)
    by_cases c9 : s.f5 ≥ 3
    · exact no (Ev.step (fun k => by simp only [brambleref14_fit.f]; rw [if_neg c1, if_neg c2, if_neg c3, if_neg c4, if_neg c5, if_neg c6, if_neg c7, if_neg c8, decide_eq_true c9]) T)
    have e9 : decide (s.f5 ≥ 3) = false := decide_eq_false c9
    have E : ∀ k, brambleref14_fit.f (k + 1) s.f0 s.f1 s.f2 s.f3 s.f4 s.f5 s.f6 lo hi d = brambleref14_fit.j0 k d false s.f0 s.f1 s.f2 s.f3 s.f4 s.f5 s.f6 := fun k => by
      simp only [brambleref14_fit.f]; rw [if_neg c1, if_neg c2, if_neg c3, if_neg c4, if_neg c5, if_neg c6, if_neg c7, if_neg c8, e9]
    obtain ⟨b, e2, g2⟩ := fit_l0 H s.f6 hl (fun y hy => fit_Ev H n y (hk y hy)) s.f0 s.f1 s.f2 s.f3 s.f4 s.f5 (by omega) d s.f6.length 0 s.f3 (by omega) (by omega)
    have yes : ∃ b, Ev (fun k => brambleref14_fit.j1 k d false s.f0 s.f1 s.f2 s.f3 s.f4 s.f5 s.f6) b ∧ (b = true → Bd H s) := ⟨b, Ev.step (fun k => by simp only [brambleref14_fit.j1]; rfl) e2, fun hb => ⟨s, by omega, by omega, by omega, fun y hy => g2 hb y (by simpa using hy)⟩⟩
    have J : ∃ b, Ev (fun k => brambleref14_fit.j0 k d false s.f0 s.f1 s.f2 s.f3 s.f4 s.f5 s.f6) b ∧ (b = true → Bd H s) := by
      by_cases d1 : s.f5 = 2
      · by_cases d2 : (s.f6.length : Int) > 0
        · exact no (Ev.step (fun k => by simp only [brambleref14_fit.j0]; rw [if_neg (by simp), if_pos d1, if_pos d2]) T1)
        · cases d3 : (s.f3 != s.f4) with
          | true => exact no (Ev.step (fun k => by simp only [brambleref14_fit.j0]; rw [if_neg (by simp), if_pos d1, if_neg d2, d3]) T1)
          | false =>
            obtain ⟨b, e, g⟩ := yes
            exact ⟨b, Ev.step (fun k => by simp only [brambleref14_fit.j0]; rw [if_neg (by simp), if_pos d1, if_neg d2, d3]) e, g⟩
      · obtain ⟨b, e, g⟩ := yes
        exact ⟨b, Ev.step (fun k => by simp only [brambleref14_fit.j0]; rw [if_neg (by simp), if_neg d1]) e, g⟩
    obtain ⟨b, e, g⟩ := J
    exact ⟨b, Ev.step E e, g⟩
theorem good_Ev {s : S24} (h : ok24 s) : ∃ b, Ev (fun k => bramblelaw22_good.f k s.f0 s.f1 s.f2 s.f3 s.f4 s.f5 s.f6) b ∧ (b = true → szN24 s ≤ 300 ∧ Bd 300 s) := by
  obtain ⟨n, h⟩ := h
  obtain ⟨v, e1, g1, g2, g3⟩ := small_Ev n s h 300 (by decide) (by decide)
  by_cases c : v ≥ 0
  · obtain ⟨v', e2, _, _, k3⟩ := small_Ev n s h 5000 (by decide) (by decide)
    obtain ⟨b, e3, g4⟩ := fit_Ev 300 n s h 0 300 1 (by decide) (by decide)
    have hL : Ev (fun k => brambleref14_Light.f k s.f0 s.f1 s.f2 s.f3 s.f4 s.f5 s.f6) (decide (v' ≥ 0)) := Ev.bind e2 (evAt fun _ => rfl)
    by_cases c' : v' ≥ 0
    · rw [decide_eq_true c'] at hL
      refine ⟨b, Ev.bind e1 ?_, fun hb => ⟨by have := g3 c; omega, g4 hb⟩⟩
      have : Ev (fun k => brambleref14_Fit.f k s.f0 s.f1 s.f2 s.f3 s.f4 s.f5 s.f6 300) b := Ev.bind hL (Ev.bind e3 (evAt fun _ => rfl))
      have h2 : Ev (fun k => (brambleref14_Fit.f k s.f0 s.f1 s.f2 s.f3 s.f4 s.f5 s.f6 300).bind fun t => some t) b := Ev.bind this (evAt fun _ => rfl)
      simpa only [if_pos c] using h2
    · rw [decide_eq_false c'] at hL
      refine ⟨false, Ev.bind e1 ?_, fun h => nomatch h⟩
      have : Ev (fun k => brambleref14_Fit.f k s.f0 s.f1 s.f2 s.f3 s.f4 s.f5 s.f6 300) false := Ev.bind hL (evAt fun _ => rfl)
      have h2 : Ev (fun k => (brambleref14_Fit.f k s.f0 s.f1 s.f2 s.f3 s.f4 s.f5 s.f6 300).bind fun t => some t) false := Ev.bind this (evAt fun _ => rfl)
      simpa only [if_pos c] using h2
  · refine ⟨false, Ev.bind e1 ?_, fun h => nomatch h⟩
    simp only [if_neg c]
    exact evAt fun _ => rfl
/-! ### What Changed answers -/
theorem cov_len (at_ : Int) : ∀ (f : Nat) (x : S24), (nodeK.cov at_ f x).length ≤ szN24 x
  | 0, x => Nat.zero_le _
  | f + 1, x => by
    cases h : nodeK.has at_ x with
    | false =>
      show (if nodeK.has at_ x = true then _ else []).length ≤ _
      rw [h]
      exact Nat.zero_le _
    | true =>
      rw [Cover.cov_true nodeK at_ f x h, List.length_cons]
      have hs : szN24 x = szL24 x.f6 + 1 := szN_eq x
      cases hf : (nodeK.kids x).find? (nodeK.has at_) with
      | none => simp only [List.length_nil]; omega
      | some y =>
        have h1 := cov_len at_ f y
        have h2 := sizeN24 x y (List.mem_of_find?_eq_some hf)
        simp only
        omega
def mk (s : S24) (at_ : Int) : List S53 := (Cover.marksV nodeK at_ s).map markS
theorem marks_eq (s : S24) (at_ : Int) (h : szN24 s ≤ 300) : diff_Marks.f s.f0 s.f1 s.f2 s.f3 s.f4 s.f5 s.f6 at_ = some (mk s at_) := by
  obtain ⟨f0, f1, f2, f3, f4, f5, f6⟩ := s
  unfold diff_Marks.f
  simp only
  rw [if_pos (Nat.le_trans (cov_len at_ _ _) (by omega))]
  rfl
theorem ne53 (x y : S53) : (!((x.f0).toList == (y.f0).toList) || (!(x.f1 == y.f1) || !(x.f2 == y.f2))) = true ↔ x ≠ y := by
  obtain ⟨a, b, c⟩ := x
  obtain ⟨a', b', c'⟩ := y
  have h : a.toList = a'.toList ↔ a = a' := ⟨bal_ext, fun h => by rw [h]⟩
  simp only [Bool.or_eq_true, Bool.not_eq_true', beq_eq_false_iff_ne, ne_eq, S53.mk.injEq, h]
  by_cases h1 : a = a' <;> by_cases h2 : b = b' <;> by_cases h3 : c = c' <;> simp [h1, h2, h3]
theorem rd_drop53 (l : List S53) (i : Nat) (h : i < l.length) : l.drop i = rd_T53 l i :: l.drop (i + 1) := by
  rw [List.drop_eq_getElem_cons h]
  unfold rd_T53
  rw [List.getD_eq_getElem?_getD, Int.toNat_natCast, List.getElem?_eq_getElem h]
  rfl
theorem equal_l0 (A B : List S53) (hlen : A.length = B.length) (hA : A.length ≤ 1000000) (d : Nat) : ∀ i : Nat, i + d = A.length → ∃ b, Ev (fun k => api_Mark.l0 k A B (A.length : Int) i) b ∧ (b = true ↔ A.drop i = B.drop i) := by
  induction d with
  | zero =>
    intro i hi
    refine ⟨true, evAt fun k => ?_, ⟨fun _ => ?_, fun _ => rfl⟩⟩
    · simp only [api_Mark.l0]
      rw [if_neg (by omega)]
    · rw [List.drop_of_length_le (by omega), List.drop_of_length_le (by omega)]
  | succ d ih =>
    intro i hi
    rw [rd_drop53 A i (by omega), rd_drop53 B i (by omega)]
    by_cases c : rd_T53 A i = rd_T53 B i
    · obtain ⟨b, e, g⟩ := ih (i + 1) (by omega)
      refine ⟨b, Ev.step (fun k => ?_) e, ?_⟩
      · simp only [api_Mark.l0]
        rw [if_pos (by omega), if_pos (by omega), if_pos (by omega), if_pos (by omega), if_neg (by rw [ne53]; exact fun h => h c), w64 (x := (i : Int) + 1) (by omega) (by omega)]
        rfl
      · rw [g, c]
        simp
    · refine ⟨false, evAt fun k => ?_, by simp [c]⟩
      simp only [api_Mark.l0]
      rw [if_pos (by omega), if_pos (by omega), if_pos (by omega), if_pos (by omega), if_pos (by rw [ne53]; exact c)]
theorem equal_Ev (A B : List S53) (hA : A.length ≤ 1000000) (hB : B.length ≤ 1000000) : ∃ b, Ev (fun k => api_Mark.f k A B) b ∧ (b = true ↔ A = B) := by
  unfold api_Mark.f
  by_cases c : A.length = B.length
  · obtain ⟨b, e, g⟩ := equal_l0 A B c hA A.length 0 (by omega)
    refine ⟨b, ?_, by simpa using g⟩
    simp only [if_pos (show (A.length : Int) = B.length by omega)]
    exact e
  · refine ⟨false, ?_, by simp; exact fun h => c (by rw [h])⟩
    simp only [if_neg (show ¬ (A.length : Int) = B.length by omega)]
    exact evAt fun _ => rfl
theorem mk_len (s : S24) (at_ : Int) (h : szN24 s ≤ 300) : (mk s at_).length ≤ 300 := by
  rw [mk, List.length_map, Cover.marksV, List.length_map]
  exact Nat.le_trans (cov_len at_ _ _) h
/-- The bytes that stand told by a row of ranges, from the last range on. -/
def addR : List S34 → Int → List S34
  | [], i => [⟨i, i + 1⟩]
  | r :: t, i => if r.f1 = i then ⟨r.f0, i + 1⟩ :: t else ⟨i, i + 1⟩ :: r :: t
def runs (P : Int → Bool) : Nat → List S34
  | 0 => []
  | n + 1 => if P n = true then addR (runs P n) n else runs P n
theorem addR_facts {acc : List S34} {i : Int} (h0 : 0 ≤ i) (h : NFr acc) (hb : ∀ r ∈ acc, r.f1 ≤ i) : NFr (addR acc i) ∧ (∀ r ∈ addR acc i, r.f1 ≤ i + 1) ∧ (∀ j, cv (addR acc i) j ↔ cv acc j ∨ j = i) ∧ (addR acc i).length ≤ acc.length + 1 := by
  match acc, h, hb with
  | [], h, _ =>
    refine ⟨⟨fun q hq => ?_, by simp [addR]⟩, fun q hq => ?_, fun j => ?_, by simp [addR]⟩
    · simp only [addR, List.mem_singleton] at hq
      rw [hq]
      simp only
      omega
    · simp only [addR, List.mem_singleton] at hq
      rw [hq]
      exact Int.le_refl _
    · rw [addR, cv_cons]
      simp only [cv_nil, or_false, false_or]
      omega
  | r :: t, h, hb =>
    have hr := h.1 r (by simp)
    have hrb := hb r (by simp)
    obtain ⟨hp1, hp2⟩ := List.pairwise_cons.1 h.2
    by_cases c : r.f1 = i
    · rw [show addR (r :: t) i = ⟨r.f0, i + 1⟩ :: t from if_pos c]
      refine ⟨⟨fun q hq => ?_, List.pairwise_cons.2 ⟨hp1, hp2⟩⟩, fun q hq => ?_, fun j => ?_, by simp⟩
      · rcases List.mem_cons.1 hq with rfl | hq
        · simp only; omega
        · exact h.1 q (by simp [hq])
      · rcases List.mem_cons.1 hq with rfl | hq
        · exact Int.le_refl _
        · have := hb q (by simp [hq]); omega
      · rw [cv_cons, cv_cons]
        simp only
        constructor
        · rintro (h1 | h1)
          · by_cases c2 : j = i
            · exact .inr c2
            · exact .inl (.inl (by omega))
          · exact .inl (.inr h1)
        · rintro ((h1 | h1) | h1)
          · exact .inl (by omega)
          · exact .inr h1
          · exact .inl (by omega)
    · rw [show addR (r :: t) i = ⟨i, i + 1⟩ :: r :: t from if_neg c]
      refine ⟨⟨fun q hq => ?_, List.pairwise_cons.2 ⟨fun q hq => ?_, h.2⟩⟩, fun q hq => ?_, fun j => ?_, by simp⟩
      · rcases List.mem_cons.1 hq with rfl | hq
        · simp only; omega
        · exact h.1 q hq
      · rcases List.mem_cons.1 hq with rfl | hq
        · simp only; omega
        · have := hp1 q hq
          simp only
          omega
      · rcases List.mem_cons.1 hq with rfl | hq
        · exact Int.le_refl _
        · have := hb q hq; omega
      · rw [cv_cons, or_comm]
        simp only
        constructor
        · rintro (h1 | h1)
          · exact .inl h1
          · exact .inr (by omega)
        · rintro (h1 | h1)
          · exact .inl h1
          · exact .inr (by omega)
theorem runs_facts (P : Int → Bool) : ∀ n : Nat, NFr (runs P n) ∧ (∀ r ∈ runs P n, r.f1 ≤ n) ∧ (∀ j, cv (runs P n) j ↔ 0 ≤ j ∧ j < n ∧ P j = true) ∧ (runs P n).length ≤ n
  | 0 => ⟨⟨(fun _ h => nomatch h), List.Pairwise.nil⟩, (fun _ h => nomatch h), fun j => ⟨fun h => absurd h (cv_nil _), fun h => absurd h (by omega)⟩, Nat.le_refl _⟩
  | n + 1 => by
    obtain ⟨h1, h2, h3, h4⟩ := runs_facts P n
    by_cases c : P n = true
    · rw [show runs P (n + 1) = addR (runs P n) n from if_pos c]
      obtain ⟨g1, g2, g3, g4⟩ := addR_facts (i := n) (by omega) h1 h2
      refine ⟨g1, fun r hr => by have := g2 r hr; omega, fun j => ?_, by omega⟩
      rw [g3, h3]
      constructor
      · rintro (h | rfl)
        · exact ⟨h.1, by omega, h.2.2⟩
        · exact ⟨by omega, by omega, c⟩
      · rintro ⟨k1, k2, k3⟩
        by_cases e : j = n
        · exact .inr e
        · exact .inl ⟨k1, by omega, k3⟩
    · rw [show runs P (n + 1) = runs P n from if_neg c]
      refine ⟨h1, fun r hr => by have := h2 r hr; omega, fun j => ?_, by omega⟩
      rw [h3]
      constructor
      · rintro ⟨k1, k2, k3⟩
        exact ⟨k1, by omega, k3⟩
      · rintro ⟨k1, k2, k3⟩
        refine ⟨k1, ?_, k3⟩
        by_cases e : j = n
        · exact absurd (e ▸ k3) c
        · omega
open Classical in
noncomputable def chg (es : List S45) (a b : S24) (j : Int) : Bool := !((From.fromV (es.map edE) j).2 && decide (mk b j = mk a (From.fromV (es.map edE) j).1))
theorem chg_iff (es : List S45) (a b : S24) (j : Int) : chg es a b j = false ↔ (From.fromV (es.map edE) j).2 = true ∧ mk b j = mk a (From.fromV (es.map edE) j).1 := by
  unfold chg
  simp only [Bool.not_eq_false', Bool.and_eq_true, decide_eq_true_eq]
theorem chg_true (es : List S45) (a b : S24) (j : Int) (h : ¬ ((From.fromV (es.map edE) j).2 = true ∧ mk b j = mk a (From.fromV (es.map edE) j).1)) : chg es a b j = true := by
  cases hc : chg es a b j with
  | true => rfl
  | false => exact absurd ((chg_iff es a b j).1 hc) h
theorem changed_j1 (a b : S24) (es : List S45) (n : Int) (v : List S34) (acc : List S34) (hl : acc.length ≤ 65536) (i : Nat) (hi : i ≤ 65536)
    (h : Ev (fun k => diff_Changed.l0 k es (addR acc i).reverse n ((i + 1 : Nat) : Int) a.f0 a.f1 a.f2 a.f3 a.f4 a.f5 a.f6 b.f0 b.f1 b.f2 b.f3 b.f4 b.f5 b.f6) v) :
    Ev (fun k => diff_Changed.j1 k es acc.reverse i n i false a.f0 a.f1 a.f2 a.f3 a.f4 a.f5 a.f6 b.f0 b.f1 b.f2 b.f3 b.f4 b.f5 b.f6) v := by
  refine Ev.step (fun k => ?_) h
  simp only [diff_Changed.j1]
  rw [if_neg (by simp)]
  match acc, hl with
  | [], hl =>
    rw [if_neg (by simp), if_pos (by simp), w64 (x := (i : Int) + 1) (by omega) (by omega)]
    rfl
  | r :: t, hl =>
    have ht : (r :: t).reverse.length = t.length + 1 := by simp
    have hl' : t.length + 1 ≤ 65536 := hl
    have e : (wrap64 (((r :: t).reverse.length : Int) - 1)) = t.reverse.length := by
      rw [ht, List.length_reverse, w64 (by omega) (by omega)]
      omega
    rw [if_pos (by rw [ht]; omega), e, if_pos (by omega), if_pos (by rw [ht, List.length_reverse]; omega), w64 (x := (i : Int) + 1) (by omega) (by omega), List.reverse_cons, rd_app _ _ _ rfl, set_app _ _ _ _ rfl]
    by_cases c : r.f1 = i
    · rw [if_pos c, show addR (r :: t) i = ⟨r.f0, i + 1⟩ :: t from if_pos c, c, w64 (by omega) (by omega), List.reverse_cons]
      rfl
    · rw [if_neg c, show addR (r :: t) i = ⟨i, i + 1⟩ :: r :: t from if_neg c, if_pos (by rw [← List.reverse_cons, ht]; omega), List.reverse_cons, List.reverse_cons]
      rfl
theorem changed_l0 (a b : S24) (ha : szN24 a ≤ 300) (hb : szN24 b ≤ 300) (es : List S45) (n : Nat) (hn : n ≤ 65536) (d : Nat) : ∀ i : Nat, i + d = n →
    Ev (fun k => diff_Changed.l0 k es (runs (chg es a b) i).reverse (n : Int) i a.f0 a.f1 a.f2 a.f3 a.f4 a.f5 a.f6 b.f0 b.f1 b.f2 b.f3 b.f4 b.f5 b.f6) (runs (chg es a b) n).reverse := by
  induction d with
  | zero =>
    intro i hi
    obtain rfl : i = n := by omega
    obtain ⟨h1, h2, h3, h4⟩ := runs_facts (chg es a b) i
    refine Ev.step (f := fun k => (span_Norm.f k (runs (chg es a b) i).reverse).bind fun t => some t) (fun k => ?_) (Ev.bind (snorm_nf (nfr_rev h1) (by rw [List.length_reverse]; omega)) (evAt fun _ => rfl))
    simp only [diff_Changed.l0]
    rw [if_neg (by omega)]
  | succ d ih =>
    intro i hi
    have hrec := ih (i + 1) (by omega)
    obtain ⟨h1, h2, h3, h4⟩ := runs_facts (chg es a b) i
    have hF : diff_From.f es (i : Int) = some (From.fromV (es.map edE) i) := rfl
    have hout : chg es a b i = true → Ev (fun k => diff_Changed.j1 k es (runs (chg es a b) i).reverse i n i false a.f0 a.f1 a.f2 a.f3 a.f4 a.f5 a.f6 b.f0 b.f1 b.f2 b.f3 b.f4 b.f5 b.f6) (runs (chg es a b) n).reverse := fun hc => by
      refine changed_j1 a b es n _ _ (by omega) i (by omega) ?_
      rw [show runs (chg es a b) (i + 1) = addR (runs (chg es a b) i) i from if_pos hc] at hrec
      exact hrec
    have hin : chg es a b i = false → Ev (fun k => diff_Changed.j1 k es (runs (chg es a b) i).reverse i n i true a.f0 a.f1 a.f2 a.f3 a.f4 a.f5 a.f6 b.f0 b.f1 b.f2 b.f3 b.f4 b.f5 b.f6) (runs (chg es a b) n).reverse := fun hc => by
      rw [show runs (chg es a b) (i + 1) = runs (chg es a b) i from if_neg (by rw [hc]; simp)] at hrec
      refine Ev.step (fun k => ?_) hrec
      simp only [diff_Changed.j1]
      rw [if_pos trivial, w64 (x := (i : Int) + 1) (by omega) (by omega)]
      rfl
    cases ho : (From.fromV (es.map edE) (i : Int)).2 with
    | false =>
      refine Ev.step (fun k => ?_) (hout (chg_true _ _ _ _ (by rw [ho]; exact fun h => nomatch h.1)))
      simp only [diff_Changed.l0]
      rw [if_pos (by omega), hF]
      simp only [Option.bind_some, ho]
      rfl
    | true =>
      obtain ⟨t, e1, g1⟩ := equal_Ev (mk b i) (mk a (From.fromV (es.map edE) (i : Int)).1) (by have := mk_len b i hb; omega) (by have := mk_len a (From.fromV (es.map edE) (i : Int)).1 ha; omega)
      have hj : Ev (fun k => diff_Changed.j1 k es (runs (chg es a b) i).reverse i n i t a.f0 a.f1 a.f2 a.f3 a.f4 a.f5 a.f6 b.f0 b.f1 b.f2 b.f3 b.f4 b.f5 b.f6) (runs (chg es a b) n).reverse := by
        cases t with
        | true => exact hin ((chg_iff _ _ _ _).2 ⟨ho, g1.1 rfl⟩)
        | false => exact hout (chg_true _ _ _ _ (fun h => nomatch g1.2 h.2))
      refine Ev.step (fun k => ?_) (Ev.bind e1 (f := fun k t => diff_Changed.j1 k es (runs (chg es a b) i).reverse i n i t a.f0 a.f1 a.f2 a.f3 a.f4 a.f5 a.f6 b.f0 b.f1 b.f2 b.f3 b.f4 b.f5 b.f6) hj)
      simp only [diff_Changed.l0]
      rw [if_pos (by omega), hF]
      simp only [Option.bind_some, ho, if_true]
      rw [marks_eq b _ hb]
      simp only [Option.bind_some]
      rw [marks_eq a _ ha]
      simp only [Option.bind_some]
theorem changed_Ev {a b : S24} (ha : szN24 a ≤ 300) (hb : szN24 b ≤ 300) (es : List S45) (n : Nat) (hn : n ≤ 65536) :
    Ev (fun k => diff_Changed.f k a.f0 a.f1 a.f2 a.f3 a.f4 a.f5 a.f6 b.f0 b.f1 b.f2 b.f3 b.f4 b.f5 b.f6 es (n : Int)) (runs (chg es a b) n).reverse := by
  have h := changed_l0 a b ha hb es n hn n 0 (by omega)
  have e : mn (mx (n : Int) 0) 65536 = n := by
    have h1 := mx_le (n : Int) 0
    have h2 := mn_le (mx (n : Int) 0) 65536
    omega
  unfold diff_Changed.f
  rw [e]
  exact h
theorem alike_Ev {a b : S24} (ha : szN24 a ≤ 300) (hb : szN24 b ≤ 300) (n : Nat) (hn : n ≤ 65536) :
    Ev (fun k => diff_Alike.f k a.f0 a.f1 a.f2 a.f3 a.f4 a.f5 a.f6 b.f0 b.f1 b.f2 b.f3 b.f4 b.f5 b.f6 (n : Int)) (((runs (chg [] a b) n).reverse.length : Int) == 0) :=
  Ev.bind (changed_Ev ha hb [] n hn) (evAt fun _ => rfl)
/-- A row of none. -/
theorem runs_none (P : Int → Bool) (n : Nat) (h : ∀ j : Int, 0 ≤ j → j < n → P j = false) : runs P n = [] := by
  obtain ⟨h1, h2, h3, h4⟩ := runs_facts P n
  match hr : runs P n with
  | [] => rfl
  | r :: t =>
    have hn : NF (runs P n).reverse := nfr_rev h1
    have hr0 := h1.1 r (by rw [hr]; simp)
    have : cv (runs P n) r.f0 := by rw [hr, cv_cons]; exact .inl (by omega)
    obtain ⟨k1, k2, k3⟩ := (h3 _).1 this
    rw [h _ k1 k2] at k3
    cases k3
theorem from_nil (j : Int) (h : 0 ≤ j) : From.fromV (([] : List S45).map edE) j = (j, true) := by
  show (max j 0, decide (0 ≤ j)) = _
  rw [decide_eq_true h, Int.max_eq_left h]
theorem same34_l0 (A B : List S34) (hlen : A.length = B.length) (hA : A.length ≤ 1000000) (d : Nat) : ∀ i : Nat, i + d = A.length → ∃ b, Ev (fun k => brambleref02_Same.l0 k A B i) b ∧ (b = true ↔ A.drop i = B.drop i) := by
  induction d with
  | zero =>
    intro i hi
    refine ⟨true, evAt fun k => ?_, ⟨fun _ => ?_, fun _ => rfl⟩⟩
    · simp only [brambleref02_Same.l0]
      rw [if_neg (by omega)]
    · rw [List.drop_of_length_le (by omega), List.drop_of_length_le (by omega)]
  | succ d ih =>
    intro i hi
    rw [rd_dropR A i (by omega), rd_dropR B i (by omega)]
    have hne : ((!((rd_T34 A i).f0 == (rd_T34 B i).f0)) || (!((rd_T34 A i).f1 == (rd_T34 B i).f1))) = true ↔ rd_T34 A i ≠ rd_T34 B i := by
      obtain ⟨a, b⟩ := rd_T34 A i
      obtain ⟨a', b'⟩ := rd_T34 B i
      simp only [Bool.or_eq_true, Bool.not_eq_true', beq_eq_false_iff_ne, ne_eq, S34.mk.injEq]
      omega
    by_cases c : rd_T34 A i = rd_T34 B i
    · obtain ⟨b, e, g⟩ := ih (i + 1) (by omega)
      refine ⟨b, Ev.step (fun k => ?_) e, ?_⟩
      · simp only [brambleref02_Same.l0]
        rw [if_pos (by omega), if_pos (by omega), if_pos (by omega), if_neg (by rw [hne]; exact fun h => h c), w64 (x := (i : Int) + 1) (by omega) (by omega)]
        rfl
      · rw [g, c]
        simp
    · refine ⟨false, evAt fun k => ?_, by simp [c]⟩
      simp only [brambleref02_Same.l0]
      rw [if_pos (by omega), if_pos (by omega), if_pos (by omega), if_pos (by rw [hne]; exact c)]
theorem same34_Ev (A B : List S34) (hA : A.length ≤ 1000000) : ∃ b, Ev (fun k => brambleref02_Same.f k A B) b ∧ (b = true ↔ A = B) := by
  unfold brambleref02_Same.f
  by_cases c : A.length = B.length
  · obtain ⟨b, e, g⟩ := same34_l0 A B c hA A.length 0 (by omega)
    refine ⟨b, ?_, by simpa using g⟩
    simp only [if_pos (show (A.length : Int) = B.length by omega)]
    exact e
  · refine ⟨false, ?_, by simp; exact fun h => c (by rw [h])⟩
    simp only [if_neg (show ¬ (A.length : Int) = B.length by omega)]
    exact evAt fun _ => rfl
theorem same53_l0 (A B : List S53) (hlen : A.length = B.length) (hA : A.length ≤ 1000000) (d : Nat) : ∀ i : Nat, i + d = A.length → ∃ b, Ev (fun k => brambleref22_Same.l0 k A B i) b ∧ (b = true ↔ A.drop i = B.drop i) := by
  induction d with
  | zero =>
    intro i hi
    refine ⟨true, evAt fun k => ?_, ⟨fun _ => ?_, fun _ => rfl⟩⟩
    · simp only [brambleref22_Same.l0]
      rw [if_neg (by omega)]
    · rw [List.drop_of_length_le (by omega), List.drop_of_length_le (by omega)]
  | succ d ih =>
    intro i hi
    rw [rd_drop53 A i (by omega), rd_drop53 B i (by omega)]
    by_cases c : rd_T53 A i = rd_T53 B i
    · obtain ⟨b, e, g⟩ := ih (i + 1) (by omega)
      refine ⟨b, Ev.step (fun k => ?_) e, ?_⟩
      · simp only [brambleref22_Same.l0]
        rw [if_pos (by omega), if_pos (by omega), if_pos (by omega), if_neg (by rw [ne53]; exact fun h => h c), w64 (x := (i : Int) + 1) (by omega) (by omega)]
        rfl
      · rw [g, c]
        simp
    · refine ⟨false, evAt fun k => ?_, by simp [c]⟩
      simp only [brambleref22_Same.l0]
      rw [if_pos (by omega), if_pos (by omega), if_pos (by omega), if_pos (by rw [ne53]; exact c)]
theorem same53_Ev (A B : List S53) (hA : A.length ≤ 1000000) : ∃ b, Ev (fun k => brambleref22_Same.f k A B) b ∧ (b = true ↔ A = B) := by
  unfold brambleref22_Same.f
  by_cases c : A.length = B.length
  · obtain ⟨b, e, g⟩ := same53_l0 A B c hA A.length 0 (by omega)
    refine ⟨b, ?_, by simpa using g⟩
    simp only [if_pos (show (A.length : Int) = B.length by omega)]
    exact e
  · refine ⟨false, ?_, by simp; exact fun h => c (by rw [h])⟩
    simp only [if_neg (show ¬ (A.length : Int) = B.length by omega)]
    exact evAt fun _ => rfl
theorem same34_true {A B : List S34} (hA : A.length ≤ 1000000) (h : A = B) : Ev (fun k => brambleref02_Same.f k A B) true := by
  obtain ⟨b, e, g⟩ := same34_Ev A B hA
  rw [g.2 h] at e
  exact e
theorem same53_true {A B : List S53} (hA : A.length ≤ 1000000) (h : A = B) : Ev (fun k => brambleref22_Same.f k A B) true := by
  obtain ⟨b, e, g⟩ := same53_Ev A B hA
  rw [g.2 h] at e
  exact e
deriving instance DecidableEq for S53
theorem chg_self (s : S24) (j : Int) (h : 0 ≤ j) : chg [] s s j = false := by
  rw [chg_iff, from_nil j h]
  exact ⟨rfl, rfl⟩
def wA : S24 := ⟨⟨#[97]⟩, false, ⟨#[]⟩, 0, 3, 0, []⟩
def wB : S24 := ⟨⟨#[97]⟩, false, ⟨#[]⟩, 0, 4, 0, []⟩
def wE : List S45 := [⟨3, 0, ⟨#[120]⟩⟩]
theorem awake_runs : (runs (chg wE wA wB) 4).reverse = [⟨2, 4⟩] := by
  obtain ⟨h1, h2, h3, h4⟩ := runs_facts (chg wE wA wB) 4
  refine nf_one (nfr_rev h1) ⟨fun r hr => ?_, by simp⟩ fun j => ?_
  · simp only [List.mem_singleton] at hr
    rw [hr]
    decide
  · rw [cv_rev, h3, cv_cons]
    simp only [cv_nil, or_false]
    constructor
    · rintro ⟨k1, k2, k3⟩
      have e0 : chg wE wA wB 0 = false := (chg_iff _ _ _ _).2 (by decide +kernel)
      have e1 : chg wE wA wB 1 = false := (chg_iff _ _ _ _).2 (by decide +kernel)
      by_cases c0 : j = 0
      · rw [c0, e0] at k3; cases k3
      by_cases c1 : j = 1
      · rw [c1, e1] at k3; cases k3
      omega
    · rintro ⟨k1, k2⟩
      have e2 : chg wE wA wB 2 = true := chg_true _ _ _ _ (by decide +kernel)
      have e3 : chg wE wA wB 3 = true := chg_true _ _ _ _ (by decide +kernel)
      refine ⟨by omega, by omega, ?_⟩
      by_cases c : j = 2
      · rw [c]; exact e2
      · obtain rfl : j = 3 := by omega
        exact e3
theorem awake_Ev : Ev (fun k => bramblelaw22_awake.f k) true := by
  have hA : szN24 wA ≤ 300 := by decide +kernel
  have hB : szN24 wB ≤ 300 := by decide +kernel
  have h1 := changed_Ev hA hB wE 4 (by decide)
  rw [awake_runs] at h1
  have h2 := same34_true (A := [⟨2, 4⟩]) (by decide) (rfl : _ = ([⟨2, 4⟩] : List S34))
  have h3 : mk wA 2 = [⟨⟨#[97]⟩, false, true⟩] := by decide +kernel
  have h4 := same53_true (A := [⟨⟨#[97]⟩, false, true⟩]) (by decide) (rfl : _ = ([⟨⟨#[97]⟩, false, true⟩] : List S53))
  have h5 := alike_Ev hA hA 9 (by decide)
  rw [runs_none _ 9 (fun j k1 _ => chg_self wA j k1)] at h5
  have f2 : diff_From.f wE 2 = some (2, true) := by decide +kernel
  have f3 : diff_From.f wE 3 = some (0, false) := by decide +kernel
  have hm := marks_eq wA 2 hA
  rw [h3] at hm
  simp only [wA, wB, wE] at h1 h5 f2 f3 hm
  unfold bramblelaw22_awake.f
  simp only [Option.bind_some]
  rw [f2, f3, hm]
  simp only [Option.bind_some]
  refine Ev.bind h1 (Ev.bind h2 ?_)
  simp only [if_true]
  simp only [Bool.false_eq_true, if_false]
  refine Ev.bind h4 ?_
  simp only [if_true]
  exact Ev.bind h5 (evAt fun _ => rfl)
theorem runs_congr (P Q : Int → Bool) : ∀ n : Nat, (∀ j : Int, 0 ≤ j → j < n → P j = Q j) → runs P n = runs Q n
  | 0, _ => rfl
  | n + 1, h => by
    unfold runs
    rw [h n (by omega) (by omega), runs_congr P Q n (fun j h0 h1 => h j h0 (by omega))]
theorem chg_swap (a b : S24) (j : Int) (h : 0 ≤ j) : chg [] a b j = chg [] b a j := by
  have h1 := chg_iff [] a b j
  have h2 := chg_iff [] b a j
  rw [from_nil j h] at h1 h2
  have h3 : chg [] a b j = false ↔ chg [] b a j = false := by
    rw [h1, h2]
    exact ⟨fun g => ⟨rfl, g.2.symm⟩, fun g => ⟨rfl, g.2.symm⟩⟩
  cases ha : chg [] a b j <;> cases hb : chg [] b a j <;> simp_all
theorem chg_over (a b c : S24) (j : Int) (h : 0 ≤ j) (h1 : chg [] a b j = true) : chg [] a c j = true ∨ chg [] c b j = true := by
  cases h2 : chg [] a c j with
  | true => exact .inl rfl
  | false =>
    cases h3 : chg [] c b j with
    | true => exact .inr rfl
    | false =>
      have e2 := (chg_iff _ _ _ _).1 h2
      have e3 := (chg_iff _ _ _ _).1 h3
      rw [from_nil j h] at e2 e3
      have : chg [] a b j = false := by
        rw [chg_iff, from_nil j h]
        exact ⟨rfl, e3.2.trans e2.2⟩
      rw [this] at h1
      cases h1
theorem DiffTurned : bramblelaw22_DiffTurned.Pure := by
  intro s0 s1 s2 ok0 ok1 ok2
  suffices Ev (fun k => bramblelaw22_DiffTurned.f k s0.f0 s0.f1 s0.f2 s0.f3 s0.f4 s0.f5 s0.f6 s1.f0 s1.f1 s1.f2 s1.f3 s1.f4 s1.f5 s1.f6 s2.f0 s2.f1 s2.f2 s2.f3 s2.f4 s2.f5 s2.f6) true by
    obtain ⟨K, h⟩ := this
    exact ⟨K, h K (Nat.le_refl _)⟩
  have J : Ev (fun k => bramblelaw22_DiffTurned.j0 k true s0.f0 s0.f1 s0.f2 s0.f3 s0.f4 s0.f5 s0.f6 s1.f0 s1.f1 s1.f2 s1.f3 s1.f4 s1.f5 s1.f6 s2.f0 s2.f1 s2.f2 s2.f3 s2.f4 s2.f5 s2.f6) true := by
    refine Ev.step (f := fun k => (bramblelaw22_awake.f k).bind fun t => some t) (fun k => ?_) (Ev.bind awake_Ev (evAt fun _ => rfl))
    simp only [bramblelaw22_DiffTurned.j0]
    rw [if_pos trivial]
  obtain ⟨g0, e0, w0⟩ := good_Ev ok0
  obtain ⟨g1, e1, w1⟩ := good_Ev ok1
  obtain ⟨g2, e2, w2⟩ := good_Ev ok2
  unfold bramblelaw22_DiffTurned.f
  refine Ev.bind e0 ?_
  cases g0 with
  | false => simpa only [Bool.false_eq_true, if_false] using J
  | true =>
  simp only [if_true]
  refine Ev.bind e1 ?_
  cases g1 with
  | false => simpa only [Bool.false_eq_true, if_false] using J
  | true =>
  simp only [if_true]
  refine Ev.bind e2 ?_
  cases g2 with
  | false => exact J
  | true =>
  obtain ⟨z0, _⟩ := w0 rfl
  obtain ⟨z1, _⟩ := w1 rfl
  obtain ⟨z2, _⟩ := w2 rfl
  have c01 := changed_Ev z0 z1 [] 320 (by decide)
  have c02 := changed_Ev z0 z2 [] 320 (by decide)
  have c21 := changed_Ev z2 z1 [] 320 (by decide)
  have c10 := changed_Ev z1 z0 [] 320 (by decide)
  have er : runs (chg [] s1 s0) 320 = runs (chg [] s0 s1) 320 := runs_congr _ _ 320 (fun j h _ => chg_swap s1 s0 j h)
  rw [er] at c10
  obtain ⟨p1, p2, p3, p4⟩ := runs_facts (chg [] s0 s1) 320
  obtain ⟨q1, q2, q3, q4⟩ := runs_facts (chg [] s0 s2) 320
  obtain ⟨r1, r2, r3, r4⟩ := runs_facts (chg [] s2 s1) 320
  obtain ⟨v, ej, nj, cj, lj⟩ := rjoin (runs (chg [] s0 s2) 320).reverse (runs (chg [] s2 s1) 320).reverse (by rw [List.length_reverse, List.length_reverse]; omega)
  rw [List.length_reverse, List.length_reverse] at lj
  have es := same34_true (A := (runs (chg [] s0 s1) 320).reverse) (by rw [List.length_reverse]; omega) rfl
  obtain ⟨w, el, nl, cl⟩ := rless (N := 320) (by decide) (by decide) (nfr_rev p1) (fun i hi => by rw [cv_rev, p3] at hi; exact hi.2.1) (by omega : v.length ≤ 1000000)
  have hw : w = [] := nf_empty nl fun i hi => by
    obtain ⟨h1, h2⟩ := (cl i).1 hi
    rw [cv_rev, p3] at h1
    refine h2 ((cj i).2 ⟨h1.1, ?_⟩)
    rw [cv_rev, cv_rev, q3, r3]
    rcases chg_over s0 s1 s2 i h1.1 h1.2.2 with h | h
    · exact .inl ⟨h1.1, h1.2.1, h⟩
    · exact .inr ⟨h1.1, h1.2.1, h⟩
  rw [hw] at el
  refine Ev.step (fun k => ?_) (Ev.bind c01 (f := fun k t253 => ((diff_Changed.f k s0.f0 s0.f1 s0.f2 s0.f3 s0.f4 s0.f5 s0.f6 s2.f0 s2.f1 s2.f2 s2.f3 s2.f4 s2.f5 s2.f6 ([] : List (S45)) 320).bind fun t256 => ((diff_Changed.f k s2.f0 s2.f1 s2.f2 s2.f3 s2.f4 s2.f5 s2.f6 s1.f0 s1.f1 s1.f2 s1.f3 s1.f4 s1.f5 s1.f6 ([] : List (S45)) 320).bind fun t259 => ((brambleref02_Join.f k t256 t259).bind fun t262 => ((diff_Changed.f k s1.f0 s1.f1 s1.f2 s1.f3 s1.f4 s1.f5 s1.f6 s0.f0 s0.f1 s0.f2 s0.f3 s0.f4 s0.f5 s0.f6 ([] : List (S45)) 320).bind fun t265 => ((brambleref02_Same.f k t253 t265).bind fun t268 => (if t268 = true then ((brambleref02_Less.f k t253 t262).bind fun t269 => (if (t269.length : Int) = 0 then ((bramblelaw22_awake.f k).bind fun t272 => (some t272)) else (some false))) else (some false)))))))) ?_)
  · simp only [bramblelaw22_DiffTurned.j0]
    rw [if_neg (by simp)]
    rfl
  · refine Ev.bind c02 (Ev.bind c21 (Ev.bind ej (Ev.bind c10 (Ev.bind es ?_))))
    simp only [if_true]
    refine Ev.bind el ?_
    have e : (([] : List S34).length : Int) = 0 := rfl
    simp only [if_pos e]
    exact Ev.bind awake_Ev (evAt fun _ => rfl)

end Go.Proofs.Ytefkdfjdlhmknaa.Pure
