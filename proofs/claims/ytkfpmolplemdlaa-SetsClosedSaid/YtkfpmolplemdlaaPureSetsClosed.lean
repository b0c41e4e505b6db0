/- SetsClosed: the sets are closed under what the productions ask. No condition. -/
import Derived.Test.YtkfpmolplemdlaaStaSetsClosed
namespace Go.Proofs.Ytkfpmolplemdlaa.Pure
set_option linter.unusedVariables false
set_option linter.unusedSimpArgs false
open Go.RowKit Go.Proofs.Ytkfpmolplemdlaa.PSetsClosed Go.Proofs.YtkfpmolplemdlaaW.PrintWords Go.Proofs.YtkfpmolplemdlaaW.PrintLast Go.Proofs.YtkfpmolplemdlaaW.PrintMore

theorem w64 {x : Int} (h1 : -9223372036854775808 ≤ x) (h2 : x ≤ 9223372036854775807) : wrap64 x = x := by
  unfold wrap64
  omega
theorem wf64 {x : Int} (h : (Lit.int .i64 x).wf = true) : -9223372036854775808 ≤ x ∧ x ≤ 9223372036854775807 := by
  simp only [Lit.wf, Bool.and_eq_true, decide_eq_true_eq] at h
  have e1 : IntKind.i64.min = -9223372036854775808 := rfl
  have e2 : IntKind.i64.max = 9223372036854775807 := rfl
  omega
theorem evAt {α : Type} {g : Nat → Option α} {r : α} (h : ∀ k, g (k + 1) = some r) : Ev g r := ⟨1, fun k hk => by obtain ⟨m, rfl⟩ : ∃ m, k = m + 1 := ⟨k - 1, by omega⟩; exact h m⟩
/-! ### Growing till nothing changes -/
section
open Go.Proofs.Ytkfpmolplemdlaa.Grow Go.Proofs.Ytkfpmolplemdlaa.Deri Go.Proofs.Ytkfpmolplemdlaa.Begin Go.Proofs.Ytkfpmolplemdlaa.Begun Go.Proofs.Ytkfpmolplemdlaa.Foll Go.Proofs.Ytkfpmolplemdlaa.FollB Go.Proofs.Ytkfpmolplemdlaa.MSet Go.Proofs.Ytkfpmolplemdlaa.RRow
variable {σ : Type} {step : σ → Fl.P → σ × Bool}
structure Steps (step : σ → Fl.P → σ × Bool) (ps : List Fl.P) (I : σ → Prop) (m : σ → Nat) (M : Nat) : Prop where
  keep : ∀ s p, p ∈ ps → I s → I (step s p).1
  up : ∀ s p, p ∈ ps → I s → (step s p).2 = true → m s < m (step s p).1
  no : ∀ s p, p ∈ ps → I s → (step s p).2 = false → (step s p).1 = s
  bound : ∀ s, I s → m s ≤ M
theorem rounds_go {ps : List Fl.P} {I : σ → Prop} {m : σ → Nat} {M : Nat} (h : Steps step ps I m M) : ∀ (qs : List Fl.P), (∀ p ∈ qs, p ∈ ps) → ∀ (s : σ) (b : Bool), I s →
    I (qs.foldl (roundV step) (s, b)).1 ∧ m s ≤ m (qs.foldl (roundV step) (s, b)).1 ∧ ((qs.foldl (roundV step) (s, b)).2 = true → b = true ∨ m s < m (qs.foldl (roundV step) (s, b)).1) ∧
    ((qs.foldl (roundV step) (s, b)).2 = false → (qs.foldl (roundV step) (s, b)).1 = s ∧ b = false ∧ ∀ p ∈ qs, (step s p).2 = false) ∧
    (∀ Q : σ → Prop, (∀ t p, p ∈ ps → I t → Q t → Q (step t p).1) → Q s → Q (qs.foldl (roundV step) (s, b)).1)
  | [], _, s, b, hs => ⟨hs, Nat.le_refl _, fun h => .inl h, fun h => ⟨rfl, h, fun _ hp => nomatch hp⟩, fun _ _ hq => hq⟩
  | p :: t, hq, s, b, hs => by
    have hp := hq p (by simp)
    have e : (p :: t).foldl (roundV step) (s, b) = t.foldl (roundV step) ((step s p).1, b || (step s p).2) := rfl
    rw [e]
    obtain ⟨h1, h2, h3, h4, h5⟩ := rounds_go h t (fun q hq' => hq q (by simp [hq'])) (step s p).1 (b || (step s p).2) (h.keep s p hp hs)
    have hle : m s ≤ m (step s p).1 := by
      cases c : (step s p).2 with
      | true => exact Nat.le_of_lt (h.up s p hp hs c)
      | false => rw [h.no s p hp hs c]; exact Nat.le_refl _
    refine ⟨h1, Nat.le_trans hle h2, fun hb => ?_, fun hb => ?_, fun Q hQ hs' => h5 Q hQ (hQ s p hp hs hs')⟩
    · rcases h3 hb with h6 | h6
      · cases c : (step s p).2 with
        | true => exact .inr (Nat.lt_of_lt_of_le (h.up s p hp hs c) (by rw [c] at h2; exact h2))
        | false => rw [c, Bool.or_false] at h6; exact .inl h6
      · exact .inr (Nat.lt_of_le_of_lt hle h6)
    · obtain ⟨h6, h7, h8⟩ := h4 hb
      obtain ⟨h9, h10⟩ := Bool.or_eq_false_iff.1 h7
      have h11 := h.no s p hp hs h10
      rw [h11] at h6 h8
      rw [h11]
      refine ⟨h6, h9, fun q hq' => ?_⟩
      rcases List.mem_cons.1 hq' with rfl | hq'
      · exact h10
      · exact h8 q hq'
/-- It comes to an end, where no production changes anything more; what every step keeps, the end has. -/
theorem grow_ends {ps : List Fl.P} {I : σ → Prop} {m : σ → Nat} {M : Nat} (h : Steps step ps I m M) : ∀ (d : Nat) (s : σ), I s → M - m s < d → ∃ r, growV step ps d s = some r ∧ I r ∧ (∀ p ∈ ps, (step r p).2 = false) ∧ (∀ Q : σ → Prop, (∀ t p, p ∈ ps → I t → Q t → Q (step t p).1) → Q s → Q r)
  | 0, _, _, hd => absurd hd (Nat.not_lt_zero _)
  | d + 1, s, hs, hd => by
    obtain ⟨h1, h2, h3, h4, h5⟩ := rounds_go h ps (fun p hp => hp) s false hs
    simp only [growV]
    show ∃ r, (if (ps.foldl (roundV step) (s, false)).2 = true then _ else some (ps.foldl (roundV step) (s, false)).1) = some r ∧ _
    split
    · rename_i hb
      rcases h3 hb with h6 | h6
      · cases h6
      · have := h.bound _ h1
        obtain ⟨r, g1, g2, g3, g4⟩ := grow_ends h d _ h1 (by omega)
        exact ⟨r, g1, g2, g3, fun Q hQ hs' => g4 Q hQ (h5 Q hQ hs')⟩
    · rename_i hb
      obtain ⟨h6, _, h8⟩ := h4 (by simpa using hb)
      exact ⟨_, rfl, h1, by rw [h6]; exact h8, h5⟩
theorem grow_up {ps : List Fl.P} : ∀ (k : Nat) (s r : σ), growV step ps k s = some r → growV step ps (k + 1) s = some r
  | 0, _, _, h => by simp [growV] at h
  | k + 1, s, r, h => by
    have e : ∀ k, growV step ps (k + 1) s = if (roundsV step ps s).2 = true then growV step ps k (roundsV step ps s).1 else some (roundsV step ps s).1 := fun _ => rfl
    rw [e] at h ⊢
    split
    · rename_i c
      rw [if_pos c] at h
      exact grow_up k _ _ h
    · rename_i c
      rw [if_neg c] at h
      exact h
theorem grow_Ev {ps : List Fl.P} {d : Nat} {s r : σ} (h : growV step ps d s = some r) : Ev (fun k => growV step ps k s) r := Ev.of (fun k => (fun r h => grow_up k s r h)) h
theorem cnt_set : ∀ (bs : List Bool) (i : Nat), i < bs.length → bs.getD i false = false → (bs.set i true).count true = bs.count true + 1
  | [], i, h, _ => by simp at h
  | b :: t, 0, _, hb => by
    have : b = false := hb
    subst this
    simp
  | b :: t, i + 1, h, hb => by
    have := cnt_set t i (by simpa using h) hb
    simp only [List.set_cons_succ, List.count_cons, this]
    omega
theorem steps_D {N : Nat} {ps : List Fl.P} (hps : ∀ p ∈ ps, PrOk N p) : Steps stepD ps (fun bs => bs.length = N) (fun bs => bs.count true) N := by
  refine ⟨fun s p _ hs => ?_, fun s p hp hs h => ?_, fun s p _ _ h => ?_, fun s hs => by rw [← hs]; exact List.count_le_length⟩
  · unfold stepD
    split
    · exact hs
    · rw [List.length_set]; exact hs
  · have h1 := (hps p hp).1
    have h2 := (hps p hp).2.1
    unfold stepD at h ⊢
    split at h
    · cases h
    · rename_i c
      rw [if_neg c]
      rw [Bool.not_eq_true, Bool.or_eq_false_iff] at c
      show _ < (s.set _ true).count true
      rw [cnt_set s p.1.toNat (by omega) c.1]
      omega
  · unfold stepD at h ⊢
    split
    · rfl
    · rename_i c
      rw [if_neg c] at h
      cases h
/-- The sets' sizes, in all. -/
def szs (FS : List (List Int)) : Nat := (FS.map List.length).sum
theorem szs_set : ∀ (FS : List (List Int)) (i : Nat) (X : List Int), i < FS.length → szs (FS.set i X) + (FS.getD i []).length = szs FS + X.length
  | [], i, _, h => by simp at h
  | S :: t, 0, X, _ => by simp [szs]; omega
  | S :: t, i + 1, X, h => by
    have := szs_set t i X (by simpa using h)
    simp only [szs, List.set_cons_succ, List.map_cons, List.sum_cons, List.getD_cons_succ] at *
    omega
theorem szs_le : ∀ (FS : List (List Int)), (∀ S ∈ FS, S.length ≤ 1000000) → szs FS ≤ FS.length * 1000000
  | [], _ => by simp [szs]
  | S :: t, h => by
    have h1 := h S (by simp)
    have h2 := szs_le t (fun T hT => h T (by simp [hT]))
    simp only [szs, List.map_cons, List.sum_cons, List.length_cons] at *
    omega
theorem inv_szs {N : Nat} {FS : List (List Int)} (h : Inv N FS) : szs FS ≤ N * 1000000 := by
  have := szs_le FS (fun S hS => by
    obtain ⟨i, hi, rfl⟩ := List.mem_iff_getElem.1 hS
    have := h.len i
    rwa [List.getD_eq_getElem?_getD, List.getElem?_eq_getElem hi] at this)
  rwa [h.l] at this
theorem putV_grow (x : Int) : ∀ l : List Int, putV l x = l ∨ (putV l x).length = l.length + 1
  | [] => .inr rfl
  | a :: t => by
    simp only [putV]
    split
    · exact .inr rfl
    · split
      · exact .inl rfl
      · rcases putV_grow x t with h | h
        · exact .inl (by rw [h])
        · exact .inr (by simp [h])
theorem unionV_ge : ∀ (xs l : List Int), l.length ≤ (unionV l xs).length
  | [], l => Nat.le_refl _
  | x :: t, l => by
    have h1 := unionV_ge t (putV l x)
    have h2 : l.length ≤ (putV l x).length := by rcases putV_grow x l with h | h <;> rw [h] <;> omega
    exact Nat.le_trans h2 h1
theorem unionV_id : ∀ (xs l : List Int), (unionV l xs).length ≤ l.length → unionV l xs = l
  | [], l, _ => rfl
  | x :: t, l, h => by
    have e : unionV l (x :: t) = unionV (putV l x) t := rfl
    rw [e] at h ⊢
    have h1 := unionV_ge t (putV l x)
    rcases putV_grow x l with h2 | h2
    · rw [h2] at h ⊢
      exact unionV_id t l h
    · omega
theorem set_getD (FS : List (List Int)) (i : Nat) : FS.set i (FS.getD i []) = FS := by
  by_cases h : i < FS.length
  · rw [List.getD_eq_getElem?_getD, List.getElem?_eq_getElem h]
    exact List.set_getElem_self _
  · exact List.set_eq_of_length_le (by omega)
theorem steps_F {N : Nat} {em : List Bool} {ps : List Fl.P} (hps : ∀ p ∈ ps, PrOk N p) : Steps (stepF N em) ps (Inv N) szs (N * 1000000) := by
  refine ⟨fun s p _ hs => Inv.stepF hs, fun s p hp hs h => ?_, fun s p _ _ h => ?_, fun s hs => inv_szs hs⟩
  · have h1 := (hps p hp).1
    have h2 := (hps p hp).2.1
    have h3 := szs_set s p.1.toNat (unionV (s.getD p.1.toNat []) (ahV N em s p.2.1 [])) (by rw [hs.l]; omega)
    have h4 := of_decide_eq_true h
    show szs s < szs (s.set _ _)
    omega
  · have h4 := of_decide_eq_false h
    have h5 := unionV_id (ahV N em s p.2.1 []) (s.getD p.1.toNat []) (by omega)
    show s.set _ _ = s
    rw [h5, set_getD]
theorem ahV_bnd {N : Nat} {em : List Bool} {Ss : List (List Int)} {B : List Int} (l : List Fl.I) (hS : Bd Ss) (hB : ∀ x ∈ B, 0 ≤ x ∧ x < 1000000) : ∀ x ∈ ahV N em Ss l B, 0 ≤ x ∧ x < 1000000 := fun x hx => by
  rcases ahV_sub N em Ss B x l hx with h | ⟨S, h1, h2⟩
  · exact hB x h
  · exact hS S h1 x h2
theorem fol_go {N n0 : Nat} {em : List Bool} {Ss : List (List Int)} (hS : Inv N Ss) (left : Nat) : ∀ (l : List Fl.I) (FS : List (List Int)) (c : Bool), ItOk N l → Inv N FS →
    Inv N (folV N n0 em Ss left l (FS, c)).1 ∧ szs FS ≤ szs (folV N n0 em Ss left l (FS, c)).1 ∧ ((folV N n0 em Ss left l (FS, c)).2 = true → c = true ∨ szs FS < szs (folV N n0 em Ss left l (FS, c)).1) ∧ ((folV N n0 em Ss left l (FS, c)).2 = false → (folV N n0 em Ss left l (FS, c)).1 = FS ∧ c = false)
  | [], FS, c, _, h => ⟨h, Nat.le_refl _, fun h => .inl h, fun h => ⟨rfl, h⟩⟩
  | i :: t, FS, c, ho, h => by
    simp only [folV]
    split
    · exact fol_go hS left t FS c (fun j hj => ho j (by simp [hj])) h
    · have hi := ho i (by simp)
      have hI : Inv N (FS.set i.1.toNat (unionV (FS.getD i.1.toNat []) (ahV N em Ss t (FS.getD left [])))) := h.union _ (h.rise _) (h.bnd _) (ahV_bnd t hS.d (h.bnd _))
      have h3 := szs_set FS i.1.toNat (unionV (FS.getD i.1.toNat []) (ahV N em Ss t (FS.getD left []))) (by rw [h.l]; omega)
      have h6 := unionV_ge (ahV N em Ss t (FS.getD left [])) (FS.getD i.1.toNat [])
      simp only [oneL]
      obtain ⟨g1, g2, g3, g4⟩ := fol_go (n0 := n0) (em := em) hS left t _ (decide ((unionV (FS.getD i.1.toNat []) (ahV N em Ss t (FS.getD left []))).length > (FS.getD i.1.toNat []).length) || c) (fun j hj => ho j (by simp [hj])) hI
      refine ⟨g1, by omega, fun hb => ?_, fun hb => ?_⟩
      · rcases g3 hb with h7 | h7
        · rcases Bool.or_eq_true _ _ |>.mp h7 with h8 | h8
          · have := of_decide_eq_true h8
            exact .inr (by omega)
          · exact .inl h8
        · exact .inr (by omega)
      · obtain ⟨h7, h8⟩ := g4 hb
        obtain ⟨h9, h10⟩ := Bool.or_eq_false_iff.1 h8
        have h11 := unionV_id (ahV N em Ss t (FS.getD left [])) (FS.getD i.1.toNat []) (by have := of_decide_eq_false h9; omega)
        rw [h7, h11, set_getD]
        exact ⟨rfl, h10⟩
theorem steps_L {N n0 : Nat} {em : List Bool} {Ss : List (List Int)} {ps : List Fl.P} (hS : Inv N Ss) (hps : ∀ p ∈ ps, PrOk N p) : Steps (stepL N n0 em Ss) ps (Inv N) szs (N * 1000000) := by
  refine ⟨fun s p hp hs => ?_, fun s p hp hs h => ?_, fun s p hp hs h => ?_, fun s hs => inv_szs hs⟩
  · exact (fol_go hS p.1.toNat p.2.1 s false (hps p hp).2.2 hs).1
  · rcases (fol_go hS p.1.toNat p.2.1 s false (hps p hp).2.2 hs).2.2.1 h with h | h
    · cases h
    · exact h
  · exact ((fol_go hS p.1.toNat p.2.1 s false (hps p hp).2.2 hs).2.2.2 h).1
end
/-! ### The same is the same -/
theorem ints_refl (l : List Int) (hl : l.length ≤ 100000000000000) : Ev (fun k => brambleref10_Ints.f k l l) true := by
  have go : ∀ (d i : Nat), i + d = l.length → Ev (fun k => brambleref10_Ints.l0 k l l (i : Int)) true := by
    intro d
    induction d with
    | zero =>
      intro i hi
      exact evAt fun k => by simp only [brambleref10_Ints.l0]; rw [if_neg (by omega)]
    | succ d ih =>
      intro i hi
      refine Ev.step (fun k => ?_) (ih (i + 1) (by omega))
      simp only [brambleref10_Ints.l0]
      rw [if_pos (by omega), if_pos (by omega), if_pos (by omega), if_pos trivial, w64 (x := (i : Int) + 1) (by omega) (by omega)]
      rfl
  unfold brambleref10_Ints.f
  simp only [if_pos]
  exact go l.length 0 (by omega)
/-! ### Which plain grammars are let in -/
theorem rd40_drop (l : List S40) (i : Nat) (h : i < l.length) : l.drop i = rd_T40 l (i : Int) :: l.drop (i + 1) := by
  rw [List.drop_eq_getElem_cons h]
  congr 1
  show _ = l.getD ((i : Int)).toNat z40
  rw [Int.toNat_natCast, List.getD_eq_getElem?_getD, List.getElem?_eq_getElem h]
  rfl
theorem rd48_drop (l : List S48) (i : Nat) (h : i < l.length) : l.drop i = rd_T48 l (i : Int) :: l.drop (i + 1) := by
  rw [List.drop_eq_getElem_cons h]
  congr 1
  show _ = l.getD ((i : Int)).toNat z48
  rw [Int.toNat_natCast, List.getD_eq_getElem?_getD, List.getElem?_eq_getElem h]
  rfl
theorem rd40_mem (l : List S40) (i : Nat) (h : i < l.length) : rd_T40 l (i : Int) ∈ l := by
  have := rd40_drop l i h
  exact List.mem_of_mem_drop (i := i) (by rw [this]; simp)
theorem rd48_mem (l : List S48) (i : Nat) (h : i < l.length) : rd_T48 l (i : Int) ∈ l := by
  have := rd48_drop l i h
  exact List.mem_of_mem_drop (i := i) (by rw [this]; simp)
theorem light_Ev (t n : List ByteArray) (l : List S40) (hl : l.length ≤ 100000000000000) : ∃ b, Ev (fun k => brambleref09_Light.f k t n l) b := by
  have go : ∀ (d i : Nat) (x : Int), i + d = l.length → ∃ b, Ev (fun k => brambleref09_Light.l0 k x (i : Int) t n l) b := by
    intro d
    induction d with
    | zero =>
      intro i x hi
      exact ⟨_, evAt fun k => by simp only [brambleref09_Light.l0]; rw [if_neg (by omega)]⟩
    | succ d ih =>
      intro i x hi
      by_cases hx : x ≥ 0
      · obtain ⟨b, e⟩ := ih (i + 1) (wrap64 ((wrap64 (x - 1)) - (((rd_T40 l i).f1).length : Int))) (by omega)
        refine ⟨b, Ev.step (fun k => ?_) e⟩
        simp only [brambleref09_Light.l0]
        rw [if_pos (by omega), if_pos hx, if_pos (by omega), w64 (x := (i : Int) + 1) (by omega) (by omega)]
        rfl
      · exact ⟨_, evAt fun k => by simp only [brambleref09_Light.l0]; rw [if_pos (by omega), if_neg hx]⟩
  exact go l.length 0 _ (by omega)
theorem titles_Ev (l : List ByteArray) (hl : l.length ≤ 100000000000000) : ∃ b, Ev (fun k => brambleref09_titles.f k l) b := by
  have go : ∀ (d i : Nat), i + d = l.length → ∃ b, Ev (fun k => brambleref09_titles.l0 k l (i : Int)) b := by
    intro d
    induction d with
    | zero =>
      intro i hi
      exact ⟨_, evAt fun k => by simp only [brambleref09_titles.l0]; rw [if_neg (by omega)]⟩
    | succ d ih =>
      intro i hi
      by_cases h1 : (rdOf ByteArray.empty l (i : Int)).toList = ([] : List UInt8)
      · exact ⟨_, evAt fun k => by simp only [brambleref09_titles.l0]; rw [if_pos (by omega), if_pos (by omega), if_pos h1]⟩
      · by_cases h2 : ((rdOf ByteArray.empty l (i : Int)).size : Int) > 80
        · exact ⟨_, evAt fun k => by simp only [brambleref09_titles.l0]; rw [if_pos (by omega), if_pos (by omega), if_neg h1, if_pos h2]⟩
        · obtain ⟨b, e⟩ := ih (i + 1) (by omega)
          refine ⟨b, Ev.step (fun k => ?_) e⟩
          simp only [brambleref09_titles.l0]
          rw [if_pos (by omega), if_pos (by omega), if_neg h1, if_neg h2, w64 (x := (i : Int) + 1) (by omega) (by omega)]
          rfl
  exact go l.length 0 (by omega)
theorem letter_some (a : Int) : ∃ b, brambleref07_letter.f a = some b := by
  unfold brambleref07_letter.f
  repeat' split
  all_goals exact ⟨_, rfl⟩
theorem digit_some (a : Int) : ∃ b, brambleref07_digit.f a = some b := by
  unfold brambleref07_digit.f
  repeat' split
  all_goals exact ⟨_, rfl⟩
theorem name7_Ev (s : ByteArray) (hs : s.size ≤ 1000000000000000) : ∃ b, Ev (fun k => brambleref07_Name.f k s) b := by
  have go : ∀ (d i : Nat), i + d = s.size → ∃ b, Ev (fun k => brambleref07_Name.l0 k s (i : Int)) b := by
    intro d
    induction d with
    | zero =>
      intro i hi
      by_cases h : s.toList = ([] : List UInt8)
      · exact ⟨_, evAt fun k => by simp only [brambleref07_Name.l0]; rw [if_neg (by omega), if_pos h]⟩
      · exact ⟨_, evAt fun k => by simp only [brambleref07_Name.l0]; rw [if_neg (by omega), if_neg h]⟩
    | succ d ih =>
      intro i hi
      obtain ⟨b, e⟩ := ih (i + 1) (by omega)
      have hw := w64 (x := (i : Int) + 1) (by omega) (by omega)
      obtain ⟨c, hc⟩ := letter_some (bt s (i : Int))
      obtain ⟨c2, hc2⟩ := digit_some (bt s (i : Int))
      cases c with
      | true =>
        refine ⟨b, Ev.step (fun k => ?_) e⟩
        simp only [brambleref07_Name.l0]
        rw [if_pos (by omega), if_pos (by omega), hc, hw]
        rfl
      | false =>
        by_cases h0 : (i : Int) = 0
        · refine ⟨false, evAt fun k => ?_⟩
          simp only [brambleref07_Name.l0]
          rw [if_pos (by omega), if_pos (by omega), hc]
          simp only [Option.bind_some, Bool.false_eq_true, if_false]
          rw [if_pos h0]
        · cases c2 with
          | true =>
            refine ⟨b, Ev.step (fun k => ?_) e⟩
            simp only [brambleref07_Name.l0]
            rw [if_pos (by omega), if_pos (by omega), hc, hw]
            simp only [Option.bind_some, Bool.false_eq_true, if_false]
            rw [if_neg h0, hc2]
            rfl
          | false =>
            refine ⟨false, evAt fun k => ?_⟩
            simp only [brambleref07_Name.l0]
            rw [if_pos (by omega), if_pos (by omega), hc]
            simp only [Option.bind_some, Bool.false_eq_true, if_false]
            rw [if_neg h0, hc2]
            rfl
  exact go s.size 0 (by omega)
theorem name9_Ev (s : ByteArray) (hs : s.size ≤ 1000000000000000) : ∃ b, Ev (fun k => brambleref09_Name.f k s) b := by
  unfold brambleref09_Name.f
  by_cases h : s.toList = ([] : List UInt8)
  · exact ⟨true, by simp only [if_pos h]; exact Ev.now _⟩
  · obtain ⟨b, e⟩ := name7_Ev s hs
    exact ⟨b, by simp only [if_neg h]; exact Ev.bind e (Ev.now _)⟩
/-- A production as a fit grammar has it. -/
def prFit (t : Nat) (n : Int) (p : S40) : Prop := (t : Int) ≤ p.f0 ∧ p.f0 < n ∧ p.f1.length ≤ 64 ∧ ∀ x ∈ p.f1, 0 ≤ x.f0 ∧ x.f0 < n
theorem fit_items (t n : List ByteArray) (l : List S40) (x3 : Int) (i : Nat) (p : S40) (hp : p.f1.length ≤ 100000000000000) (hok : ∀ x ∈ p.f1, x.f1.size ≤ 1000000000000000 ∧ x.f2.size ≤ 1000000000000000) (hi : i ≤ 100000000000000)
    (Pr : Prop) (hn : ∃ b, Ev (fun k => brambleref09_Fit.l0 k x3 ((i + 1 : Nat) : Int) t n l) b ∧ (b = true → Pr)) :
    ∀ (d j : Nat), j + d = p.f1.length → ∃ b, Ev (fun k => brambleref09_Fit.l1 k x3 (i : Int) (j : Int) t n l p.f0 p.f1 p.f2) b ∧ (b = true → Pr ∧ ∀ x ∈ p.f1.drop j, 0 ≤ x.f0 ∧ x.f0 < x3) := by
  intro d
  induction d with
  | zero =>
    intro j hj
    obtain ⟨b, e, g⟩ := hn
    refine ⟨b, Ev.step (fun k => ?_) e, fun hb => ⟨g hb, fun x hx => ?_⟩⟩
    · simp only [brambleref09_Fit.l1]
      rw [if_neg (by omega), w64 (x := (i : Int) + 1) (by omega) (by omega)]
      rfl
    · rw [List.drop_of_length_le (by omega)] at hx
      exact nomatch hx
  | succ d ih =>
    intro j hj
    have hx := hok _ (rd48_mem p.f1 j (by omega))
    by_cases h1 : (rd_T48 p.f1 (j : Int)).f0 < 0
    · exact ⟨false, evAt fun k => by simp only [brambleref09_Fit.l1]; rw [if_pos (by omega), if_pos (by omega), if_pos h1], fun h => nomatch h⟩
    by_cases h2 : (rd_T48 p.f1 (j : Int)).f0 ≥ x3
    · exact ⟨false, evAt fun k => by simp only [brambleref09_Fit.l1]; rw [if_pos (by omega), if_pos (by omega), if_neg h1, if_pos h2], fun h => nomatch h⟩
    obtain ⟨b1, e1⟩ := name9_Ev _ hx.1
    obtain ⟨b2, e2⟩ := name9_Ev _ hx.2
    obtain ⟨b, e, g⟩ := ih (j + 1) (by omega)
    have hs : ∀ k, brambleref09_Fit.l1 (k + 1) x3 (i : Int) (j : Int) t n l p.f0 p.f1 p.f2 = (brambleref09_Name.f k (rd_T48 p.f1 (j : Int)).f1).bind fun t114 => (if t114 = true then ((brambleref09_Name.f k (rd_T48 p.f1 (j : Int)).f2).bind fun t115 => (if t115 = true then brambleref09_Fit.l1 k x3 (i : Int) ((j + 1 : Nat) : Int) t n l p.f0 p.f1 p.f2 else some false)) else some false) := fun k => by
      simp only [brambleref09_Fit.l1]
      rw [if_pos (by omega), if_pos (by omega), if_neg h1, if_neg h2, w64 (x := (j : Int) + 1) (by omega) (by omega)]
      rfl
    cases b1 with
    | false => exact ⟨false, Ev.step hs (Ev.bind e1 (by simp only [Bool.false_eq_true, if_false]; exact Ev.now _)), fun h => nomatch h⟩
    | true =>
      cases b2 with
      | false => exact ⟨false, Ev.step hs (Ev.bind e1 (by simp only [if_true]; exact Ev.bind e2 (by simp only [Bool.false_eq_true, if_false]; exact Ev.now _))), fun h => nomatch h⟩
      | true =>
        refine ⟨b, Ev.step hs (Ev.bind e1 (by simp only [if_true]; exact Ev.bind e2 (by simp only [if_true]; exact e))), fun hb => ?_⟩
        obtain ⟨g1, g2⟩ := g hb
        refine ⟨g1, fun x hx' => ?_⟩
        rw [rd48_drop p.f1 j (by omega)] at hx'
        rcases List.mem_cons.1 hx' with rfl | hx'
        · exact ⟨by omega, by omega⟩
        · exact g2 x hx'
theorem fit_prods (t n : List ByteArray) (l : List S40) (x3 : Int) (hl : l.length ≤ 100000000000000) (hok : ∀ p ∈ l, p.f1.length ≤ 100000000000000 ∧ ∀ x ∈ p.f1, x.f1.size ≤ 1000000000000000 ∧ x.f2.size ≤ 1000000000000000) :
    ∀ (d i : Nat), i + d = l.length → ∃ b, Ev (fun k => brambleref09_Fit.l0 k x3 (i : Int) t n l) b ∧ (b = true → ∀ p ∈ l.drop i, prFit t.length x3 p) := by
  intro d
  induction d with
  | zero =>
    intro i hi
    refine ⟨true, evAt fun k => by simp only [brambleref09_Fit.l0]; rw [if_neg (by omega)], fun _ p hp => ?_⟩
    rw [List.drop_of_length_le (by omega)] at hp
    exact nomatch hp
  | succ d ih =>
    intro i hi
    have hp := hok _ (rd40_mem l i (by omega))
    have hd := rd40_drop l i (by omega)
    generalize hpe : rd_T40 l (i : Int) = p at hp hd
    have bad : ∀ k, brambleref09_Fit.j2 (k + 1) x3 (i : Int) true t n l p.f0 p.f1 p.f2 = some false := fun k => by simp only [brambleref09_Fit.j2]; rw [if_pos trivial]
    have step : ∀ b, (∀ k, brambleref09_Fit.l0 (k + 1) x3 (i : Int) t n l = brambleref09_Fit.j2 k x3 (i : Int) b t n l p.f0 p.f1 p.f2) → (b = false → (t.length : Int) ≤ p.f0 ∧ p.f0 < x3 ∧ p.f1.length ≤ 64) →
        ∃ b, Ev (fun k => brambleref09_Fit.l0 k x3 (i : Int) t n l) b ∧ (b = true → ∀ p ∈ l.drop i, prFit t.length x3 p) := by
      intro b hk hb
      cases b with
      | true => exact ⟨false, Ev.step hk (evAt bad), fun h => nomatch h⟩
      | false =>
        obtain ⟨q1, q2, q3⟩ := hb rfl
        obtain ⟨b, e, g⟩ := fit_items t n l x3 i p hp.1 hp.2 (by omega) _ (ih (i + 1) (by omega)) p.f1.length 0 (by omega)
        refine ⟨b, Ev.step hk (Ev.step (fun k => ?_) e), fun hb' q hq => ?_⟩
        · simp only [brambleref09_Fit.j2]
          rw [if_neg (by decide)]
          rfl
        · obtain ⟨g1, g2⟩ := g hb'
          rw [hd] at hq
          rcases List.mem_cons.1 hq with rfl | hq
          · exact ⟨q1, q2, q3, fun x hx => g2 x (by rw [List.drop_zero]; exact hx)⟩
          · exact g1 q hq
    by_cases c1 : p.f0 < (t.length : Int)
    · exact step true (fun k => by simp only [brambleref09_Fit.l0]; rw [hpe, if_pos (by omega), if_pos (by omega), if_pos c1]) (fun h => nomatch h)
    by_cases c2 : p.f0 ≥ x3
    · exact step true (fun k => by simp only [brambleref09_Fit.l0]; rw [hpe, if_pos (by omega), if_pos (by omega), if_neg c1, if_pos c2]) (fun h => nomatch h)
    by_cases c3 : (i : Int) > 0
    · have hw := w64 (x := (i : Int) - 1) (by omega) (by omega)
      by_cases c4 : (rd_T40 l ((i : Int) - 1)).f0 > p.f0
      · exact step true (fun k => by simp only [brambleref09_Fit.l0]; rw [hpe, hw, if_pos (by omega), if_pos (by omega), if_neg c1, if_neg c2, if_pos c3, if_pos (by omega), if_pos (by omega), if_pos c4]) (fun h => nomatch h)
      by_cases c5 : (p.f1.length : Int) > 64
      · exact step true (fun k => by simp only [brambleref09_Fit.l0]; rw [hpe, hw, if_pos (by omega), if_pos (by omega), if_neg c1, if_neg c2, if_pos c3, if_pos (by omega), if_pos (by omega), if_neg c4, if_pos c5]) (fun h => nomatch h)
      by_cases c6 : p.f2 < -10000
      · exact step true (fun k => by simp only [brambleref09_Fit.l0]; rw [hpe, hw, if_pos (by omega), if_pos (by omega), if_neg c1, if_neg c2, if_pos c3, if_pos (by omega), if_pos (by omega), if_neg c4, if_neg c5, if_pos c6]) (fun h => nomatch h)
      · exact step (decide (p.f2 > 10000)) (fun k => by simp only [brambleref09_Fit.l0]; rw [hpe, hw, if_pos (by omega), if_pos (by omega), if_neg c1, if_neg c2, if_pos c3, if_pos (by omega), if_pos (by omega), if_neg c4, if_neg c5, if_neg c6]) (fun _ => ⟨by omega, by omega, by omega⟩)
    · by_cases c5 : (p.f1.length : Int) > 64
      · exact step true (fun k => by simp only [brambleref09_Fit.l0]; rw [hpe, if_pos (by omega), if_pos (by omega), if_neg c1, if_neg c2, if_neg c3, if_pos c5]) (fun h => nomatch h)
      by_cases c6 : p.f2 < -10000
      · exact step true (fun k => by simp only [brambleref09_Fit.l0]; rw [hpe, if_pos (by omega), if_pos (by omega), if_neg c1, if_neg c2, if_neg c3, if_neg c5, if_pos c6]) (fun h => nomatch h)
      · exact step (decide (p.f2 > 10000)) (fun k => by simp only [brambleref09_Fit.l0]; rw [hpe, if_pos (by omega), if_pos (by omega), if_neg c1, if_neg c2, if_neg c3, if_neg c5, if_neg c6]) (fun _ => ⟨by omega, by omega, by omega⟩)
theorem fit_Ev (t n : List ByteArray) (l : List S40) (ht : t.length ≤ 100000000000000) (hn : n.length ≤ 100000000000000) (hl : l.length ≤ 100000000000000) (hok : ∀ p ∈ l, p.f1.length ≤ 100000000000000 ∧ ∀ x ∈ p.f1, x.f1.size ≤ 1000000000000000 ∧ x.f2.size ≤ 1000000000000000) :
    ∃ b, Ev (fun k => brambleref09_Fit.f k t n l) b ∧ (b = true → 1 ≤ n.length ∧ t.length + n.length ≤ 600 ∧ l.length ≤ 400 ∧ ∀ p ∈ l, prFit t.length ((t.length + n.length : Nat) : Int) p) := by
  have hw := w64 (x := (t.length : Int) + (n.length : Int)) (by omega) (by omega)
  have bad : ∀ (g : Nat → Option Bool), (∀ k, g k = brambleref09_Fit.j0 k ((t.length : Int) + (n.length : Int)) true t n l) → Ev g false := fun g hg => Ev.congr hg (evAt fun k => by simp only [brambleref09_Fit.j0]; rw [if_pos trivial])
  by_cases c1 : (n.length : Int) = 0
  · exact ⟨false, bad _ (fun k => by unfold brambleref09_Fit.f; rw [hw, if_pos c1]), fun h => nomatch h⟩
  by_cases c2 : (t.length : Int) + (n.length : Int) > 600
  · exact ⟨false, bad _ (fun k => by unfold brambleref09_Fit.f; rw [hw, if_neg c1, if_pos c2]), fun h => nomatch h⟩
  by_cases c3 : (l.length : Int) > 400
  · exact ⟨false, bad _ (fun k => by unfold brambleref09_Fit.f; rw [hw, if_neg c1, if_neg c2, if_pos c3]), fun h => nomatch h⟩
  obtain ⟨b1, e1⟩ := titles_Ev t ht
  obtain ⟨b2, e2⟩ := titles_Ev n hn
  have hf : ∀ k, brambleref09_Fit.f k t n l = (brambleref09_titles.f k t).bind fun t107 => (if t107 = true then ((brambleref09_titles.f k n).bind fun t108 => (brambleref09_Fit.j0 k ((t.length : Int) + (n.length : Int)) (!t108) t n l)) else (brambleref09_Fit.j0 k ((t.length : Int) + (n.length : Int)) true t n l)) := fun k => by unfold brambleref09_Fit.f; rw [hw, if_neg c1, if_neg c2, if_neg c3]
  cases b1 with
  | false => exact ⟨false, Ev.congr hf (Ev.bind e1 (by simp only [Bool.false_eq_true, if_false]; exact bad _ (fun k => rfl))), fun h => nomatch h⟩
  | true =>
    cases b2 with
    | false => exact ⟨false, Ev.congr hf (Ev.bind e1 (by simp only [if_true]; exact Ev.bind e2 (bad _ (fun k => rfl)))), fun h => nomatch h⟩
    | true =>
      obtain ⟨b, e, g⟩ := fit_prods t n l ((t.length : Int) + (n.length : Int)) hl hok l.length 0 (by omega)
      have e3 : Ev (fun k => brambleref09_Fit.j0 k ((t.length : Int) + (n.length : Int)) (!true) t n l) b := Ev.step (f := fun k => brambleref09_Fit.l0 k ((t.length : Int) + (n.length : Int)) 0 t n l) (fun k => by simp only [brambleref09_Fit.j0]; rw [if_neg (by decide)]) e
      refine ⟨b, Ev.congr hf (Ev.bind e1 (by simp only [if_true]; exact Ev.bind e2 e3)), fun hb => ⟨by omega, by omega, by omega, fun p hp => ?_⟩⟩
      · have := g hb p (by rw [List.drop_zero]; exact hp)
        rwa [Int.natCast_add]
section
open Go.Proofs.Ytkfpmolplemdlaa.Grow Go.Proofs.Ytkfpmolplemdlaa.Deri
theorem stepD_len (bs : List Bool) (p : Fl.P) : (stepD bs p).1.length = bs.length := by
  unfold stepD
  split
  · rfl
  · exact List.length_set
theorem roundD (bs : List Bool) (ch : Bool) (p : S40) : roundV stepD (bs, ch) (prE p) = if (!at_ bs p.f0 && p.f1.all (fun x => at_ bs x.f0)) = true then (bs.set p.f0.toNat true, true) else (bs, ch) := by
  have e : (at_ bs p.f0 || (p.f1.map itE).any (fun x => !at_ bs x.1)) = !(!at_ bs p.f0 && p.f1.all (fun x => at_ bs x.f0)) := by
    rw [Bool.not_and, Bool.not_not, List.any_map, List.not_all_eq_any_not]
    rfl
  unfold roundV stepD
  show ((if (at_ bs p.f0 || (p.f1.map itE).any (fun x => !at_ bs x.1)) = true then (bs, false) else (bs.set p.f0.toNat true, true)).1, ch || (if (at_ bs p.f0 || (p.f1.map itE).any (fun x => !at_ bs x.1)) = true then (bs, false) else (bs.set p.f0.toNat true, true)).2) = _
  rw [e]
  cases (!at_ bs p.f0 && p.f1.all (fun x => at_ bs x.f0)) <;> simp
theorem roundsD_len : ∀ (qs : List Fl.P) (s : List Bool × Bool), (qs.foldl (roundV stepD) s).1.length = s.1.length
  | [], _ => rfl
  | p :: t, s => by
    have := roundsD_len t (roundV stepD s p)
    rw [List.foldl_cons, this]
    exact stepD_len s.1 p
end
section
open Go.Proofs.Ytkfpmolplemdlaa.Grow Go.Proofs.Ytkfpmolplemdlaa.Deri Go.Proofs.Ytkfpmolplemdlaa.Begin Go.Proofs.Ytkfpmolplemdlaa.Begun Go.Proofs.Ytkfpmolplemdlaa.Foll Go.Proofs.Ytkfpmolplemdlaa.FollB Go.Proofs.Ytkfpmolplemdlaa.MSet Go.Proofs.Ytkfpmolplemdlaa.RRow
theorem ok_bounds {t n : List ByteArray} {l : List S40} (h : ok25 ⟨t, n, l⟩) : t.length ≤ 100000000000000 ∧ n.length ≤ 100000000000000 ∧ l.length ≤ 100000000000000 ∧ ∀ p ∈ l, p.f1.length ≤ 100000000000000 ∧ ∀ x ∈ p.f1, x.f1.size ≤ 1000000000000000 ∧ x.f2.size ≤ 1000000000000000 := by
  obtain ⟨⟨h1, _⟩, ⟨h2, _⟩, h3, h4⟩ := h
  simp only at h1 h2 h3
  refine ⟨by omega, by omega, by omega, fun p hp => ?_⟩
  obtain ⟨_, ⟨h5, h6⟩, _⟩ := h4 p hp
  refine ⟨by omega, fun x hx => ?_⟩
  obtain ⟨_, h7, h8⟩ := h6 x hx
  exact ⟨by omega, by omega⟩
theorem few_Ev {t n : List ByteArray} {l : List S40} (h : ok25 ⟨t, n, l⟩) : ∃ b, Ev (fun k => bramblelaw10_few.f k t n l) b ∧ (b = true → 1 ≤ n.length ∧ t.length + n.length ≤ 80 ∧ l.length ≤ 100 ∧ ∀ p ∈ l, prFit t.length ((t.length + n.length : Nat) : Int) p) := by
  obtain ⟨h1, h2, h3, h4⟩ := ok_bounds h
  obtain ⟨b1, e1⟩ := light_Ev t n l h3
  unfold bramblelaw10_few.f
  cases b1 with
  | false => exact ⟨false, Ev.bind e1 (by simp only [Bool.false_eq_true, if_false]; exact Ev.now _), fun h => nomatch h⟩
  | true =>
    obtain ⟨b2, e2, g2⟩ := fit_Ev t n l h1 h2 h3 h4
    cases b2 with
    | false => exact ⟨false, Ev.bind e1 (by simp only [if_true]; exact Ev.bind e2 (by simp only [Bool.false_eq_true, if_false]; exact Ev.now _)), fun h => nomatch h⟩
    | true =>
      obtain ⟨q1, q2, q3, q4⟩ := g2 rfl
      have hw := w64 (x := (t.length : Int) + (n.length : Int)) (by omega) (by omega)
      by_cases c : (t.length : Int) + (n.length : Int) ≤ 80
      · refine ⟨decide ((l.length : Int) ≤ 100), Ev.bind e1 (by simp only [if_true]; exact Ev.bind e2 (by simp only [if_true, hw, if_pos c]; exact Ev.now _)), fun hb => ⟨q1, by omega, by have := of_decide_eq_true hb; omega, q4⟩⟩
      · exact ⟨false, Ev.bind e1 (by simp only [if_true]; exact Ev.bind e2 (by simp only [if_true, hw, if_neg c]; exact Ev.now _)), fun h => nomatch h⟩
theorem flOk_of {t n : List ByteArray} {l : List S40} (h1 : 1 ≤ n.length) (h2 : t.length + n.length ≤ 999999) (h3 : ∀ p ∈ l, prFit t.length ((t.length + n.length : Nat) : Int) p) : flOk (t.length + n.length) n.length (l.map prE) = true := by
  simp only [flOk, Bool.and_eq_true, decide_eq_true_eq, List.all_eq_true]
  refine ⟨⟨h2, h1⟩, fun q hq => ?_⟩
  obtain ⟨p, hp, rfl⟩ := List.mem_map.1 hq
  obtain ⟨g1, g2, g3, g4⟩ := h3 p hp
  refine ⟨⟨⟨show 0 ≤ p.f0 by omega, g2⟩, ?_⟩, fun i hi => ?_⟩
  · show (p.f1.map itE).length ≤ 1000
    rw [List.length_map]
    omega
  · obtain ⟨x, hx, rfl⟩ := List.mem_map.1 hi
    exact g4 x hx
/-- What the sets of a fit grammar are. -/
structure SetsOf (t n : List ByteArray) (l : List S40) (em us : List Bool) (Ss FS : List (List Int)) : Prop where
  ok : ∀ p ∈ l.map prE, PrOk (t.length + n.length) p
  eE : Ev (fun k => growV stepD (l.map prE) k (List.replicate (t.length + n.length) false)) em
  eU : Ev (fun k => growV stepD (l.map prE) k (ups (t.length + n.length) t.length)) us
  eF : Ev (fun k => growV (stepF (t.length + n.length) em) (l.map prE) k (initV (t.length + n.length) t.length)) Ss
  eL : Ev (fun k => growV (stepL (t.length + n.length) t.length em Ss) (l.map prE) k (initL (t.length + n.length) t.length)) FS
  lE : em.length = t.length + n.length
  lU : us.length = t.length + n.length
  iF : Inv (t.length + n.length) Ss
  iL : Inv (t.length + n.length) FS
  cE : ∀ p ∈ l.map prE, (stepD em p).2 = false
  cU : ∀ p ∈ l.map prE, (stepD us p).2 = false
  cF : ∀ p ∈ l.map prE, (stepF (t.length + n.length) em Ss p).2 = false
  cL : ∀ p ∈ l.map prE, (stepL (t.length + n.length) t.length em Ss FS p).2 = false
  qE : ∀ Q : List Bool → Prop, (∀ s p, p ∈ l.map prE → s.length = t.length + n.length → Q s → Q (stepD s p).1) → Q (List.replicate (t.length + n.length) false) → Q em
  qU : ∀ Q : List Bool → Prop, (∀ s p, p ∈ l.map prE → s.length = t.length + n.length → Q s → Q (stepD s p).1) → Q (ups (t.length + n.length) t.length) → Q us
  qF : ∀ Q : List (List Int) → Prop, (∀ s p, p ∈ l.map prE → Inv (t.length + n.length) s → Q s → Q (stepF (t.length + n.length) em s p).1) → Q (initV (t.length + n.length) t.length) → Q Ss
  qL : ∀ Q : List (List Int) → Prop, (∀ s p, p ∈ l.map prE → Inv (t.length + n.length) s → Q s → Q (stepL (t.length + n.length) t.length em Ss s p).1) → Q (initL (t.length + n.length) t.length) → Q FS
theorem inv_initL {N n0 : Nat} (hN : N ≤ 1000000) (h : n0 < N) : Inv N (initL N n0) := by
  refine ⟨fun S hS => ?_, by simp [initL], fun S hS => ?_⟩
  · rcases List.mem_or_eq_of_mem_set hS with hS | rfl
    · rw [List.eq_of_mem_replicate hS]
      exact List.Pairwise.nil
    · exact List.pairwise_singleton _ _
  · rcases List.mem_or_eq_of_mem_set hS with hS | rfl
    · rw [List.eq_of_mem_replicate hS]
      exact fun _ h => nomatch h
    · intro x hx
      rw [List.mem_singleton] at hx
      omega
theorem setsOf {t n : List ByteArray} {l : List S40} (h1 : 1 ≤ n.length) (h2 : t.length + n.length ≤ 999999) (h3 : ∀ p ∈ l, prFit t.length ((t.length + n.length : Nat) : Int) p) : ∃ em us Ss FS, SetsOf t n l em us Ss FS := by
  have ok : ∀ p ∈ l.map prE, PrOk (t.length + n.length) p := fun p hp => (flOk_ps (flOk_of h1 h2 h3) p hp).1
  obtain ⟨em, a1, a2, a3, a4⟩ := grow_ends (steps_D ok) _ (List.replicate (t.length + n.length) false) (by simp) (Nat.lt_succ_self _)
  obtain ⟨us, b1, b2, b3, b4⟩ := grow_ends (steps_D ok) _ (ups (t.length + n.length) t.length) (by unfold ups; simp) (Nat.lt_succ_self _)
  obtain ⟨Ss, c1, c2, c3, c4⟩ := grow_ends (steps_F (em := em) ok) _ (initV (t.length + n.length) t.length) (Inv.init (by omega)) (Nat.lt_succ_self _)
  obtain ⟨FS, d1, d2, d3, d4⟩ := grow_ends (steps_L (n0 := t.length) (em := em) c2 ok) _ (initL (t.length + n.length) t.length) (inv_initL (by omega) (by omega)) (Nat.lt_succ_self _)
  exact ⟨em, us, Ss, FS, ok, grow_Ev a1, grow_Ev b1, grow_Ev c1, grow_Ev d1, a2, b2, c2, d2, a3, b3, c3, d3, a4, b4, c4, d4⟩
theorem ahV_len {N : Nat} {em : List Bool} {Ss : List (List Int)} (hI : Inv N Ss) (B : List Int) : ∀ l : List Fl.I, (ahV N em Ss l B).length ≤ B.length + l.length * 1000000
  | [] => by simp [ahV]
  | i :: t => by
    have h1 := ahV_len (em := em) hI B t
    have h2 := hI.len i.1.toNat
    have h3 := Refs.unionV_le (Ss.getD i.1.toNat []) (ahV N em Ss t B)
    obtain ⟨q, hq⟩ : ∃ q, t.length * 1000000 = q := ⟨_, rfl⟩
    rw [hq] at h1
    simp only [ahV]
    rw [List.length_cons, Nat.add_mul, Nat.one_mul, hq]
    have e3 : (unionV (ahV N em Ss t B) (Ss.getD i.1.toNat [])).length ≤ B.length + (q + 1000000) := Nat.le_trans h3 (Nat.le_trans (Nat.add_le_add h1 h2) (by rw [Nat.add_assoc]; exact Nat.le_refl _))
    have e2 : (Ss.getD i.1.toNat []).length ≤ B.length + (q + 1000000) := Nat.le_trans h2 (Nat.le_trans (Nat.le_add_left _ q) (Nat.le_add_left _ _))
    have e1 : (ahV N em Ss t B).length ≤ B.length + (q + 1000000) := Nat.le_trans h1 (Nat.add_le_add_left (Nat.le_add_right _ _) _)
    split
    · split
      · exact e3
      · exact e2
    · exact e1
theorem inv_getD {N : Nat} {FS : List (List Int)} (h : Inv N FS) (i : Nat) : (FS.getD i []).length ≤ 1000000 := h.len i
end
theorem ev_if {β : Type} {P : Nat → Prop} [∀ k, Decidable (P k)] {g h : Nat → Option β} {r : β} (hp : ∃ K, ∀ k, K ≤ k → P k) (hg : Ev g r) : Ev (fun k => if P k then g k else h k) r := by
  obtain ⟨K1, h1⟩ := hp
  obtain ⟨K2, h2⟩ := hg
  refine ⟨K1 + K2, fun k hk => ?_⟩
  show (if P k then g k else h k) = some r
  rw [if_pos (h1 k (by omega))]
  exact h2 k (by omega)
theorem evs_all {α : Type} {P : α → Nat → Prop} : ∀ l : List α, (∀ x ∈ l, ∃ K, ∀ k, K ≤ k → P x k) → ∃ K, ∀ k, K ≤ k → ∀ x ∈ l, P x k
  | [], _ => ⟨0, fun _ _ _ h => nomatch h⟩
  | x :: t, h => by
    obtain ⟨K1, h1⟩ := h x (by simp)
    obtain ⟨K2, h2⟩ := evs_all t (fun y hy => h y (by simp [hy]))
    refine ⟨K1 + K2, fun k hk y hy => ?_⟩
    rcases List.mem_cons.1 hy with rfl | hy
    · exact h1 k (by omega)
    · exact h2 k (by omega) y hy
section
open Go.Proofs.Ytkfpmolplemdlaa.Grow Go.Proofs.Ytkfpmolplemdlaa.Deri Go.Proofs.Ytkfpmolplemdlaa.Begin Go.Proofs.Ytkfpmolplemdlaa.Begun Go.Proofs.Ytkfpmolplemdlaa.Foll Go.Proofs.Ytkfpmolplemdlaa.FollB Go.Proofs.Ytkfpmolplemdlaa.MSet Go.Proofs.Ytkfpmolplemdlaa.RRow
/-- All numbers of all sets lie below M. -/
def Under (M : Int) (FS : List (List Int)) : Prop := ∀ S ∈ FS, ∀ x ∈ S, 0 ≤ x ∧ x < M
theorem Under.at {M : Int} {FS : List (List Int)} (h : Under M FS) (i : Nat) : ∀ x ∈ FS.getD i [], 0 ≤ x ∧ x < M := by
  rcases getD_mem (FS := FS) (i := i) with e | e
  · rw [e]; exact fun _ h => nomatch h
  · exact h _ e
theorem Under.set {M : Int} {FS : List (List Int)} (h : Under M FS) (i : Nat) {X : List Int} (hX : ∀ x ∈ X, 0 ≤ x ∧ x < M) : Under M (FS.set i X) := fun S hS => by
  rcases List.mem_or_eq_of_mem_set hS with hS | rfl
  · exact h S hS
  · exact hX
theorem rises_few : ∀ {S : List Int} (lo M : Int), Rises S → (∀ x ∈ S, lo ≤ x ∧ x < M) → lo ≤ M → (S.length : Int) ≤ M - lo
  | [], lo, M, _, _, h => by simp; omega
  | a :: t, lo, M, h, hb, _ => by
    obtain ⟨h1, h2⟩ := List.pairwise_cons.1 h
    have ha := hb a (by simp)
    have := rises_few (S := t) (a + 1) M h2 (fun x hx => ⟨by have := h1 x hx; omega, (hb x (by simp [hx])).2⟩) (by omega)
    rw [List.length_cons]
    omega
theorem ahV_und {N : Nat} {M : Int} {em : List Bool} {Ss : List (List Int)} {B : List Int} (l : List Fl.I) (hS : Under M Ss) (hB : ∀ x ∈ B, 0 ≤ x ∧ x < M) : ∀ x ∈ ahV N em Ss l B, 0 ≤ x ∧ x < M := fun x hx => by
  rcases ahV_sub N em Ss B x l hx with h | ⟨S, h1, h2⟩
  · exact hB x h
  · exact hS S h1 x h2
theorem unionV_und {M : Int} {A B : List Int} (hA : ∀ x ∈ A, 0 ≤ x ∧ x < M) (hB : ∀ x ∈ B, 0 ≤ x ∧ x < M) : ∀ x ∈ unionV A B, 0 ≤ x ∧ x < M := fun x hx => ((unionV_mem x _ _).1 hx).elim (hB x) (hA x)
theorem folV_und {N n0 : Nat} {M : Int} {em : List Bool} {Ss : List (List Int)} (hS : Under M Ss) (left : Nat) : ∀ (l : List Fl.I) (s : List (List Int) × Bool), Under M s.1 → Under M (folV N n0 em Ss left l s).1
  | [], _, h => h
  | i :: t, s, h => by
    simp only [folV]
    split
    · exact folV_und hS left t s h
    · exact folV_und hS left t _ (h.set _ (unionV_und (h.at _) (ahV_und t hS (h.at _))))
theorem setsOf_und {t n : List ByteArray} {l : List S40} {em us : List Bool} {Ss FS : List (List Int)} (H : SetsOf t n l em us Ss FS) : Under ((t.length : Int) + 1) Ss ∧ Under ((t.length : Int) + 1) FS := by
  have h1 : Under ((t.length : Int) + 1) Ss := H.qF (Under ((t.length : Int) + 1)) (fun s p _ _ h => h.set _ (unionV_und (h.at _) (ahV_und _ h (fun _ h => nomatch h)))) (fun S hS x hx => by
    obtain ⟨q, hq, e⟩ := List.mem_iff_getElem.1 hS
    have := initV_get (S := S) (by rw [List.getElem?_eq_getElem hq, e])
    subst this
    split at hx
    · rw [List.mem_singleton] at hx; omega
    · exact nomatch hx)
  refine ⟨h1, H.qL (Under ((t.length : Int) + 1)) (fun s p _ _ h => folV_und h1 _ _ (s, false) h) (fun S hS x hx => ?_)⟩
  obtain ⟨q, hq, e⟩ := List.mem_iff_getElem.1 hS
  have := initL_get (S := S) (by rw [List.getElem?_eq_getElem hq, e])
  subst this
  split at hx
  · rw [List.mem_singleton] at hx; omega
  · exact nomatch hx
theorem under_len {M : Int} {FS : List (List Int)} {N : Nat} (hI : Inv N FS) (h : Under M FS) (hM : 0 ≤ M) (i : Nat) : ((FS.getD i []).length : Int) ≤ M := by
  have := rises_few 0 M (hI.rise i) (h.at i) hM
  omega
/-- Nothing is new: what is taken in was there. -/
theorem unionV_sub {A B : List Int} (h : unionV A B = A) : ∀ x ∈ B, x ∈ A := fun x hx => by
  rw [← h]
  exact (unionV_mem x _ _).2 (.inl hx)
theorem sub_unionV {A B : List Int} (hA : Rises A) (h : ∀ x ∈ B, x ∈ A) : unionV A B = A := rises_one (unionV_rises _ hA) hA (fun x => by
  rw [unionV_mem]
  exact ⟨fun g => g.elim (h x) id, .inr⟩)
theorem stepF_sub {N : Nat} {em : List Bool} {Ss : List (List Int)} {p : Fl.P} (h : (stepF N em Ss p).2 = false) : ∀ x ∈ ahV N em Ss p.2.1 [], x ∈ Ss.getD p.1.toNat [] := by
  have h4 := of_decide_eq_false h
  exact unionV_sub (unionV_id _ _ (by omega))
theorem ahV_pre {N : Nat} {em : List Bool} {Ss : List (List Int)} {B : List Int} (x : Fl.I) (t : List Fl.I) (y : Int) (hx : 0 ≤ x.1 ∧ x.1 < (N : Int)) (hy : y ∈ Ss.getD x.1.toNat []) : ∀ (pre : List Fl.I), ItOk N pre → (∀ i ∈ pre, at_ em i.1 = true) → y ∈ ahV N em Ss (pre ++ x :: t) B
  | [], _, _ => by
    simp only [List.nil_append, ahV]
    rw [if_pos hx]
    split
    · exact (unionV_mem y _ _).2 (.inl hy)
    · exact hy
  | i :: pre, ho, he => by
    simp only [List.cons_append, ahV]
    rw [if_pos (ho i (by simp)), if_pos (he i (by simp))]
    exact (unionV_mem y _ _).2 (.inr (ahV_pre x t y hx hy pre (fun j hj => ho j (by simp [hj])) (fun j hj => he j (by simp [hj]))))
theorem fol_closed {N n0 : Nat} {em : List Bool} {Ss FS : List (List Int)} (hS : Inv N Ss) (hF : Inv N FS) (left : Nat) : ∀ (l : List Fl.I) (c : Bool), ItOk N l → (folV N n0 em Ss left l (FS, c)).2 = false → ∀ pre i rest, l = pre ++ i :: rest → ¬ i.1 < (n0 : Int) → unionV (FS.getD i.1.toNat []) (ahV N em Ss rest (FS.getD left [])) = FS.getD i.1.toNat []
  | [], _, _, _, pre, i, rest, e, _ => by simp at e
  | a :: t, c, ho, h, pre, i, rest, e, hi => by
    simp only [folV] at h
    split at h
    · rename_i ha
      cases pre with
      | nil =>
        simp only [List.nil_append, List.cons.injEq] at e
        rw [e.1] at ha
        exact absurd ha hi
      | cons b pre =>
        simp only [List.cons_append, List.cons.injEq] at e
        exact fol_closed hS hF left t c (fun j hj => ho j (by simp [hj])) h pre i rest e.2 hi
    · have hIs : Inv N (FS.set a.1.toNat (unionV (FS.getD a.1.toNat []) (ahV N em Ss t (FS.getD left [])))) := hF.union _ (hF.rise _) (hF.bnd _) (ahV_bnd t hS.d (hF.bnd _))
      simp only [oneL] at h
      obtain ⟨h7, h8⟩ := (fol_go (n0 := n0) (em := em) hS left t _ (decide ((unionV (FS.getD a.1.toNat []) (ahV N em Ss t (FS.getD left []))).length > (FS.getD a.1.toNat []).length) || c) (fun j hj => ho j (by simp [hj])) hIs).2.2.2 h
      obtain ⟨h9, h10⟩ := Bool.or_eq_false_iff.1 h8
      have h11 := unionV_id (ahV N em Ss t (FS.getD left [])) (FS.getD a.1.toNat []) (by have := of_decide_eq_false h9; omega)
      cases pre with
      | nil =>
        simp only [List.nil_append, List.cons.injEq] at e
        obtain ⟨rfl, rfl⟩ := e
        exact h11
      | cons b pre =>
        simp only [List.cons_append, List.cons.injEq] at e
        rw [h9, h11, set_getD, Bool.false_or] at h
        exact fol_closed hS hF left t c (fun j hj => ho j (by simp [hj])) h pre i rest e.2 hi
end
section
open Go.Proofs.Ytkfpmolplemdlaa.MSet Go.Proofs.Ytkfpmolplemdlaa.RRow
theorem within_Evt (a b : List Int) (hl : a.length + b.length ≤ 1000000000) (h : unionV b a = b) : ∃ K, ∀ k, K ≤ k → bramblelaw10_within.f k [a] [b] = some true := by
  obtain ⟨K, hK⟩ := ints_refl b (by omega)
  refine ⟨K, fun k hk => ?_⟩
  have h1 := hK k hk
  unfold bramblelaw10_within.f
  rw [if_pos]
  rw [Bool.and_eq_true]
  refine ⟨?_, ?_⟩
  · simp only [withinB, Bool.and_eq_true, decide_eq_true_eq, List.all_eq_true, List.mem_range, List.length_singleton]
    refine ⟨⟨trivial, by omega⟩, fun i hi => ?_⟩
    obtain rfl : i = 0 := by omega
    exact ⟨hl, h⟩
  · simp only [decide_eq_true_eq, List.all_eq_true, List.mem_range, List.length_singleton]
    intro i hi
    obtain rfl : i = 0 := by omega
    exact h1
end
open Go.Proofs.Ytkfpmolplemdlaa.Grow Go.Proofs.Ytkfpmolplemdlaa.Deri Go.Proofs.Ytkfpmolplemdlaa.Begin Go.Proofs.Ytkfpmolplemdlaa.Begun Go.Proofs.Ytkfpmolplemdlaa.Foll Go.Proofs.Ytkfpmolplemdlaa.MSet in
theorem closP_Ev {t n : List ByteArray} {l : List S40} {em us : List Bool} {Ss FS : List (List Int)} (H : SetsOf t n l em us Ss FS) (ok : flOk (t.length + n.length) n.length (l.map prE) = true) (hN : t.length ≤ 900) (p : S40) (hp : p ∈ l) : ∀ (r pre : List S48) (a : Bool), p.f1 = pre ++ r → (a = true → ∀ x ∈ pre, at_ em x.f0 = true) →
    Ev (fun k => closP k t n l em Ss FS p.f0 r a) (a && r.all fun x => at_ em x.f0)
  | [], pre, a, _, _ => by
    simp only [closP, List.all_nil, Bool.and_true]
    exact Ev.now _
  | x :: r, pre, a, e, ha => by
    have hm : prE p ∈ l.map prE := List.mem_map_of_mem hp
    obtain ⟨hpo, hp64⟩ := flOk_ps ok (prE p) hm
    have hitm : ∀ y ∈ p.f1, 0 ≤ y.f0 ∧ y.f0 < ((t.length + n.length : Nat) : Int) := fun y hy => hpo.2.2 (itE y) (List.mem_map_of_mem hy)
    have hx := hitm x (by rw [e]; simp)
    obtain ⟨u1, u2⟩ := setsOf_und H
    have b1 := under_len H.iF u1 (by omega)
    have b2 := under_len H.iL u2 (by omega)
    have emap : (prE p).2.1 = pre.map itE ++ itE x :: r.map itE := by
      show p.f1.map itE = _
      rw [e, List.map_append, List.map_cons]
    have hok1 : ItOk (t.length + n.length) (pre.map itE) := fun i hi => by
      obtain ⟨y, hy, rfl⟩ := List.mem_map.1 hi
      exact hitm y (by rw [e]; simp [hy])
    simp only [closP]
    refine ev_if ?_ ?_
    · by_cases c : a = true
      · obtain ⟨K, hK⟩ := within_Evt (Ss.getD x.f0.toNat []) (Ss.getD p.f0.toNat []) (by have := b1 x.f0.toNat; have := b1 p.f0.toNat; omega) (sub_unionV (H.iF.rise _) (fun y hy => stepF_sub (H.cF _ hm) y (by
          rw [emap]
          exact ahV_pre (itE x) (r.map itE) y hx hy (pre.map itE) hok1 (fun i hi => by
            obtain ⟨z, hz, rfl⟩ := List.mem_map.1 hi
            exact ha c z hz))))
        exact ⟨K, fun k hk _ => hK k hk⟩
      · exact ⟨0, fun k _ h => absurd h c⟩
    · have ahk : ahOk (r.map itE) (FS.getD p.f0.toNat []) = true := by
        simp only [ahOk, Bool.and_eq_true, decide_eq_true_eq, List.all_eq_true, List.length_map]
        refine ⟨⟨?_, by have := b2 p.f0.toNat; omega⟩, fun y hy => ?_⟩
        · have : (p.f1.map itE).length ≤ 1000 := hp64
          rw [List.length_map, e, List.length_append, List.length_cons] at this
          omega
        · have := u2.at p.f0.toNat y hy
          simp only [Lit.wf, Bool.and_eq_true, decide_eq_true_eq]
          have e1 : IntKind.i64.min = -9223372036854775808 := rfl
          have e2 : IntKind.i64.max = 9223372036854775807 := rfl
          omega
      have eA : Ev (fun k => sets_Ahead.f k t n l r (FS.getD p.f0.toNat [])) (ahV (t.length + n.length) em Ss (r.map itE) (unionV [] (FS.getD p.f0.toNat []))) := by
        unfold sets_Ahead.f
        simp only [if_pos (And.intro ok ahk)]
        exact Ev.bind H.eE (Ev.bind H.eF (Ev.now _))
      have eu : unionV [] (FS.getD p.f0.toNat []) = FS.getD p.f0.toNat [] := rises_one (unionV_rises _ List.Pairwise.nil) (H.iL.rise _) (fun y => by rw [unionV_mem]; simp)
      rw [eu] at eA
      refine Ev.bind eA (ev_if ?_ ?_)
      · by_cases c : (t.length : Int) ≤ x.f0
        · have hcl := fol_closed (n0 := t.length) H.iF H.iL p.f0.toNat (prE p).2.1 false hpo.2.2 (H.cL _ hm) (pre.map itE) (itE x) (r.map itE) emap (by show ¬ x.f0 < _; omega)
          have ua := ahV_und (N := t.length + n.length) (em := em) (r.map itE) u1 (u2.at p.f0.toNat)
          have hla := rises_few 0 _ (Aheads.ahV_rises (t.length + n.length) em Ss _ H.iF.r (H.iL.rise p.f0.toNat) (r.map itE)) ua (by omega)
          obtain ⟨K, hK⟩ := within_Evt (ahV (t.length + n.length) em Ss (r.map itE) (FS.getD p.f0.toNat [])) (FS.getD x.f0.toNat []) (by have := b2 x.f0.toNat; omega) hcl
          exact ⟨K, fun k hk _ => hK k hk⟩
        · exact ⟨0, fun k _ h => absurd h c⟩
      · have := closP_Ev H ok hN p hp r (pre ++ [x]) (a && at_ em x.f0) (by rw [e, List.append_assoc]; rfl) (fun h y hy => by
          rw [Bool.and_eq_true] at h
          rcases List.mem_append.1 hy with hy | hy
          · exact ha h.1 y hy
          · rw [List.mem_singleton] at hy; subst hy; exact h.2)
        rw [List.all_cons, ← Bool.and_assoc]
        exact this
open Go.Proofs.Ytkfpmolplemdlaa.Grow Go.Proofs.Ytkfpmolplemdlaa.Deri Go.Proofs.Ytkfpmolplemdlaa.Begin Go.Proofs.Ytkfpmolplemdlaa.Begun Go.Proofs.Ytkfpmolplemdlaa.MSet in
theorem SetsClosed : bramblelaw10_SetsClosed.Pure := by
  intro s0 h0
  obtain ⟨t, n, l⟩ := s0
  suffices Ev (fun k => bramblelaw10_SetsClosed.f k t n l) true by
    obtain ⟨K, h⟩ := this
    exact ⟨K, h K (Nat.le_refl _)⟩
  unfold bramblelaw10_SetsClosed.f
  obtain ⟨c, ec, gc⟩ := few_Ev h0
  refine Ev.bind ec ?_
  cases c with
  | false =>
    simp only [Bool.false_eq_true, if_false]
    exact Ev.now _
  | true =>
  simp only [if_true]
  obtain ⟨g1, g2, g3, g4⟩ := gc rfl
  obtain ⟨em, us, Ss, FS, H⟩ := setsOf g1 (by omega) g4
  have ok := flOk_of g1 (by omega) g4
  have e1 : Ev (fun k => sets_Empty.f k t n l) em := by
    unfold sets_Empty.f
    simp only [if_pos ok]
    exact H.eE
  have e5 : Ev (fun k => sets_First.f k t n l) Ss := by
    unfold sets_First.f
    simp only [if_pos ok]
    exact Ev.bind H.eE H.eF
  have e8 : Ev (fun k => sets_Follow.f k t n l) FS := by
    unfold sets_Follow.f folP
    simp only [if_pos ok]
    exact Ev.bind H.eE (Ev.bind H.eF H.eL)
  refine Ev.bind e5 (Ev.bind e8 (Ev.bind e1 (ev_if ?_ (Ev.now _))))
  obtain ⟨K, hK⟩ := evs_all (P := fun p k => closP k t n l em Ss FS p.f0 p.f1 true = some (true && p.f1.all fun x => at_ em x.f0)) l (fun p hp => closP_Ev H ok (by omega) p hp p.f1 [] true rfl (fun _ x hx => nomatch hx))
  refine ⟨K, fun k hk => ⟨H.iF.l, H.iL.l, H.lE, ?_⟩⟩
  unfold closL
  rw [List.all_eq_true]
  intro p hp
  rw [hK k hk p hp, Bool.and_eq_true, decide_eq_true_eq]
  refine ⟨rfl, fun h => ?_⟩
  have h1 : (p.f1.all fun x => at_ em x.f0) = true := by simpa using h
  have h2 := H.cE (prE p) (List.mem_map_of_mem hp)
  unfold stepD at h2
  split at h2
  · rename_i h3
    rw [Bool.or_eq_true] at h3
    rcases h3 with h3 | h3
    · exact h3
    · rw [List.any_eq_true] at h3
      obtain ⟨i, hi, hn⟩ := h3
      obtain ⟨x, hx, rfl⟩ := List.mem_map.1 hi
      have h4 : at_ em x.f0 = true := List.all_eq_true.1 h1 x hx
      rw [show (itE x).1 = x.f0 from rfl, h4] at hn
      cases hn
  · cases h2

end Go.Proofs.Ytkfpmolplemdlaa.Pure
