/- SetsDerive: a row that a symbol derives begins with a terminal of its First, or is empty just where that is said; one that derives anything is useful. No condition. -/
import Derived.Test.YtkfpmolplemdlaaStaSetsDerive
namespace Go.Proofs.Ytkfpmolplemdlaa.Pure
set_option linter.unusedVariables false
set_option linter.unusedSimpArgs false
open Go.RowKit Go.Proofs.Ytkfpmolplemdlaa.PSetsDerive Go.Proofs.YtkfpmolplemdlaaW.PrintWords Go.Proofs.YtkfpmolplemdlaaW.PrintLast Go.Proofs.YtkfpmolplemdlaaW.PrintMore

theorem w64 {x : Int} (h1 : -9223372036854775808 ≤ x) (h2 : x ≤ 9223372036854775807) : wrap64 x = x := by
  unfold wrap64
  omega
theorem wf64 {x : Int} (h : (Lit.int .i64 x).wf = true) : -9223372036854775808 ≤ x ∧ x ≤ 9223372036854775807 := by
  simp only [Lit.wf, Bool.and_eq_true, decide_eq_true_eq] at h
  have e1 : IntKind.i64.min = -9223372036854775808 := rfl
  have e2 : IntKind.i64.max = 9223372036854775807 := rfl
  omega
theorem evAt {α : Type} {g : Nat → Option α} {r : α} (h : ∀ k, g (k + 1) = some r) : Ev g r := ⟨1, fun k hk => by obtain ⟨m, rfl⟩ : ∃ m, k = m + 1 := ⟨k - 1, by omega⟩; exact h m⟩
/-! ### Growing till nothing changes -/
section
open Go.Proofs.Ytkfpmolplemdlaa.Grow Go.Proofs.Ytkfpmolplemdlaa.Deri Go.Proofs.Ytkfpmolplemdlaa.Begin Go.Proofs.Ytkfpmolplemdlaa.Begun Go.Proofs.Ytkfpmolplemdlaa.Foll Go.Proofs.Ytkfpmolplemdlaa.FollB Go.Proofs.Ytkfpmolplemdlaa.MSet Go.Proofs.Ytkfpmolplemdlaa.RRow
variable {σ : Type} {step : σ → Fl.P → σ × Bool}
structure Steps (step : σ → Fl.P → σ × Bool) (ps : List Fl.P) (I : σ → Prop) (m : σ → Nat) (M : Nat) : Prop where
  keep : ∀ s p, p ∈ ps → I s → I (step s p).1
  up : ∀ s p, p ∈ ps → I s → (step s p).2 = true → m s < m (step s p).1
  no : ∀ s p, p ∈ ps → I s → (step s p).2 = false → (step s p).1 = s
  bound : ∀ s, I s → m s ≤ M
theorem rounds_go {ps : List Fl.P} {I : σ → Prop} {m : σ → Nat} {M : Nat} (h : Steps step ps I m M) : ∀ (qs : List Fl.P), (∀ p ∈ qs, p ∈ ps) → ∀ (s : σ) (b : Bool), I s →
    I (qs.foldl (roundV step) (s, b)).1 ∧ m s ≤ m (qs.foldl (roundV step) (s, b)).1 ∧ ((qs.foldl (roundV step) (s, b)).2 = true → b = true ∨ m s < m (qs.foldl (roundV step) (s, b)).1) ∧
    ((qs.foldl (roundV step) (s, b)).2 = false → (qs.foldl (roundV step) (s, b)).1 = s ∧ b = false ∧ ∀ p ∈ qs, (step s p).2 = false) ∧
    (∀ Q : σ → Prop, (∀ t p, p ∈ ps → I t → Q t → Q (step t p).1) → Q s → Q (qs.foldl (roundV step) (s, b)).1)
  | [], _, s, b, hs => ⟨hs, Nat.le_refl _, fun h => .inl h, fun h => ⟨rfl, h, fun _ hp => nomatch hp⟩, fun _ _ hq => hq⟩
  | p :: t, hq, s, b, hs => by
    have hp := hq p (by simp)
    have e : (p :: t).foldl (roundV step) (s, b) = t.foldl (roundV step) ((step s p).1, b || (step s p).2) := rfl
    rw [e]
    obtain ⟨h1, h2, h3, h4, h5⟩ := rounds_go h t (fun q hq' => hq q (by simp [hq'])) (step s p).1 (b || (step s p).2) (h.keep s p hp hs)
    have hle : m s ≤ m (step s p).1 := by
      cases c : (step s p).2 with
      | true => exact Nat.le_of_lt (h.up s p hp hs c)
      | false => rw [h.no s p hp hs c]; exact Nat.le_refl _
    refine ⟨h1, Nat.le_trans hle h2, fun hb => ?_, fun hb => ?_, fun Q hQ hs' => h5 Q hQ (hQ s p hp hs hs')⟩
    · rcases h3 hb with h6 | h6
      · cases c : (step s p).2 with
        | true => exact .inr (Nat.lt_of_lt_of_le (h.up s p hp hs c) (by rw [c] at h2; exact h2))
        | false => rw [c, Bool.or_false] at h6; exact .inl h6
      · exact .inr (Nat.lt_of_le_of_lt hle h6)
    · obtain ⟨h6, h7, h8⟩ := h4 hb
      obtain ⟨h9, h10⟩ := Bool.or_eq_false_iff.1 h7
      have h11 := h.no s p hp hs h10
      rw [h11] at h6 h8
      rw [h11]
      refine ⟨h6, h9, fun q hq' => ?_⟩
      rcases List.mem_cons.1 hq' with rfl | hq'
      · exact h10
      · exact h8 q hq'
/-- It comes to an end, where no production changes anything more; what every step keeps, the end has. -/
theorem grow_ends {ps : List Fl.P} {I : σ → Prop} {m : σ → Nat} {M : Nat} (h : Steps step ps I m M) : ∀ (d : Nat) (s : σ), I s → M - m s < d → ∃ r, growV step ps d s = some r ∧ I r ∧ (∀ p ∈ ps, (step r p).2 = false) ∧ (∀ Q : σ → Prop, (∀ t p, p ∈ ps → I t → Q t → Q (step t p).1) → Q s → Q r)
  | 0, _, _, hd => absurd hd (Nat.not_lt_zero _)
  | d + 1, s, hs, hd => by
    obtain ⟨h1, h2, h3, h4, h5⟩ := rounds_go h ps (fun p hp => hp) s false hs
    simp only [growV]
    show ∃ r, (if (ps.foldl (roundV step) (s, false)).2 = true then _ else some (ps.foldl (roundV step) (s, false)).1) = some r ∧ _
    split
    · rename_i hb
      rcases h3 hb with h6 | h6
      · cases h6
      · have := h.bound _ h1
        obtain ⟨r, g1, g2, g3, g4⟩ := grow_ends h d _ h1 (by omega)
        exact ⟨r, g1, g2, g3, fun Q hQ hs' => g4 Q hQ (h5 Q hQ hs')⟩
    · rename_i hb
      obtain ⟨h6, _, h8⟩ := h4 (by simpa using hb)
      exact ⟨_, rfl, h1, by rw [h6]; exact h8, h5⟩
theorem grow_up {ps : List Fl.P} : ∀ (k : Nat) (s r : σ), growV step ps k s = some r → growV step ps (k + 1) s = some r
  | 0, _, _, h => by simp [growV] at h
  | k + 1, s, r, h => by
    have e : ∀ k, growV step ps (k + 1) s = if (roundsV step ps s).2 = true then growV step ps k (roundsV step ps s).1 else some (roundsV step ps s).1 := fun _ => rfl
    rw [e] at h ⊢
    split
    · rename_i c
      rw [if_pos c] at h
      exact grow_up k _ _ h
    · rename_i c
      rw [if_neg c] at h
      exact h
theorem grow_Ev {ps : List Fl.P} {d : Nat} {s r : σ} (h : growV step ps d s = some r) : Ev (fun k => growV step ps k s) r := Ev.of (fun k => (fun r h => grow_up k s r h)) h
theorem cnt_set : ∀ (bs : List Bool) (i : Nat), i < bs.length → bs.getD i false = false → (bs.set i true).count true = bs.count true + 1
  | [], i, h, _ => by simp at h
  | b :: t, 0, _, hb => by
    have : b = false := hb
    subst this
    simp
  | b :: t, i + 1, h, hb => by
    have := cnt_set t i (by simpa using h) hb
    simp only [List.set_cons_succ, List.count_cons, this]
    omega
theorem steps_D {N : Nat} {ps : List Fl.P} (hps : ∀ p ∈ ps, PrOk N p) : Steps stepD ps (fun bs => bs.length = N) (fun bs => bs.count true) N := by
  refine ⟨fun s p _ hs => ?_, fun s p hp hs h => ?_, fun s p _ _ h => ?_, fun s hs => by rw [← hs]; exact List.count_le_length⟩
  · unfold stepD
    split
    · exact hs
    · rw [List.length_set]; exact hs
  · have h1 := (hps p hp).1
    have h2 := (hps p hp).2.1
    unfold stepD at h ⊢
    split at h
    · cases h
    · rename_i c
      rw [if_neg c]
      rw [Bool.not_eq_true, Bool.or_eq_false_iff] at c
      show _ < (s.set _ true).count true
      rw [cnt_set s p.1.toNat (by omega) c.1]
      omega
  · unfold stepD at h ⊢
    split
    · rfl
    · rename_i c
      rw [if_neg c] at h
      cases h
/-- The sets' sizes, in all. -/
def szs (FS : List (List Int)) : Nat := (FS.map List.length).sum
theorem szs_set : ∀ (FS : List (List Int)) (i : Nat) (X : List Int), i < FS.length → szs (FS.set i X) + (FS.getD i []).length = szs FS + X.length
  | [], i, _, h => by simp at h
  | S :: t, 0, X, _ => by simp [szs]; omega
  | S :: t, i + 1, X, h => by
    have := szs_set t i X (by simpa using h)
    simp only [szs, List.set_cons_succ, List.map_cons, List.sum_cons, List.getD_cons_succ] at *
    omega
theorem szs_le : ∀ (FS : List (List Int)), (∀ S ∈ FS, S.length ≤ 1000000) → szs FS ≤ FS.length * 1000000
  | [], _ => by simp [szs]
  | S :: t, h => by
    have h1 := h S (by simp)
    have h2 := szs_le t (fun T hT => h T (by simp [hT]))
    simp only [szs, List.map_cons, List.sum_cons, List.length_cons] at *
    omega
theorem inv_szs {N : Nat} {FS : List (List Int)} (h : Inv N FS) : szs FS ≤ N * 1000000 := by
  have := szs_le FS (fun S hS => by
    obtain ⟨i, hi, rfl⟩ := List.mem_iff_getElem.1 hS
    have := h.len i
    rwa [List.getD_eq_getElem?_getD, List.getElem?_eq_getElem hi] at this)
  rwa [h.l] at this
theorem putV_grow (x : Int) : ∀ l : List Int, putV l x = l ∨ (putV l x).length = l.length + 1
  | [] => .inr rfl
  | a :: t => by
    simp only [putV]
    split
    · exact .inr rfl
    · split
      · exact .inl rfl
      · rcases putV_grow x t with h | h
        · exact .inl (by rw [h])
        · exact .inr (by simp [h])
theorem unionV_ge : ∀ (xs l : List Int), l.length ≤ (unionV l xs).length
  | [], l => Nat.le_refl _
  | x :: t, l => by
    have h1 := unionV_ge t (putV l x)
    have h2 : l.length ≤ (putV l x).length := by rcases putV_grow x l with h | h <;> rw [h] <;> omega
    exact Nat.le_trans h2 h1
theorem unionV_id : ∀ (xs l : List Int), (unionV l xs).length ≤ l.length → unionV l xs = l
  | [], l, _ => rfl
  | x :: t, l, h => by
    have e : unionV l (x :: t) = unionV (putV l x) t := rfl
    rw [e] at h ⊢
    have h1 := unionV_ge t (putV l x)
    rcases putV_grow x l with h2 | h2
    · rw [h2] at h ⊢
      exact unionV_id t l h
    · omega
theorem set_getD (FS : List (List Int)) (i : Nat) : FS.set i (FS.getD i []) = FS := by
  by_cases h : i < FS.length
  · rw [List.getD_eq_getElem?_getD, List.getElem?_eq_getElem h]
    exact List.set_getElem_self _
  · exact List.set_eq_of_length_le (by omega)
theorem steps_F {N : Nat} {em : List Bool} {ps : List Fl.P} (hps : ∀ p ∈ ps, PrOk N p) : Steps (stepF N em) ps (Inv N) szs (N * 1000000) := by
  refine ⟨fun s p _ hs => Inv.stepF hs, fun s p hp hs h => ?_, fun s p _ _ h => ?_, fun s hs => inv_szs hs⟩
  · have h1 := (hps p hp).1
    have h2 := (hps p hp).2.1
    have h3 := szs_set s p.1.toNat (unionV (s.getD p.1.toNat []) (ahV N em s p.2.1 [])) (by rw [hs.l]; omega)
    have h4 := of_decide_eq_true h
    show szs s < szs (s.set _ _)
    omega
  · have h4 := of_decide_eq_false h
    have h5 := unionV_id (ahV N em s p.2.1 []) (s.getD p.1.toNat []) (by omega)
    show s.set _ _ = s
    rw [h5, set_getD]
theorem ahV_bnd {N : Nat} {em : List Bool} {Ss : List (List Int)} {B : List Int} (l : List Fl.I) (hS : Bd Ss) (hB : ∀ x ∈ B, 0 ≤ x ∧ x < 1000000) : ∀ x ∈ ahV N em Ss l B, 0 ≤ x ∧ x < 1000000 := fun x hx => by
  rcases ahV_sub N em Ss B x l hx with h | ⟨S, h1, h2⟩
  · exact hB x h
  · exact hS S h1 x h2
theorem fol_go {N n0 : Nat} {em : List Bool} {Ss : List (List Int)} (hS : Inv N Ss) (left : Nat) : ∀ (l : List Fl.I) (FS : List (List Int)) (c : Bool), ItOk N l → Inv N FS →
    Inv N (folV N n0 em Ss left l (FS, c)).1 ∧ szs FS ≤ szs (folV N n0 em Ss left l (FS, c)).1 ∧ ((folV N n0 em Ss left l (FS, c)).2 = true → c = true ∨ szs FS < szs (folV N n0 em Ss left l (FS, c)).1) ∧ ((folV N n0 em Ss left l (FS, c)).2 = false → (folV N n0 em Ss left l (FS, c)).1 = FS ∧ c = false)
  | [], FS, c, _, h => ⟨h, Nat.le_refl _, fun h => .inl h, fun h => ⟨rfl, h⟩⟩
  | i :: t, FS, c, ho, h => by
    simp only [folV]
    split
    · exact fol_go hS left t FS c (fun j hj => ho j (by simp [hj])) h
    · have hi := ho i (by simp)
      have hI : Inv N (FS.set i.1.toNat (unionV (FS.getD i.1.toNat []) (ahV N em Ss t (FS.getD left [])))) := h.union _ (h.rise _) (h.bnd _) (ahV_bnd t hS.d (h.bnd _))
      have h3 := szs_set FS i.1.toNat (unionV (FS.getD i.1.toNat []) (ahV N em Ss t (FS.getD left []))) (by rw [h.l]; omega)
      have h6 := unionV_ge (ahV N em Ss t (FS.getD left [])) (FS.getD i.1.toNat [])
      simp only [oneL]
      obtain ⟨g1, g2, g3, g4⟩ := fol_go (n0 := n0) (em := em) hS left t _ (decide ((unionV (FS.getD i.1.toNat []) (ahV N em Ss t (FS.getD left []))).length > (FS.getD i.1.toNat []).length) || c) (fun j hj => ho j (by simp [hj])) hI
      refine ⟨g1, by omega, fun hb => ?_, fun hb => ?_⟩
      · rcases g3 hb with h7 | h7
        · rcases Bool.or_eq_true _ _ |>.mp h7 with h8 | h8
          · have := of_decide_eq_true h8
            exact .inr (by omega)
          · exact .inl h8
        · exact .inr (by omega)
      · obtain ⟨h7, h8⟩ := g4 hb
        obtain ⟨h9, h10⟩ := Bool.or_eq_false_iff.1 h8
        have h11 := unionV_id (ahV N em Ss t (FS.getD left [])) (FS.getD i.1.toNat []) (by have := of_decide_eq_false h9; omega)
        rw [h7, h11, set_getD]
        exact ⟨rfl, h10⟩
theorem steps_L {N n0 : Nat} {em : List Bool} {Ss : List (List Int)} {ps : List Fl.P} (hS : Inv N Ss) (hps : ∀ p ∈ ps, PrOk N p) : Steps (stepL N n0 em Ss) ps (Inv N) szs (N * 1000000) := by
  refine ⟨fun s p hp hs => ?_, fun s p hp hs h => ?_, fun s p hp hs h => ?_, fun s hs => inv_szs hs⟩
  · exact (fol_go hS p.1.toNat p.2.1 s false (hps p hp).2.2 hs).1
  · rcases (fol_go hS p.1.toNat p.2.1 s false (hps p hp).2.2 hs).2.2.1 h with h | h
    · cases h
    · exact h
  · exact ((fol_go hS p.1.toNat p.2.1 s false (hps p hp).2.2 hs).2.2.2 h).1
end
/-! ### Which plain grammars are let in -/
theorem rd40_drop (l : List S40) (i : Nat) (h : i < l.length) : l.drop i = rd_T40 l (i : Int) :: l.drop (i + 1) := by
  rw [List.drop_eq_getElem_cons h]
  congr 1
  show _ = l.getD ((i : Int)).toNat z40
  rw [Int.toNat_natCast, List.getD_eq_getElem?_getD, List.getElem?_eq_getElem h]
  rfl
theorem rd48_drop (l : List S48) (i : Nat) (h : i < l.length) : l.drop i = rd_T48 l (i : Int) :: l.drop (i + 1) := by
  rw [List.drop_eq_getElem_cons h]
  congr 1
  show _ = l.getD ((i : Int)).toNat z48
  rw [Int.toNat_natCast, List.getD_eq_getElem?_getD, List.getElem?_eq_getElem h]
  rfl
theorem rd40_mem (l : List S40) (i : Nat) (h : i < l.length) : rd_T40 l (i : Int) ∈ l := by
  have := rd40_drop l i h
  exact List.mem_of_mem_drop (i := i) (by rw [this]; simp)
theorem rd48_mem (l : List S48) (i : Nat) (h : i < l.length) : rd_T48 l (i : Int) ∈ l := by
  have := rd48_drop l i h
  exact List.mem_of_mem_drop (i := i) (by rw [this]; simp)
theorem light_Ev (t n : List ByteArray) (l : List S40) (hl : l.length ≤ 100000000000000) : ∃ b, Ev (fun k => brambleref09_Light.f k t n l) b := by
  have go : ∀ (d i : Nat) (x : Int), i + d = l.length → ∃ b, Ev (fun k => brambleref09_Light.l0 k x (i : Int) t n l) b := by
    intro d
    induction d with
    | zero =>
      intro i x hi
      exact ⟨_, evAt fun k => by simp only [brambleref09_Light.l0]; rw [if_neg (by omega)]⟩
    | succ d ih =>
      intro i x hi
      by_cases hx : x ≥ 0
      · obtain ⟨b, e⟩ := ih (i + 1) (wrap64 ((wrap64 (x - 1)) - (((rd_T40 l i).f1).length : Int))) (by omega)
        refine ⟨b, Ev.step (fun k => ?_) e⟩
        simp only [brambleref09_Light.l0]
        rw [if_pos (by omega), if_pos hx, if_pos (by omega), w64 (x := (i : Int) + 1) (by omega) (by omega)]
        rfl
      · exact ⟨_, evAt fun k => by simp only [brambleref09_Light.l0]; rw [if_pos (by omega), if_neg hx]⟩
  exact go l.length 0 _ (by omega)
theorem titles_Ev (l : List ByteArray) (hl : l.length ≤ 100000000000000) : ∃ b, Ev (fun k => brambleref09_titles.f k l) b := by
  have go : ∀ (d i : Nat), i + d = l.length → ∃ b, Ev (fun k => brambleref09_titles.l0 k l (i : Int)) b := by
    intro d
    induction d with
    | zero =>
      intro i hi
      exact ⟨_, evAt fun k => by simp only [brambleref09_titles.l0]; rw [if_neg (by omega)]⟩
    | succ d ih =>
      intro i hi
      by_cases h1 : (rdOf ByteArray.empty l (i : Int)).toList = ([] : List UInt8)
      · exact ⟨_, evAt fun k => by simp only [brambleref09_titles.l0]; rw [if_pos (by omega), if_pos (by omega), if_pos h1]⟩
      · by_cases h2 : ((rdOf ByteArray.empty l (i : Int)).size : Int) > 80
        · exact ⟨_, evAt fun k => by simp only [brambleref09_titles.l0]; rw [if_pos (by omega), if_pos (by omega), if_neg h1, if_pos h2]⟩
        · obtain ⟨b, e⟩ := ih (i + 1) (by omega)
          refine ⟨b, Ev.step (fun k => ?_) e⟩
          simp only [brambleref09_titles.l0]
          rw [if_pos (by omega), if_pos (by omega), if_neg h1, if_neg h2, w64 (x := (i : Int) + 1) (by omega) (by omega)]
          rfl
  exact go l.length 0 (by omega)
theorem letter_some (a : Int) : ∃ b, brambleref07_letter.f a = some b := by
  unfold brambleref07_letter.f
  repeat' split
  all_goals exact ⟨_, rfl⟩
theorem digit_some (a : Int) : ∃ b, brambleref07_digit.f a = some b := by
  unfold brambleref07_digit.f
  repeat' split
  all_goals exact ⟨_, rfl⟩
theorem name7_Ev (s : ByteArray) (hs : s.size ≤ 1000000000000000) : ∃ b, Ev (fun k => brambleref07_Name.f k s) b := by
  have go : ∀ (d i : Nat), i + d = s.size → ∃ b, Ev (fun k => brambleref07_Name.l0 k s (i : Int)) b := by
    intro d
    induction d with
    | zero =>
      intro i hi
      by_cases h : s.toList = ([] : List UInt8)
      · exact ⟨_, evAt fun k => by simp only [brambleref07_Name.l0]; rw [if_neg (by omega), if_pos h]⟩
      · exact ⟨_, evAt fun k => by simp only [brambleref07_Name.l0]; rw [if_neg (by omega), if_neg h]⟩
    | succ d ih =>
      intro i hi
      obtain ⟨b, e⟩ := ih (i + 1) (by omega)
      have hw := w64 (x := (i : Int) + 1) (by omega) (by omega)
      obtain ⟨c, hc⟩ := letter_some (bt s (i : Int))
      obtain ⟨c2, hc2⟩ := digit_some (bt s (i : Int))
      cases c with
      | true =>
        refine ⟨b, Ev.step (fun k => ?_) e⟩
        simp only [brambleref07_Name.l0]
        rw [if_pos (by omega), if_pos (by omega), hc, hw]
        rfl
      | false =>
        by_cases h0 : (i : Int) = 0
        · refine ⟨false, evAt fun k => ?_⟩
          simp only [brambleref07_Name.l0]
          rw [if_pos (by omega), if_pos (by omega), hc]
          simp only [Option.bind_some, Bool.false_eq_true, if_false]
          rw [if_pos h0]
        · cases c2 with
          | true =>
            refine ⟨b, Ev.step (fun k => ?_) e⟩
            simp only [brambleref07_Name.l0]
            rw [if_pos (by omega), if_pos (by omega), hc, hw]
            simp only [Option.bind_some, Bool.false_eq_true, if_false]
            rw [if_neg h0, hc2]
            rfl
          | false =>
            refine ⟨false, evAt fun k => ?_⟩
            simp only [brambleref07_Name.l0]
            rw [if_pos (by omega), if_pos (by omega), hc]
            simp only [Option.bind_some, Bool.false_eq_true, if_false]
            rw [if_neg h0, hc2]
            rfl
  exact go s.size 0 (by omega)
theorem name9_Ev (s : ByteArray) (hs : s.size ≤ 1000000000000000) : ∃ b, Ev (fun k => brambleref09_Name.f k s) b := by
  unfold brambleref09_Name.f
  by_cases h : s.toList = ([] : List UInt8)
  · exact ⟨true, by simp only [if_pos h]; exact Ev.now _⟩
  · obtain ⟨b, e⟩ := name7_Ev s hs
    exact ⟨b, by simp only [if_neg h]; exact Ev.bind e (Ev.now _)⟩
/-- A production as a fit grammar has it. -/
def prFit (t : Nat) (n : Int) (p : S40) : Prop := (t : Int) ≤ p.f0 ∧ p.f0 < n ∧ p.f1.length ≤ 64 ∧ ∀ x ∈ p.f1, 0 ≤ x.f0 ∧ x.f0 < n
theorem fit_items (t n : List ByteArray) (l : List S40) (x3 : Int) (i : Nat) (p : S40) (hp : p.f1.length ≤ 100000000000000) (hok : ∀ x ∈ p.f1, x.f1.size ≤ 1000000000000000 ∧ x.f2.size ≤ 1000000000000000) (hi : i ≤ 100000000000000)
    (Pr : Prop) (hn : ∃ b, Ev (fun k => brambleref09_Fit.l0 k x3 ((i + 1 : Nat) : Int) t n l) b ∧ (b = true → Pr)) :
    ∀ (d j : Nat), j + d = p.f1.length → ∃ b, Ev (fun k => brambleref09_Fit.l1 k x3 (i : Int) (j : Int) t n l p.f0 p.f1 p.f2) b ∧ (b = true → Pr ∧ ∀ x ∈ p.f1.drop j, 0 ≤ x.f0 ∧ x.f0 < x3) := by
  intro d
  induction d with
  | zero =>
    intro j hj
    obtain ⟨b, e, g⟩ := hn
    refine ⟨b, Ev.step (fun k => ?_) e, fun hb => ⟨g hb, fun x hx => ?_⟩⟩
    · simp only [brambleref09_Fit.l1]
      rw [if_neg (by omega), w64 (x := (i : Int) + 1) (by omega) (by omega)]
      rfl
    · rw [List.drop_of_length_le (by omega)] at hx
      exact nomatch hx
  | succ d ih =>
    intro j hj
    have hx := hok _ (rd48_mem p.f1 j (by omega))
    by_cases h1 : (rd_T48 p.f1 (j : Int)).f0 < 0
    · exact ⟨false, evAt fun k => by simp only [brambleref09_Fit.l1]; rw [if_pos (by omega), if_pos (by omega), if_pos h1], fun h => nomatch h⟩
    by_cases h2 : (rd_T48 p.f1 (j : Int)).f0 ≥ x3
    · exact ⟨false, evAt fun k => by simp only [brambleref09_Fit.l1]; rw [if_pos (by omega), if_pos (by omega), if_neg h1, if_pos h2], fun h => nomatch h⟩
    obtain ⟨b1, e1⟩ := name9_Ev _ hx.1
    obtain ⟨b2, e2⟩ := name9_Ev _ hx.2
    obtain ⟨b, e, g⟩ := ih (j + 1) (by omega)
    have hs : ∀ k, brambleref09_Fit.l1 (k + 1) x3 (i : Int) (j : Int) t n l p.f0 p.f1 p.f2 = (brambleref09_Name.f k (rd_T48 p.f1 (j : Int)).f1).bind fun t114 => (if t114 = true then ((brambleref09_Name.f k (rd_T48 p.f1 (j : Int)).f2).bind fun t115 => (if t115 = true then brambleref09_Fit.l1 k x3 (i : Int) ((j + 1 : Nat) : Int) t n l p.f0 p.f1 p.f2 else some false)) else some false) := fun k => by
      simp only [brambleref09_Fit.l1]
      rw [if_pos (by omega), if_pos (by omega), if_neg h1, if_neg h2, w64 (x := (j : Int) + 1) (by omega) (by omega)]
      rfl
    cases b1 with
    | false => exact ⟨false, Ev.step hs (Ev.bind e1 (by simp only [Bool.false_eq_true, if_false]; exact Ev.now _)), fun h => nomatch h⟩
    | true =>
      cases b2 with
      | false => exact ⟨false, Ev.step hs (Ev.bind e1 (by simp only [if_true]; exact Ev.bind e2 (by simp only [Bool.false_eq_true, if_false]; exact Ev.now _))), fun h => nomatch h⟩
      | true =>
        refine ⟨b, Ev.step hs (Ev.bind e1 (by simp only [if_true]; exact Ev.bind e2 (by simp only [if_true]; exact e))), fun hb => ?_⟩
        obtain ⟨g1, g2⟩ := g hb
        refine ⟨g1, fun x hx' => ?_⟩
        rw [rd48_drop p.f1 j (by omega)] at hx'
        rcases List.mem_cons.1 hx' with rfl | hx'
        · exact ⟨by omega, by omega⟩
        · exact g2 x hx'
theorem fit_prods (t n : List ByteArray) (l : List S40) (x3 : Int) (hl : l.length ≤ 100000000000000) (hok : ∀ p ∈ l, p.f1.length ≤ 100000000000000 ∧ ∀ x ∈ p.f1, x.f1.size ≤ 1000000000000000 ∧ x.f2.size ≤ 1000000000000000) :
    ∀ (d i : Nat), i + d = l.length → ∃ b, Ev (fun k => brambleref09_Fit.l0 k x3 (i : Int) t n l) b ∧ (b = true → ∀ p ∈ l.drop i, prFit t.length x3 p) := by
  intro d
  induction d with
  | zero =>
    intro i hi
    refine ⟨true, evAt fun k => by simp only [brambleref09_Fit.l0]; rw [if_neg (by omega)], fun _ p hp => ?_⟩
    rw [List.drop_of_length_le (by omega)] at hp
    exact nomatch hp
  | succ d ih =>
    intro i hi
    have hp := hok _ (rd40_mem l i (by omega))
    have hd := rd40_drop l i (by omega)
    generalize hpe : rd_T40 l (i : Int) = p at hp hd
    have bad : ∀ k, brambleref09_Fit.j2 (k + 1) x3 (i : Int) true t n l p.f0 p.f1 p.f2 = some false := fun k => by simp only [brambleref09_Fit.j2]; rw [if_pos trivial]
    have step : ∀ b, (∀ k, brambleref09_Fit.l0 (k + 1) x3 (i : Int) t n l = brambleref09_Fit.j2 k x3 (i : Int) b t n l p.f0 p.f1 p.f2) → (b = false → (t.length : Int) ≤ p.f0 ∧ p.f0 < x3 ∧ p.f1.length ≤ 64) →
        ∃ b, Ev (fun k => brambleref09_Fit.l0 k x3 (i : Int) t n l) b ∧ (b = true → ∀ p ∈ l.drop i, prFit t.length x3 p) := by
      intro b hk hb
      cases b with
      | true => exact ⟨false, Ev.step hk (evAt bad), fun h => nomatch h⟩
      | false =>
        obtain ⟨q1, q2, q3⟩ := hb rfl
        obtain ⟨b, e, g⟩ := fit_items t n l x3 i p hp.1 hp.2 (by omega) _ (ih (i + 1) (by omega)) p.f1.length 0 (by omega)
        refine ⟨b, Ev.step hk (Ev.step (fun k => ?_) e), fun hb' q hq => ?_⟩
        · simp only [brambleref09_Fit.j2]
          rw [if_neg (by decide)]
          rfl
        · obtain ⟨g1, g2⟩ := g hb'
          rw [hd] at hq
          rcases List.mem_cons.1 hq with rfl | hq
          · exact ⟨q1, q2, q3, fun x hx => g2 x (by rw [List.drop_zero]; exact hx)⟩
          · exact g1 q hq
    by_cases c1 : p.f0 < (t.length : Int)
    · exact step true (fun k => by simp only [brambleref09_Fit.l0]; rw [hpe, if_pos (by omega), if_pos (by omega), if_pos c1]) (fun h => nomatch h)
    by_cases c2 : p.f0 ≥ x3
    · exact step true (fun k => by simp only [brambleref09_Fit.l0]; rw [hpe, if_pos (by omega), if_pos (by omega), if_neg c1, if_pos c2]) (fun h => nomatch h)
    by_cases c3 : (i : Int) > 0
    · have hw := w64 (x := (i : Int) - 1) (by omega) (by omega)
      by_cases c4 : (rd_T40 l ((i : Int) - 1)).f0 > p.f0
      · exact step true (fun k => by simp only [brambleref09_Fit.l0]; rw [hpe, hw, if_pos (by omega), if_pos (by omega), if_neg c1, if_neg c2, if_pos c3, if_pos (by omega), if_pos (by omega), if_pos c4]) (fun h => nomatch h)
      by_cases c5 : (p.f1.length : Int) > 64
      · exact step true (fun k => by simp only [brambleref09_Fit.l0]; rw [hpe, hw, if_pos (by omega), if_pos (by omega), if_neg c1, if_neg c2, if_pos c3, if_pos (by omega), if_pos (by omega), if_neg c4, if_pos c5]) (fun h => nomatch h)
      by_cases c6 : p.f2 < -10000
      · exact step true (fun k => by simp only [brambleref09_Fit.l0]; rw [hpe, hw, if_pos (by omega), if_pos (by omega), if_neg c1, if_neg c2, if_pos c3, if_pos (by omega), if_pos (by omega), if_neg c4, if_neg c5, if_pos c6]) (fun h => nomatch h)
      · exact step (decide (p.f2 > 10000)) (fun k => by simp only [brambleref09_Fit.l0]; rw [hpe, hw, if_pos (by omega), if_pos (by omega), if_neg c1, if_neg c2, if_pos c3, if_pos (by omega), if_pos (by omega), if_neg c4, if_neg c5, if_neg c6]) (fun _ => ⟨by omega, by omega, by omega⟩)
    · by_cases c5 : (p.f1.length : Int) > 64
      · exact step true (fun k => by simp only [brambleref09_Fit.l0]; rw [hpe, if_pos (by omega), if_pos (by omega), if_neg c1, if_neg c2, if_neg c3, if_pos c5]) (fun h => nomatch h)
      by_cases c6 : p.f2 < -10000
      · exact step true (fun k => by simp only [brambleref09_Fit.l0]; rw [hpe, if_pos (by omega), if_pos (by omega), if_neg c1, if_neg c2, if_neg c3, if_neg c5, if_pos c6]) (fun h => nomatch h)
      · exact step (decide (p.f2 > 10000)) (fun k => by simp only [brambleref09_Fit.l0]; rw [hpe, if_pos (by omega), if_pos (by omega), if_neg c1, if_neg c2, if_neg c3, if_neg c5, if_neg c6]) (fun _ => ⟨by omega, by omega, by omega⟩)
theorem fit_Ev (t n : List ByteArray) (l : List S40) (ht : t.length ≤ 100000000000000) (hn : n.length ≤ 100000000000000) (hl : l.length ≤ 100000000000000) (hok : ∀ p ∈ l, p.f1.length ≤ 100000000000000 ∧ ∀ x ∈ p.f1, x.f1.size ≤ 1000000000000000 ∧ x.f2.size ≤ 1000000000000000) :
    ∃ b, Ev (fun k => brambleref09_Fit.f k t n l) b ∧ (b = true → 1 ≤ n.length ∧ t.length + n.length ≤ 600 ∧ l.length ≤ 400 ∧ ∀ p ∈ l, prFit t.length ((t.length + n.length : Nat) : Int) p) := by
  have hw := w64 (x := (t.length : Int) + (n.length : Int)) (by omega) (by omega)
  have bad : ∀ (g : Nat → Option Bool), (∀ k, g k = brambleref09_Fit.j0 k ((t.length : Int) + (n.length : Int)) true t n l) → Ev g false := fun g hg => Ev.congr hg (evAt fun k => by simp only [brambleref09_Fit.j0]; rw [if_pos trivial])
  by_cases c1 : (n.length : Int) = 0
  · exact ⟨false, bad _ (fun k => by unfold brambleref09_Fit.f; rw [hw, if_pos c1]), fun h => nomatch h⟩
  by_cases c2 : (t.length : Int) + (n.length : Int) > 600
  · exact ⟨false, bad _ (fun k => by unfold brambleref09_Fit.f; rw [hw, if_neg c1, if_pos c2]), fun h => nomatch h⟩
  by_cases c3 : (l.length : Int) > 400
  · exact ⟨false, bad _ (fun k => by unfold brambleref09_Fit.f; rw [hw, if_neg c1, if_neg c2, if_pos c3]), fun h => nomatch h⟩
  obtain ⟨b1, e1⟩ := titles_Ev t ht
  obtain ⟨b2, e2⟩ := titles_Ev n hn
  have hf : ∀ k, brambleref09_Fit.f k t n l = (brambleref09_titles.f k t).bind fun t107 => (if t107 = true then ((brambleref09_titles.f k n).bind fun t108 => (brambleref09_Fit.j0 k ((t.length : Int) + (n.length : Int)) (!t108) t n l)) else (brambleref09_Fit.j0 k ((t.length : Int) + (n.length : Int)) true t n l)) := fun k => by unfold brambleref09_Fit.f; rw [hw, if_neg c1, if_neg c2, if_neg c3]
  cases b1 with
  | false => exact ⟨false, Ev.congr hf (Ev.bind e1 (by simp only [Bool.false_eq_true, if_false]; exact bad _ (fun k => rfl))), fun h => nomatch h⟩
  | true =>
    cases b2 with
    | false => exact ⟨false, Ev.congr hf (Ev.bind e1 (by simp only [if_true]; exact Ev.bind e2 (bad _ (fun k => rfl)))), fun h => nomatch h⟩
    | true =>
      obtain ⟨b, e, g⟩ := fit_prods t n l ((t.length : Int) + (n.length : Int)) hl hok l.length 0 (by omega)
      have e3 : Ev (fun k => brambleref09_Fit.j0 k ((t.length : Int) + (n.length : Int)) (!true) t n l) b := Ev.step (f := fun k => brambleref09_Fit.l0 k ((t.length : Int) + (n.length : Int)) 0 t n l) (fun k => by simp only [brambleref09_Fit.j0]; rw [if_neg (by decide)]) e
      refine ⟨b, Ev.congr hf (Ev.bind e1 (by simp only [if_true]; exact Ev.bind e2 e3)), fun hb => ⟨by omega, by omega, by omega, fun p hp => ?_⟩⟩
      · have := g hb p (by rw [List.drop_zero]; exact hp)
        rwa [Int.natCast_add]
section
open Go.Proofs.Ytkfpmolplemdlaa.Grow Go.Proofs.Ytkfpmolplemdlaa.Deri
theorem stepD_len (bs : List Bool) (p : Fl.P) : (stepD bs p).1.length = bs.length := by
  unfold stepD
  split
  · rfl
  · exact List.length_set
theorem roundD (bs : List Bool) (ch : Bool) (p : S40) : roundV stepD (bs, ch) (prE p) = if (!at_ bs p.f0 && p.f1.all (fun x => at_ bs x.f0)) = true then (bs.set p.f0.toNat true, true) else (bs, ch) := by
  have e : (at_ bs p.f0 || (p.f1.map itE).any (fun x => !at_ bs x.1)) = !(!at_ bs p.f0 && p.f1.all (fun x => at_ bs x.f0)) := by
    rw [Bool.not_and, Bool.not_not, List.any_map, List.not_all_eq_any_not]
    rfl
  unfold roundV stepD
  show ((if (at_ bs p.f0 || (p.f1.map itE).any (fun x => !at_ bs x.1)) = true then (bs, false) else (bs.set p.f0.toNat true, true)).1, ch || (if (at_ bs p.f0 || (p.f1.map itE).any (fun x => !at_ bs x.1)) = true then (bs, false) else (bs.set p.f0.toNat true, true)).2) = _
  rw [e]
  cases (!at_ bs p.f0 && p.f1.all (fun x => at_ bs x.f0)) <;> simp
theorem roundsD_len : ∀ (qs : List Fl.P) (s : List Bool × Bool), (qs.foldl (roundV stepD) s).1.length = s.1.length
  | [], _ => rfl
  | p :: t, s => by
    have := roundsD_len t (roundV stepD s p)
    rw [List.foldl_cons, this]
    exact stepD_len s.1 p
end
section
open Go.Proofs.Ytkfpmolplemdlaa.Grow Go.Proofs.Ytkfpmolplemdlaa.Deri Go.Proofs.Ytkfpmolplemdlaa.Begin Go.Proofs.Ytkfpmolplemdlaa.Begun Go.Proofs.Ytkfpmolplemdlaa.Foll Go.Proofs.Ytkfpmolplemdlaa.FollB Go.Proofs.Ytkfpmolplemdlaa.MSet Go.Proofs.Ytkfpmolplemdlaa.RRow
theorem ok_bounds {t n : List ByteArray} {l : List S40} (h : ok25 ⟨t, n, l⟩) : t.length ≤ 100000000000000 ∧ n.length ≤ 100000000000000 ∧ l.length ≤ 100000000000000 ∧ ∀ p ∈ l, p.f1.length ≤ 100000000000000 ∧ ∀ x ∈ p.f1, x.f1.size ≤ 1000000000000000 ∧ x.f2.size ≤ 1000000000000000 := by
  obtain ⟨⟨h1, _⟩, ⟨h2, _⟩, h3, h4⟩ := h
  simp only at h1 h2 h3
  refine ⟨by omega, by omega, by omega, fun p hp => ?_⟩
  obtain ⟨_, ⟨h5, h6⟩, _⟩ := h4 p hp
  refine ⟨by omega, fun x hx => ?_⟩
  obtain ⟨_, h7, h8⟩ := h6 x hx
  exact ⟨by omega, by omega⟩
theorem few_Ev {t n : List ByteArray} {l : List S40} (h : ok25 ⟨t, n, l⟩) : ∃ b, Ev (fun k => bramblelaw10_few.f k t n l) b ∧ (b = true → 1 ≤ n.length ∧ t.length + n.length ≤ 80 ∧ l.length ≤ 100 ∧ ∀ p ∈ l, prFit t.length ((t.length + n.length : Nat) : Int) p) := by
  obtain ⟨h1, h2, h3, h4⟩ := ok_bounds h
  obtain ⟨b1, e1⟩ := light_Ev t n l h3
  unfold bramblelaw10_few.f
  cases b1 with
  | false => exact ⟨false, Ev.bind e1 (by simp only [Bool.false_eq_true, if_false]; exact Ev.now _), fun h => nomatch h⟩
  | true =>
    obtain ⟨b2, e2, g2⟩ := fit_Ev t n l h1 h2 h3 h4
    cases b2 with
    | false => exact ⟨false, Ev.bind e1 (by simp only [if_true]; exact Ev.bind e2 (by simp only [Bool.false_eq_true, if_false]; exact Ev.now _)), fun h => nomatch h⟩
    | true =>
      obtain ⟨q1, q2, q3, q4⟩ := g2 rfl
      have hw := w64 (x := (t.length : Int) + (n.length : Int)) (by omega) (by omega)
      by_cases c : (t.length : Int) + (n.length : Int) ≤ 80
      · refine ⟨decide ((l.length : Int) ≤ 100), Ev.bind e1 (by simp only [if_true]; exact Ev.bind e2 (by simp only [if_true, hw, if_pos c]; exact Ev.now _)), fun hb => ⟨q1, by omega, by have := of_decide_eq_true hb; omega, q4⟩⟩
      · exact ⟨false, Ev.bind e1 (by simp only [if_true]; exact Ev.bind e2 (by simp only [if_true, hw, if_neg c]; exact Ev.now _)), fun h => nomatch h⟩
theorem flOk_of {t n : List ByteArray} {l : List S40} (h1 : 1 ≤ n.length) (h2 : t.length + n.length ≤ 999999) (h3 : ∀ p ∈ l, prFit t.length ((t.length + n.length : Nat) : Int) p) : flOk (t.length + n.length) n.length (l.map prE) = true := by
  simp only [flOk, Bool.and_eq_true, decide_eq_true_eq, List.all_eq_true]
  refine ⟨⟨h2, h1⟩, fun q hq => ?_⟩
  obtain ⟨p, hp, rfl⟩ := List.mem_map.1 hq
  obtain ⟨g1, g2, g3, g4⟩ := h3 p hp
  refine ⟨⟨⟨show 0 ≤ p.f0 by omega, g2⟩, ?_⟩, fun i hi => ?_⟩
  · show (p.f1.map itE).length ≤ 1000
    rw [List.length_map]
    omega
  · obtain ⟨x, hx, rfl⟩ := List.mem_map.1 hi
    exact g4 x hx
/-- What the sets of a fit grammar are. -/
structure SetsOf (t n : List ByteArray) (l : List S40) (em us : List Bool) (Ss FS : List (List Int)) : Prop where
  ok : ∀ p ∈ l.map prE, PrOk (t.length + n.length) p
  eE : Ev (fun k => growV stepD (l.map prE) k (List.replicate (t.length + n.length) false)) em
  eU : Ev (fun k => growV stepD (l.map prE) k (ups (t.length + n.length) t.length)) us
  eF : Ev (fun k => growV (stepF (t.length + n.length) em) (l.map prE) k (initV (t.length + n.length) t.length)) Ss
  eL : Ev (fun k => growV (stepL (t.length + n.length) t.length em Ss) (l.map prE) k (initL (t.length + n.length) t.length)) FS
  lE : em.length = t.length + n.length
  lU : us.length = t.length + n.length
  iF : Inv (t.length + n.length) Ss
  iL : Inv (t.length + n.length) FS
  cE : ∀ p ∈ l.map prE, (stepD em p).2 = false
  cU : ∀ p ∈ l.map prE, (stepD us p).2 = false
  cF : ∀ p ∈ l.map prE, (stepF (t.length + n.length) em Ss p).2 = false
  cL : ∀ p ∈ l.map prE, (stepL (t.length + n.length) t.length em Ss FS p).2 = false
  qE : ∀ Q : List Bool → Prop, (∀ s p, p ∈ l.map prE → s.length = t.length + n.length → Q s → Q (stepD s p).1) → Q (List.replicate (t.length + n.length) false) → Q em
  qU : ∀ Q : List Bool → Prop, (∀ s p, p ∈ l.map prE → s.length = t.length + n.length → Q s → Q (stepD s p).1) → Q (ups (t.length + n.length) t.length) → Q us
  qF : ∀ Q : List (List Int) → Prop, (∀ s p, p ∈ l.map prE → Inv (t.length + n.length) s → Q s → Q (stepF (t.length + n.length) em s p).1) → Q (initV (t.length + n.length) t.length) → Q Ss
  qL : ∀ Q : List (List Int) → Prop, (∀ s p, p ∈ l.map prE → Inv (t.length + n.length) s → Q s → Q (stepL (t.length + n.length) t.length em Ss s p).1) → Q (initL (t.length + n.length) t.length) → Q FS
theorem inv_initL {N n0 : Nat} (hN : N ≤ 1000000) (h : n0 < N) : Inv N (initL N n0) := by
  refine ⟨fun S hS => ?_, by simp [initL], fun S hS => ?_⟩
  · rcases List.mem_or_eq_of_mem_set hS with hS | rfl
    · rw [List.eq_of_mem_replicate hS]
      exact List.Pairwise.nil
    · exact List.pairwise_singleton _ _
  · rcases List.mem_or_eq_of_mem_set hS with hS | rfl
    · rw [List.eq_of_mem_replicate hS]
      exact fun _ h => nomatch h
    · intro x hx
      rw [List.mem_singleton] at hx
      omega
theorem setsOf {t n : List ByteArray} {l : List S40} (h1 : 1 ≤ n.length) (h2 : t.length + n.length ≤ 999999) (h3 : ∀ p ∈ l, prFit t.length ((t.length + n.length : Nat) : Int) p) : ∃ em us Ss FS, SetsOf t n l em us Ss FS := by
  have ok : ∀ p ∈ l.map prE, PrOk (t.length + n.length) p := fun p hp => (flOk_ps (flOk_of h1 h2 h3) p hp).1
  obtain ⟨em, a1, a2, a3, a4⟩ := grow_ends (steps_D ok) _ (List.replicate (t.length + n.length) false) (by simp) (Nat.lt_succ_self _)
  obtain ⟨us, b1, b2, b3, b4⟩ := grow_ends (steps_D ok) _ (ups (t.length + n.length) t.length) (by unfold ups; simp) (Nat.lt_succ_self _)
  obtain ⟨Ss, c1, c2, c3, c4⟩ := grow_ends (steps_F (em := em) ok) _ (initV (t.length + n.length) t.length) (Inv.init (by omega)) (Nat.lt_succ_self _)
  obtain ⟨FS, d1, d2, d3, d4⟩ := grow_ends (steps_L (n0 := t.length) (em := em) c2 ok) _ (initL (t.length + n.length) t.length) (inv_initL (by omega) (by omega)) (Nat.lt_succ_self _)
  exact ⟨em, us, Ss, FS, ok, grow_Ev a1, grow_Ev b1, grow_Ev c1, grow_Ev d1, a2, b2, c2, d2, a3, b3, c3, d3, a4, b4, c4, d4⟩
theorem ahV_len {N : Nat} {em : List Bool} {Ss : List (List Int)} (hI : Inv N Ss) (B : List Int) : ∀ l : List Fl.I, (ahV N em Ss l B).length ≤ B.length + l.length * 1000000
  | [] => by simp [ahV]
  | i :: t => by
    have h1 := ahV_len (em := em) hI B t
    have h2 := hI.len i.1.toNat
    have h3 := Refs.unionV_le (Ss.getD i.1.toNat []) (ahV N em Ss t B)
    obtain ⟨q, hq⟩ : ∃ q, t.length * 1000000 = q := ⟨_, rfl⟩
    rw [hq] at h1
    simp only [ahV]
    rw [List.length_cons, Nat.add_mul, Nat.one_mul, hq]
    have e3 : (unionV (ahV N em Ss t B) (Ss.getD i.1.toNat [])).length ≤ B.length + (q + 1000000) := Nat.le_trans h3 (Nat.le_trans (Nat.add_le_add h1 h2) (by rw [Nat.add_assoc]; exact Nat.le_refl _))
    have e2 : (Ss.getD i.1.toNat []).length ≤ B.length + (q + 1000000) := Nat.le_trans h2 (Nat.le_trans (Nat.le_add_left _ q) (Nat.le_add_left _ _))
    have e1 : (ahV N em Ss t B).length ≤ B.length + (q + 1000000) := Nat.le_trans h1 (Nat.add_le_add_left (Nat.le_add_right _ _) _)
    split
    · split
      · exact e3
      · exact e2
    · exact e1
theorem inv_getD {N : Nat} {FS : List (List Int)} (h : Inv N FS) (i : Nat) : (FS.getD i []).length ≤ 1000000 := h.len i
end
section
open Go.Proofs.Ytkfpmolplemdlaa.Grow Go.Proofs.Ytkfpmolplemdlaa.Deri Go.Proofs.Ytkfpmolplemdlaa.Begin Go.Proofs.Ytkfpmolplemdlaa.Begun Go.Proofs.Ytkfpmolplemdlaa.Foll Go.Proofs.Ytkfpmolplemdlaa.FollB Go.Proofs.Ytkfpmolplemdlaa.MSet Go.Proofs.Ytkfpmolplemdlaa.RRow
/-- All numbers of all sets lie below M. -/
def Under (M : Int) (FS : List (List Int)) : Prop := ∀ S ∈ FS, ∀ x ∈ S, 0 ≤ x ∧ x < M
theorem Under.at {M : Int} {FS : List (List Int)} (h : Under M FS) (i : Nat) : ∀ x ∈ FS.getD i [], 0 ≤ x ∧ x < M := by
  rcases getD_mem (FS := FS) (i := i) with e | e
  · rw [e]; exact fun _ h => nomatch h
  · exact h _ e
theorem Under.set {M : Int} {FS : List (List Int)} (h : Under M FS) (i : Nat) {X : List Int} (hX : ∀ x ∈ X, 0 ≤ x ∧ x < M) : Under M (FS.set i X) := fun S hS => by
  rcases List.mem_or_eq_of_mem_set hS with hS | rfl
  · exact h S hS
  · exact hX
theorem rises_few : ∀ {S : List Int} (lo M : Int), Rises S → (∀ x ∈ S, lo ≤ x ∧ x < M) → lo ≤ M → (S.length : Int) ≤ M - lo
  | [], lo, M, _, _, h => by simp; omega
  | a :: t, lo, M, h, hb, _ => by
    obtain ⟨h1, h2⟩ := List.pairwise_cons.1 h
    have ha := hb a (by simp)
    have := rises_few (S := t) (a + 1) M h2 (fun x hx => ⟨by have := h1 x hx; omega, (hb x (by simp [hx])).2⟩) (by omega)
    rw [List.length_cons]
    omega
theorem ahV_und {N : Nat} {M : Int} {em : List Bool} {Ss : List (List Int)} {B : List Int} (l : List Fl.I) (hS : Under M Ss) (hB : ∀ x ∈ B, 0 ≤ x ∧ x < M) : ∀ x ∈ ahV N em Ss l B, 0 ≤ x ∧ x < M := fun x hx => by
  rcases ahV_sub N em Ss B x l hx with h | ⟨S, h1, h2⟩
  · exact hB x h
  · exact hS S h1 x h2
theorem unionV_und {M : Int} {A B : List Int} (hA : ∀ x ∈ A, 0 ≤ x ∧ x < M) (hB : ∀ x ∈ B, 0 ≤ x ∧ x < M) : ∀ x ∈ unionV A B, 0 ≤ x ∧ x < M := fun x hx => ((unionV_mem x _ _).1 hx).elim (hB x) (hA x)
theorem folV_und {N n0 : Nat} {M : Int} {em : List Bool} {Ss : List (List Int)} (hS : Under M Ss) (left : Nat) : ∀ (l : List Fl.I) (s : List (List Int) × Bool), Under M s.1 → Under M (folV N n0 em Ss left l s).1
  | [], _, h => h
  | i :: t, s, h => by
    simp only [folV]
    split
    · exact folV_und hS left t s h
    · exact folV_und hS left t _ (h.set _ (unionV_und (h.at _) (ahV_und t hS (h.at _))))
theorem setsOf_und {t n : List ByteArray} {l : List S40} {em us : List Bool} {Ss FS : List (List Int)} (H : SetsOf t n l em us Ss FS) : Under ((t.length : Int) + 1) Ss ∧ Under ((t.length : Int) + 1) FS := by
  have h1 : Under ((t.length : Int) + 1) Ss := H.qF (Under ((t.length : Int) + 1)) (fun s p _ _ h => h.set _ (unionV_und (h.at _) (ahV_und _ h (fun _ h => nomatch h)))) (fun S hS x hx => by
    obtain ⟨q, hq, e⟩ := List.mem_iff_getElem.1 hS
    have := initV_get (S := S) (by rw [List.getElem?_eq_getElem hq, e])
    subst this
    split at hx
    · rw [List.mem_singleton] at hx; omega
    · exact nomatch hx)
  refine ⟨h1, H.qL (Under ((t.length : Int) + 1)) (fun s p _ _ h => folV_und h1 _ _ (s, false) h) (fun S hS x hx => ?_)⟩
  obtain ⟨q, hq, e⟩ := List.mem_iff_getElem.1 hS
  have := initL_get (S := S) (by rw [List.getElem?_eq_getElem hq, e])
  subst this
  split at hx
  · rw [List.mem_singleton] at hx; omega
  · exact nomatch hx
theorem under_len {M : Int} {FS : List (List Int)} {N : Nat} (hI : Inv N FS) (h : Under M FS) (hM : 0 ≤ M) (i : Nat) : ((FS.getD i []).length : Int) ≤ M := by
  have := rises_few 0 M (hI.rise i) (h.at i) hM
  omega
/-- Nothing is new: what is taken in was there. -/
theorem unionV_sub {A B : List Int} (h : unionV A B = A) : ∀ x ∈ B, x ∈ A := fun x hx => by
  rw [← h]
  exact (unionV_mem x _ _).2 (.inl hx)
theorem sub_unionV {A B : List Int} (hA : Rises A) (h : ∀ x ∈ B, x ∈ A) : unionV A B = A := rises_one (unionV_rises _ hA) hA (fun x => by
  rw [unionV_mem]
  exact ⟨fun g => g.elim (h x) id, .inr⟩)
theorem stepF_sub {N : Nat} {em : List Bool} {Ss : List (List Int)} {p : Fl.P} (h : (stepF N em Ss p).2 = false) : ∀ x ∈ ahV N em Ss p.2.1 [], x ∈ Ss.getD p.1.toNat [] := by
  have h4 := of_decide_eq_false h
  exact unionV_sub (unionV_id _ _ (by omega))
theorem ahV_pre {N : Nat} {em : List Bool} {Ss : List (List Int)} {B : List Int} (x : Fl.I) (t : List Fl.I) (y : Int) (hx : 0 ≤ x.1 ∧ x.1 < (N : Int)) (hy : y ∈ Ss.getD x.1.toNat []) : ∀ (pre : List Fl.I), ItOk N pre → (∀ i ∈ pre, at_ em i.1 = true) → y ∈ ahV N em Ss (pre ++ x :: t) B
  | [], _, _ => by
    simp only [List.nil_append, ahV]
    rw [if_pos hx]
    split
    · exact (unionV_mem y _ _).2 (.inl hy)
    · exact hy
  | i :: pre, ho, he => by
    simp only [List.cons_append, ahV]
    rw [if_pos (ho i (by simp)), if_pos (he i (by simp))]
    exact (unionV_mem y _ _).2 (.inr (ahV_pre x t y hx hy pre (fun j hj => ho j (by simp [hj])) (fun j hj => he j (by simp [hj]))))
theorem fol_closed {N n0 : Nat} {em : List Bool} {Ss FS : List (List Int)} (hS : Inv N Ss) (hF : Inv N FS) (left : Nat) : ∀ (l : List Fl.I) (c : Bool), ItOk N l → (folV N n0 em Ss left l (FS, c)).2 = false → ∀ pre i rest, l = pre ++ i :: rest → ¬ i.1 < (n0 : Int) → unionV (FS.getD i.1.toNat []) (ahV N em Ss rest (FS.getD left [])) = FS.getD i.1.toNat []
  | [], _, _, _, pre, i, rest, e, _ => by simp at e
  | a :: t, c, ho, h, pre, i, rest, e, hi => by
    simp only [folV] at h
    split at h
    · rename_i ha
      cases pre with
      | nil =>
        simp only [List.nil_append, List.cons.injEq] at e
        rw [e.1] at ha
        exact absurd ha hi
      | cons b pre =>
        simp only [List.cons_append, List.cons.injEq] at e
        exact fol_closed hS hF left t c (fun j hj => ho j (by simp [hj])) h pre i rest e.2 hi
    · have hIs : Inv N (FS.set a.1.toNat (unionV (FS.getD a.1.toNat []) (ahV N em Ss t (FS.getD left [])))) := hF.union _ (hF.rise _) (hF.bnd _) (ahV_bnd t hS.d (hF.bnd _))
      simp only [oneL] at h
      obtain ⟨h7, h8⟩ := (fol_go (n0 := n0) (em := em) hS left t _ (decide ((unionV (FS.getD a.1.toNat []) (ahV N em Ss t (FS.getD left []))).length > (FS.getD a.1.toNat []).length) || c) (fun j hj => ho j (by simp [hj])) hIs).2.2.2 h
      obtain ⟨h9, h10⟩ := Bool.or_eq_false_iff.1 h8
      have h11 := unionV_id (ahV N em Ss t (FS.getD left [])) (FS.getD a.1.toNat []) (by have := of_decide_eq_false h9; omega)
      cases pre with
      | nil =>
        simp only [List.nil_append, List.cons.injEq] at e
        obtain ⟨rfl, rfl⟩ := e
        exact h11
      | cons b pre =>
        simp only [List.cons_append, List.cons.injEq] at e
        rw [h9, h11, set_getD, Bool.false_or] at h
        exact fol_closed hS hF left t c (fun j hj => ho j (by simp [hj])) h pre i rest e.2 hi
end
section
open Go.Proofs.Ytkfpmolplemdlaa.Grow Go.Proofs.Ytkfpmolplemdlaa.Deri Go.Proofs.Ytkfpmolplemdlaa.Ahd Go.Proofs.Ytkfpmolplemdlaa.Begin Go.Proofs.Ytkfpmolplemdlaa.Begun Go.Proofs.Ytkfpmolplemdlaa.Foll Go.Proofs.Ytkfpmolplemdlaa.MSet
theorem stepD_closed {em : List Bool} {p : Fl.P} (h : (stepD em p).2 = false) (ha : ∀ i ∈ p.2.1, at_ em i.1 = true) : at_ em p.1 = true := by
  unfold stepD at h
  split at h
  · rename_i h3
    rw [Bool.or_eq_true] at h3
    rcases h3 with h3 | h3
    · exact h3
    · rw [List.any_eq_true] at h3
      obtain ⟨i, hi, hn⟩ := h3
      rw [ha i hi] at hn
      cases hn
  · cases h
theorem at_set (s : List Bool) (i : Nat) (j : Int) (h : at_ s j = true) : at_ (s.set i true) j = true := by
  show (s.set i true).getD j.toNat false = true
  have h : s.getD j.toNat false = true := h
  rw [List.getD_eq_getElem?_getD, List.getElem?_set]
  split
  · rename_i e
    subst e
    split
    · rfl
    · rename_i hl
      rw [List.getD_eq_getElem?_getD, List.getElem?_eq_none (by omega)] at h
      cases h
  · rw [← List.getD_eq_getElem?_getD]
    exact h
theorem ups_at {N j : Nat} {s : Int} (h : s.toNat < j) : at_ (ups N j) s = true := by
  show (ups N j).getD s.toNat false = true
  unfold ups
  rw [List.getD_eq_getElem?_getD, List.getElem?_append_left (by simpa using h), List.getElem?_replicate, if_pos h]
  rfl
theorem set_has (FS : List (List Int)) (i j : Nat) (X : List Int) (x : Int) (h : x ∈ FS.getD j []) (hX : ∀ y ∈ FS.getD i [], y ∈ X) : x ∈ (FS.set i X).getD j [] := by
  by_cases e : j = i
  · subst e
    by_cases hl : j < FS.length
    · rw [List.getD_eq_getElem?_getD, List.getElem?_set_self hl]
      exact hX x h
    · rw [List.set_eq_of_length_le (by omega)]
      exact h
  · rw [List.getD_eq_getElem?_getD, List.getElem?_set_ne (fun h => e h.symm), ← List.getD_eq_getElem?_getD]
    exact h
theorem initV_has {N n0 i : Nat} (h1 : i < n0) (h2 : i < N) : (i : Int) ∈ (initV N n0).getD i [] := by
  have hl : i < (initV N n0).length := by rw [initV_len]; exact h2
  rw [List.getD_eq_getElem?_getD, List.getElem?_eq_getElem hl]
  have := initV_get (List.getElem?_eq_getElem hl)
  show _ ∈ (initV N n0)[i]
  rw [this, if_pos h1]
  simp
theorem first_has {t n : List ByteArray} {l : List S40} {em us : List Bool} {Ss FS : List (List Int)} (H : SetsOf t n l em us Ss FS) : ∀ i, i < t.length → i < t.length + n.length → (i : Int) ∈ Ss.getD i [] := fun i h1 h2 =>
  H.qF (fun FS => (i : Int) ∈ FS.getD i []) (fun s p _ _ h => set_has _ _ _ _ _ h (fun y hy => (unionV_mem y _ _).2 (.inr hy))) (initV_has h1 h2)
theorem useful_has {t n : List ByteArray} {l : List S40} {em us : List Bool} {Ss FS : List (List Int)} (H : SetsOf t n l em us Ss FS) (s : Int) (hs : s.toNat < t.length) : at_ us s = true :=
  H.qU (fun b => at_ b s = true) (fun b p _ _ h => by
    unfold stepD
    split
    · exact h
    · exact at_set _ _ _ h) (ups_at hs)
theorem rd_memN (l : List Int) (i : Int) (h0 : 0 ≤ i) (h1 : i < l.length) : rd l i ∈ l := by
  show l.getD i.toNat _ ∈ l
  rw [List.getD_eq_getElem?_getD, List.getElem?_eq_getElem (show i.toNat < l.length by omega)]
  exact List.getElem_mem _
theorem of_Ev (t n : List ByteArray) (l : List S40) (sym : Int) (hl : l.length ≤ 100) : ∃ of, Ev (fun k => brambleref09_Of.f k t n l sym) of ∧ of.length ≤ 100 ∧ ∀ j ∈ of, 0 ≤ j ∧ j < (l.length : Int) ∧ (rd_T40 l j).f0 = sym := by
  have go : ∀ (d i : Nat) (acc : List Int), i + d = l.length → acc.length ≤ i → (∀ j ∈ acc, 0 ≤ j ∧ j < (l.length : Int) ∧ (rd_T40 l j).f0 = sym) → ∃ of, Ev (fun k => brambleref09_Of.l0 k sym acc (i : Int) t n l) of ∧ of.length ≤ l.length ∧ ∀ j ∈ of, 0 ≤ j ∧ j < (l.length : Int) ∧ (rd_T40 l j).f0 = sym := by
    intro d
    induction d with
    | zero =>
      intro i acc hi ha hm
      exact ⟨acc, evAt fun k => by simp only [brambleref09_Of.l0]; rw [if_neg (by omega)], by omega, hm⟩
    | succ d ih =>
      intro i acc hi ha hm
      by_cases e : (rd_T40 l (i : Int)).f0 = sym
      · obtain ⟨of, e1, e2, e3⟩ := ih (i + 1) (acc ++ [(i : Int)]) (by omega) (by rw [List.length_append]; simp; omega) (fun j hj => by
          rcases List.mem_append.1 hj with hj | hj
          · exact hm j hj
          · rw [List.mem_singleton] at hj
            subst hj
            exact ⟨by omega, by omega, e⟩)
        refine ⟨of, Ev.step (fun k => ?_) e1, e2, e3⟩
        simp only [brambleref09_Of.l0]
        rw [if_pos (by omega), if_pos (by omega), if_pos e, if_pos (by omega), w64 (x := (i : Int) + 1) (by omega) (by omega)]
        rfl
      · obtain ⟨of, e1, e2, e3⟩ := ih (i + 1) acc (by omega) (by omega) hm
        refine ⟨of, Ev.step (fun k => ?_) e1, e2, e3⟩
        simp only [brambleref09_Of.l0]
        rw [if_pos (by omega), if_pos (by omega), if_neg e, w64 (x := (i : Int) + 1) (by omega) (by omega)]
        rfl
  obtain ⟨of, e1, e2, e3⟩ := go l.length 0 [] (by omega) (by simp) (fun _ h => nomatch h)
  exact ⟨of, e1, by omega, e3⟩
/-- What the sets say of a row that a symbol derives. -/
def RowOk (em us : List Bool) (Ss : List (List Int)) (sym : Int) (m : List Int) : Prop := at_ us sym = true ∧ (m = [] → at_ em sym = true) ∧ (m ≠ [] → rd m 0 ∈ Ss.getD sym.toNat [])
theorem items_Ev {N : Nat} {em us : List Bool} {Ss : List (List Int)} {F : Int} (hF : F ≤ 60) {rec : Nat → Int → Int → Option (List Int × Bool × Int)}
    (Hrec : ∀ sym fu : Int, 0 ≤ sym → sym < (N : Int) → 0 ≤ fu → fu ≤ F → ∃ m ok f', Ev (fun k => rec k sym fu) (m, ok, f') ∧ -1 ≤ f' ∧ f' ≤ fu ∧ (m.length : Int) + 64 * f' ≤ 64 * fu + 1 ∧ (ok = true → 0 ≤ f' ∧ RowOk em us Ss sym m)) :
    ∀ (r : List S48) (acc : List Int) (fu : Int), (∀ x ∈ r, 0 ≤ x.f0 ∧ x.f0 < (N : Int)) → 0 ≤ fu → fu ≤ F → (acc.length : Int) + 64 * fu + r.length ≤ 10000 → ∃ m ok f', Ev (fun k => itemsV (rec k) r acc fu) (m, ok, f') ∧ -1 ≤ f' ∧ f' ≤ fu ∧ (m.length : Int) + 64 * f' ≤ acc.length + 64 * fu + r.length ∧
      (ok = true → 0 ≤ f' ∧ ∃ m2, m = acc ++ m2 ∧ (∀ x ∈ r, at_ us x.f0 = true) ∧ (m2 = [] → ∀ x ∈ r, at_ em x.f0 = true) ∧ (m2 ≠ [] → rd m2 0 ∈ ahV N em Ss (r.map itE) []))
  | [], acc, fu, _, h0, _, _ => by
    refine ⟨acc, true, fu, ?_, by omega, by omega, by simp only [List.length_nil]; omega, fun _ => ⟨h0, [], by simp, fun _ h => (nomatch h), fun _ _ h => (nomatch h), fun h => absurd rfl h⟩⟩
    simp only [itemsV]
    exact Ev.now _
  | x :: r, acc, fu, hx, h0, h1, hb => by
    obtain ⟨m, ok, f', e, a1, a2, a3, a4⟩ := Hrec x.f0 fu (hx x (by simp)).1 (hx x (by simp)).2 h0 h1
    rw [List.length_cons] at hb
    cases ok with
    | false =>
      refine ⟨[], false, f', ?_, a1, a2, by simp only [List.length_nil, List.length_cons]; omega, fun h => nomatch h⟩
      simp only [itemsV]
      refine Ev.bind e ?_
      simp only [Bool.false_eq_true, if_false]
      exact Ev.now _
    | true =>
      obtain ⟨b0, b1, b2, b3⟩ := a4 rfl
      obtain ⟨m', ok', f2, e', c1, c2, c3, c4⟩ := items_Ev hF Hrec r (acc ++ m) f' (fun y hy => hx y (by simp [hy])) b0 (by omega) (by rw [List.length_append]; omega)
      rw [List.length_append] at c3
      refine ⟨m', ok', f2, ?_, c1, by omega, by rw [List.length_cons]; omega, fun h => ?_⟩
      · simp only [itemsV]
        refine Ev.bind e ?_
        simp only [if_true]
        simp only [if_pos (show acc.length + m.length ≤ 1000000000 ∧ -1000 ≤ f' ∧ f' ≤ 1000 from by omega)]
        exact e'
      · obtain ⟨d0, m2, d1, d2, d3, d4⟩ := c4 h
        refine ⟨d0, m ++ m2, by rw [d1, List.append_assoc], fun y hy => ?_, fun he y hy => ?_, fun he => ?_⟩
        · rcases List.mem_cons.1 hy with rfl | hy
          · exact b1
          · exact d2 y hy
        · obtain ⟨q1, q2⟩ := List.append_eq_nil_iff.1 he
          rcases List.mem_cons.1 hy with rfl | hy
          · exact b2 q1
          · exact d3 q2 y hy
        · have hin : 0 ≤ (itE x).1 ∧ (itE x).1 < (N : Int) := hx x (by simp)
          simp only [List.map_cons, ahV]
          rw [if_pos hin]
          cases m with
          | nil =>
            rw [if_pos (show at_ em (itE x).1 = true from b2 rfl)]
            exact (unionV_mem _ _ _).2 (.inr (d4 he))
          | cons a m =>
            have hm : rd (a :: m ++ m2) 0 ∈ Ss.getD (itE x).1.toNat [] := b3 (by simp)
            split
            · exact (unionV_mem _ _ _).2 (.inl hm)
            · exact hm
theorem row_Ev {t n : List ByteArray} {l : List S40} {em us : List Bool} {Ss FS : List (List Int)} (H : SetsOf t n l em us Ss FS) (hl : l.length ≤ 100) (hfit : ∀ p ∈ l, prFit t.length ((t.length + n.length : Nat) : Int) p) (picks : List Int) :
    ∀ (d : Nat) (sym fu : Int), 0 ≤ sym → sym < ((t.length + n.length : Nat) : Int) → 0 ≤ fu → fu < d → fu ≤ 60 → ∃ m ok f', Ev (fun k => rowV k t n l picks d sym fu) (m, ok, f') ∧ -1 ≤ f' ∧ f' ≤ fu ∧ (m.length : Int) + 64 * f' ≤ 64 * fu + 1 ∧ (ok = true → 0 ≤ f' ∧ RowOk em us Ss sym m)
  | 0, sym, fu, _, _, h0, h1, _ => by omega
  | d + 1, sym, fu, hs0, hs1, h0, h1, h60 => by
    by_cases hs : sym < (t.length : Int)
    · refine ⟨[sym], true, fu, ?_, by omega, by omega, by simp; omega, fun _ => ⟨h0, useful_has H sym (by omega), fun h => (nomatch h), fun _ => ?_⟩⟩
      · simp only [rowV]
        simp only [if_pos hs]
        exact Ev.now _
      · have := first_has H sym.toNat (by omega) (by omega)
        rw [Int.toNat_of_nonneg hs0] at this
        exact this
    obtain ⟨of, eo, o1, o2⟩ := of_Ev t n l sym hl
    by_cases hz : fu - 1 < 0 ∨ of.length = 0
    · refine ⟨[], false, fu - 1, ?_, by omega, by omega, by simp only [List.length_nil]; omega, fun h => nomatch h⟩
      simp only [rowV, if_neg hs]
      refine Ev.bind eo ?_
      simp only [if_pos hz]
      exact Ev.now _
    obtain ⟨hz1, hz2⟩ := not_or.1 hz
    have hpk : 0 ≤ pickV picks (fu - 1) of.length ∧ pickV picks (fu - 1) of.length < of.length := by
      unfold pickV
      split
      · omega
      · exact ⟨Int.emod_nonneg _ (by omega), Int.emod_lt_of_pos _ (by omega)⟩
    have hof := o2 _ (rd_memN of _ hpk.1 hpk.2)
    obtain ⟨ix, hix⟩ : ∃ ix, rd of (pickV picks (fu - 1) of.length) = ix := ⟨_, rfl⟩
    rw [hix] at hof
    obtain ⟨x0, x1, x2⟩ := hof
    have hmem : rd_T40 l ix ∈ l := by
      have := rd40_mem l ix.toNat (by omega)
      rw [Int.toNat_of_nonneg x0] at this
      exact this
    obtain ⟨p, hp⟩ : ∃ p, rd_T40 l ix = p := ⟨_, rfl⟩
    rw [hp] at hmem x2
    obtain ⟨p1, p2, p3, p4⟩ := hfit p hmem
    obtain ⟨m, ok, f', e, a1, a2, a3, a4⟩ := items_Ev (N := t.length + n.length) (em := em) (us := us) (Ss := Ss) (F := fu - 1) (by omega) (rec := fun k => rowV k t n l picks d) (fun s' f0 g0 g1 g2 g3 => row_Ev H hl hfit picks d s' f0 g0 g1 g2 (by omega) (by omega)) p.f1 [] (fu - 1) p4 (by omega) (by omega) (by simp only [List.length_nil]; omega)
    simp only [List.length_nil] at a3
    refine ⟨m, ok, f', ?_, a1, by omega, by omega, fun h => ?_⟩
    · simp only [rowV, if_neg hs]
      refine Ev.bind eo ?_
      simp only [if_neg hz, if_pos hpk, hix]
      simp only [if_pos (And.intro x0 x1), hp]
      exact e
    · obtain ⟨b0, m2, b1, b2, b3, b4⟩ := a4 h
      rw [List.nil_append] at b1
      subst b1
      have hm : prE p ∈ l.map prE := List.mem_map_of_mem hmem
      have hsym : (prE p).1 = sym := x2
      refine ⟨b0, ?_, fun he => ?_, fun he => ?_⟩
      · rw [← hsym]
        exact stepD_closed (H.cU _ hm) (fun i hi => by
          obtain ⟨y, hy, rfl⟩ := List.mem_map.1 hi
          exact b2 y hy)
      · rw [← hsym]
        exact stepD_closed (H.cE _ hm) (fun i hi => by
          obtain ⟨y, hy, rfl⟩ := List.mem_map.1 hi
          exact b3 he y hy)
      · have := stepF_sub (H.cF _ hm) _ (b4 he)
        rw [hsym] at this
        exact this
theorem SetsDerive : bramblelaw10_SetsDerive.Pure := by
  intro s0 a1 l2 h0 h1 h2
  obtain ⟨t, n, l⟩ := s0
  suffices Ev (fun k => bramblelaw10_SetsDerive.f k t n l a1 l2) true by
    obtain ⟨K, h⟩ := this
    exact ⟨K, h K (Nat.le_refl _)⟩
  unfold bramblelaw10_SetsDerive.f
  obtain ⟨c, ec, gc⟩ := few_Ev h0
  refine Ev.bind ec ?_
  cases c with
  | false =>
    simp only [Bool.false_eq_true, if_false]
    exact Ev.now _
  | true =>
  simp only [if_true]
  by_cases hp : l2.length ≤ 1000
  rotate_left
  · simp only [if_neg hp]
    exact Ev.now _
  simp only [if_pos hp]
  obtain ⟨g1, g2, g3, g4⟩ := gc rfl
  obtain ⟨em, us, Ss, FS, H⟩ := setsOf g1 (by omega) g4
  have ok := flOk_of g1 (by omega) g4
  simp only [if_pos ok]
  obtain ⟨s, hs⟩ : ∃ s, symV a1 (t.length + n.length) = s := ⟨_, rfl⟩
  have hs0 : 0 ≤ s := by rw [← hs]; exact Int.emod_nonneg _ (by omega)
  have hs1 : s < ((t.length + n.length : Nat) : Int) := by rw [← hs]; exact Int.emod_lt_of_pos _ (by omega)
  simp only [hs]
  obtain ⟨m, mok, f', e, a1', a2, a3, a4⟩ := row_Ev H g3 g4 l2 62 s 60 hs0 hs1 (by omega) (by omega) (by omega)
  refine Ev.bind e ?_
  cases mok with
  | false =>
    simp only [Bool.false_eq_true, if_false]
    exact Ev.now _
  | true =>
    obtain ⟨_, r1, r2, r3⟩ := a4 rfl
    simp only [if_true]
    have e1 : Ev (fun k => sets_Empty.f k t n l) em := by
      unfold sets_Empty.f
      simp only [if_pos ok]
      exact H.eE
    have e3 : Ev (fun k => sets_Useful.f k t n l) us := by
      unfold sets_Useful.f
      simp only [if_pos ok]
      exact H.eU
    have e5 : Ev (fun k => sets_First.f k t n l) Ss := by
      unfold sets_First.f
      simp only [if_pos ok]
      exact Ev.bind H.eE H.eF
    refine Ev.bind e5 (Ev.bind e3 (Ev.bind e1 ?_))
    simp only [if_pos (show Ss.length = t.length + n.length ∧ us.length = t.length + n.length ∧ em.length = t.length + n.length ∧ at_ us s = true ∧ (m = [] → at_ em s = true) ∧ (m ≠ [] → rd m 0 ∈ Ss.getD s.toNat []) from ⟨H.iF.l, H.lU, H.lE, r1, r2, r3⟩)]
    exact Ev.now _
end

end Go.Proofs.Ytkfpmolplemdlaa.Pure
