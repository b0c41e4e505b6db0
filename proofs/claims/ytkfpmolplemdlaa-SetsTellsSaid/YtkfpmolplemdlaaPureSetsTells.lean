/- SetsTells: what can be empty, begin, and follow, is the document's. No condition. -/
import Derived.Test.YtkfpmolplemdlaaStaSetsTells
namespace Go.Proofs.Ytkfpmolplemdlaa.Pure
set_option linter.unusedVariables false
set_option linter.unusedSimpArgs false
open Go.RowKit Go.Proofs.Ytkfpmolplemdlaa.PSetsTells Go.Proofs.YtkfpmolplemdlaaW.PrintWords Go.Proofs.YtkfpmolplemdlaaW.PrintLast Go.Proofs.YtkfpmolplemdlaaW.PrintMore

theorem w64 {x : Int} (h1 : -9223372036854775808 ≤ x) (h2 : x ≤ 9223372036854775807) : wrap64 x = x := by
  unfold wrap64
  omega
theorem wf64 {x : Int} (h : (Lit.int .i64 x).wf = true) : -9223372036854775808 ≤ x ∧ x ≤ 9223372036854775807 := by
  simp only [Lit.wf, Bool.and_eq_true, decide_eq_true_eq] at h
  have e1 : IntKind.i64.min = -9223372036854775808 := rfl
  have e2 : IntKind.i64.max = 9223372036854775807 := rfl
  omega
theorem evAt {α : Type} {g : Nat → Option α} {r : α} (h : ∀ k, g (k + 1) = some r) : Ev g r := ⟨1, fun k hk => by obtain ⟨m, rfl⟩ : ∃ m, k = m + 1 := ⟨k - 1, by omega⟩; exact h m⟩
/-! ### Growing till nothing changes -/
section
open Go.Proofs.Ytkfpmolplemdlaa.Grow Go.Proofs.Ytkfpmolplemdlaa.Deri Go.Proofs.Ytkfpmolplemdlaa.Begin Go.Proofs.Ytkfpmolplemdlaa.Begun Go.Proofs.Ytkfpmolplemdlaa.Foll Go.Proofs.Ytkfpmolplemdlaa.FollB Go.Proofs.Ytkfpmolplemdlaa.MSet Go.Proofs.Ytkfpmolplemdlaa.RRow
variable {σ : Type} {step : σ → Fl.P → σ × Bool}
structure Steps (step : σ → Fl.P → σ × Bool) (ps : List Fl.P) (I : σ → Prop) (m : σ → Nat) (M : Nat) : Prop where
  keep : ∀ s p, p ∈ ps → I s → I (step s p).1
  up : ∀ s p, p ∈ ps → I s → (step s p).2 = true → m s < m (step s p).1
  no : ∀ s p, p ∈ ps → I s → (step s p).2 = false → (step s p).1 = s
  bound : ∀ s, I s → m s ≤ M
theorem rounds_go {ps : List Fl.P} {I : σ → Prop} {m : σ → Nat} {M : Nat} (h : Steps step ps I m M) : ∀ (qs : List Fl.P), (∀ p ∈ qs, p ∈ ps) → ∀ (s : σ) (b : Bool), I s →
    I (qs.foldl (roundV step) (s, b)).1 ∧ m s ≤ m (qs.foldl (roundV step) (s, b)).1 ∧ ((qs.foldl (roundV step) (s, b)).2 = true → b = true ∨ m s < m (qs.foldl (roundV step) (s, b)).1) ∧
    ((qs.foldl (roundV step) (s, b)).2 = false → (qs.foldl (roundV step) (s, b)).1 = s ∧ b = false ∧ ∀ p ∈ qs, (step s p).2 = false) ∧
    (∀ Q : σ → Prop, (∀ t p, p ∈ ps → I t → Q t → Q (step t p).1) → Q s → Q (qs.foldl (roundV step) (s, b)).1)
  | [], _, s, b, hs => ⟨hs, Nat.le_refl _, fun h => .inl h, fun h => ⟨rfl, h, fun _ hp => nomatch hp⟩, fun _ _ hq => hq⟩
  | p :: t, hq, s, b, hs => by
    have hp := hq p (by simp)
    have e : (p :: t).foldl (roundV step) (s, b) = t.foldl (roundV step) ((step s p).1, b || (step s p).2) := rfl
    rw [e]
    obtain ⟨h1, h2, h3, h4, h5⟩ := rounds_go h t (fun q hq' => hq q (by simp [hq'])) (step s p).1 (b || (step s p).2) (h.keep s p hp hs)
    have hle : m s ≤ m (step s p).1 := by
      cases c : (step s p).2 with
      | true => exact Nat.le_of_lt (h.up s p hp hs c)
      | false => rw [h.no s p hp hs c]; exact Nat.le_refl _
    refine ⟨h1, Nat.le_trans hle h2, fun hb => ?_, fun hb => ?_, fun Q hQ hs' => h5 Q hQ (hQ s p hp hs hs')⟩
    · rcases h3 hb with h6 | h6
      · cases c : (step s p).2 with
        | true => exact .inr (Nat.lt_of_lt_of_le (h.up s p hp hs c) (by rw [c] at h2; exact h2))
        | false => rw [c, Bool.or_false] at h6; exact .inl h6
      · exact .inr (Nat.lt_of_le_of_lt hle h6)
    · obtain ⟨h6, h7, h8⟩ := h4 hb
      obtain ⟨h9, h10⟩ := Bool.or_eq_false_iff.1 h7
      have h11 := h.no s p hp hs h10
      rw [h11] at h6 h8
      rw [h11]
      refine ⟨h6, h9, fun q hq' => ?_⟩
      rcases List.mem_cons.1 hq' with rfl | hq'
      · exact h10
      · exact h8 q hq'
/-- It comes to an end, where no production changes anything more; what every step keeps, the end has. -/
theorem grow_ends {ps : List Fl.P} {I : σ → Prop} {m : σ → Nat} {M : Nat} (h : Steps step ps I m M) : ∀ (d : Nat) (s : σ), I s → M - m s < d → ∃ r, growV step ps d s = some r ∧ I r ∧ (∀ p ∈ ps, (step r p).2 = false) ∧ (∀ Q : σ → Prop, (∀ t p, p ∈ ps → I t → Q t → Q (step t p).1) → Q s → Q r)
  | 0, _, _, hd => absurd hd (Nat.not_lt_zero _)
  | d + 1, s, hs, hd => by
    obtain ⟨h1, h2, h3, h4, h5⟩ := rounds_go h ps (fun p hp => hp) s false hs
    simp only [growV]
    show ∃ r, (if (ps.foldl (roundV step) (s, false)).2 = true then _ else some (ps.foldl (roundV step) (s, false)).1) = some r ∧ _
    split
    · rename_i hb
      rcases h3 hb with h6 | h6
      · cases h6
      · have := h.bound _ h1
        obtain ⟨r, g1, g2, g3, g4⟩ := grow_ends h d _ h1 (by omega)
        exact ⟨r, g1, g2, g3, fun Q hQ hs' => g4 Q hQ (h5 Q hQ hs')⟩
    · rename_i hb
      obtain ⟨h6, _, h8⟩ := h4 (by simpa using hb)
      exact ⟨_, rfl, h1, by rw [h6]; exact h8, h5⟩
theorem grow_up {ps : List Fl.P} : ∀ (k : Nat) (s r : σ), growV step ps k s = some r → growV step ps (k + 1) s = some r
  | 0, _, _, h => by simp [growV] at h
  | k + 1, s, r, h => by
    have e : ∀ k, growV step ps (k + 1) s = if (roundsV step ps s).2 = true then growV step ps k (roundsV step ps s).1 else some (roundsV step ps s).1 := fun _ => rfl
    rw [e] at h ⊢
    split
    · rename_i c
      rw [if_pos c] at h
      exact grow_up k _ _ h
    · rename_i c
      rw [if_neg c] at h
      exact h
theorem grow_Ev {ps : List Fl.P} {d : Nat} {s r : σ} (h : growV step ps d s = some r) : Ev (fun k => growV step ps k s) r := Ev.of (fun k => (fun r h => grow_up k s r h)) h
theorem cnt_set : ∀ (bs : List Bool) (i : Nat), i < bs.length → bs.getD i false = false → (bs.set i true).count true = bs.count true + 1
  | [], i, h, _ => by simp at h
  | b :: t, 0, _, hb => by
    have : b = false := hb
    subst this
    simp
  | b :: t, i + 1, h, hb => by
    have := cnt_set t i (by simpa using h) hb
    simp only [List.set_cons_succ, List.count_cons, this]
    omega
theorem steps_D {N : Nat} {ps : List Fl.P} (hps : ∀ p ∈ ps, PrOk N p) : Steps stepD ps (fun bs => bs.length = N) (fun bs => bs.count true) N := by
  refine ⟨fun s p _ hs => ?_, fun s p hp hs h => ?_, fun s p _ _ h => ?_, fun s hs => by rw [← hs]; exact List.count_le_length⟩
  · unfold stepD
    split
    · exact hs
    · rw [List.length_set]; exact hs
  · have h1 := (hps p hp).1
    have h2 := (hps p hp).2.1
    unfold stepD at h ⊢
    split at h
    · cases h
    · rename_i c
      rw [if_neg c]
      rw [Bool.not_eq_true, Bool.or_eq_false_iff] at c
      show _ < (s.set _ true).count true
      rw [cnt_set s p.1.toNat (by omega) c.1]
      omega
  · unfold stepD at h ⊢
    split
    · rfl
    · rename_i c
      rw [if_neg c] at h
      cases h
/-- The sets' sizes, in all. -/
def szs (FS : List (List Int)) : Nat := (FS.map List.length).sum
theorem szs_set : ∀ (FS : List (List Int)) (i : Nat) (X : List Int), i < FS.length → szs (FS.set i X) + (FS.getD i []).length = szs FS + X.length
  | [], i, _, h => by simp at h
  | S :: t, 0, X, _ => by simp [szs]; omega
  | S :: t, i + 1, X, h => by
    have := szs_set t i X (by simpa using h)
    simp only [szs, List.set_cons_succ, List.map_cons, List.sum_cons, List.getD_cons_succ] at *
    omega
theorem szs_le : ∀ (FS : List (List Int)), (∀ S ∈ FS, S.length ≤ 1000000) → szs FS ≤ FS.length * 1000000
  | [], _ => by simp [szs]
  | S :: t, h => by
    have h1 := h S (by simp)
    have h2 := szs_le t (fun T hT => h T (by simp [hT]))
    simp only [szs, List.map_cons, List.sum_cons, List.length_cons] at *
    omega
theorem inv_szs {N : Nat} {FS : List (List Int)} (h : Inv N FS) : szs FS ≤ N * 1000000 := by
  have := szs_le FS (fun S hS => by
    obtain ⟨i, hi, rfl⟩ := List.mem_iff_getElem.1 hS
    have := h.len i
    rwa [List.getD_eq_getElem?_getD, List.getElem?_eq_getElem hi] at this)
  rwa [h.l] at this
theorem putV_grow (x : Int) : ∀ l : List Int, putV l x = l ∨ (putV l x).length = l.length + 1
  | [] => .inr rfl
  | a :: t => by
    simp only [putV]
    split
    · exact .inr rfl
    · split
      · exact .inl rfl
      · rcases putV_grow x t with h | h
        · exact .inl (by rw [h])
        · exact .inr (by simp [h])
theorem unionV_ge : ∀ (xs l : List Int), l.length ≤ (unionV l xs).length
  | [], l => Nat.le_refl _
  | x :: t, l => by
    have h1 := unionV_ge t (putV l x)
    have h2 : l.length ≤ (putV l x).length := by rcases putV_grow x l with h | h <;> rw [h] <;> omega
    exact Nat.le_trans h2 h1
theorem unionV_id : ∀ (xs l : List Int), (unionV l xs).length ≤ l.length → unionV l xs = l
  | [], l, _ => rfl
  | x :: t, l, h => by
    have e : unionV l (x :: t) = unionV (putV l x) t := rfl
    rw [e] at h ⊢
    have h1 := unionV_ge t (putV l x)
    rcases putV_grow x l with h2 | h2
    · rw [h2] at h ⊢
      exact unionV_id t l h
    · omega
theorem set_getD (FS : List (List Int)) (i : Nat) : FS.set i (FS.getD i []) = FS := by
  by_cases h : i < FS.length
  · rw [List.getD_eq_getElem?_getD, List.getElem?_eq_getElem h]
    exact List.set_getElem_self _
  · exact List.set_eq_of_length_le (by omega)
theorem steps_F {N : Nat} {em : List Bool} {ps : List Fl.P} (hps : ∀ p ∈ ps, PrOk N p) : Steps (stepF N em) ps (Inv N) szs (N * 1000000) := by
  refine ⟨fun s p _ hs => Inv.stepF hs, fun s p hp hs h => ?_, fun s p _ _ h => ?_, fun s hs => inv_szs hs⟩
  · have h1 := (hps p hp).1
    have h2 := (hps p hp).2.1
    have h3 := szs_set s p.1.toNat (unionV (s.getD p.1.toNat []) (ahV N em s p.2.1 [])) (by rw [hs.l]; omega)
    have h4 := of_decide_eq_true h
    show szs s < szs (s.set _ _)
    omega
  · have h4 := of_decide_eq_false h
    have h5 := unionV_id (ahV N em s p.2.1 []) (s.getD p.1.toNat []) (by omega)
    show s.set _ _ = s
    rw [h5, set_getD]
theorem ahV_bnd {N : Nat} {em : List Bool} {Ss : List (List Int)} {B : List Int} (l : List Fl.I) (hS : Bd Ss) (hB : ∀ x ∈ B, 0 ≤ x ∧ x < 1000000) : ∀ x ∈ ahV N em Ss l B, 0 ≤ x ∧ x < 1000000 := fun x hx => by
  rcases ahV_sub N em Ss B x l hx with h | ⟨S, h1, h2⟩
  · exact hB x h
  · exact hS S h1 x h2
theorem fol_go {N n0 : Nat} {em : List Bool} {Ss : List (List Int)} (hS : Inv N Ss) (left : Nat) : ∀ (l : List Fl.I) (FS : List (List Int)) (c : Bool), ItOk N l → Inv N FS →
    Inv N (folV N n0 em Ss left l (FS, c)).1 ∧ szs FS ≤ szs (folV N n0 em Ss left l (FS, c)).1 ∧ ((folV N n0 em Ss left l (FS, c)).2 = true → c = true ∨ szs FS < szs (folV N n0 em Ss left l (FS, c)).1) ∧ ((folV N n0 em Ss left l (FS, c)).2 = false → (folV N n0 em Ss left l (FS, c)).1 = FS ∧ c = false)
  | [], FS, c, _, h => ⟨h, Nat.le_refl _, fun h => .inl h, fun h => ⟨rfl, h⟩⟩
  | i :: t, FS, c, ho, h => by
    simp only [folV]
    split
    · exact fol_go hS left t FS c (fun j hj => ho j (by simp [hj])) h
    · have hi := ho i (by simp)
      have hI : Inv N (FS.set i.1.toNat (unionV (FS.getD i.1.toNat []) (ahV N em Ss t (FS.getD left [])))) := h.union _ (h.rise _) (h.bnd _) (ahV_bnd t hS.d (h.bnd _))
      have h3 := szs_set FS i.1.toNat (unionV (FS.getD i.1.toNat []) (ahV N em Ss t (FS.getD left []))) (by rw [h.l]; omega)
      have h6 := unionV_ge (ahV N em Ss t (FS.getD left [])) (FS.getD i.1.toNat [])
      simp only [oneL]
      obtain ⟨g1, g2, g3, g4⟩ := fol_go (n0 := n0) (em := em) hS left t _ (decide ((unionV (FS.getD i.1.toNat []) (ahV N em Ss t (FS.getD left []))).length > (FS.getD i.1.toNat []).length) || c) (fun j hj => ho j (by simp [hj])) hI
      refine ⟨g1, by omega, fun hb => ?_, fun hb => ?_⟩
      · rcases g3 hb with h7 | h7
        · rcases Bool.or_eq_true _ _ |>.mp h7 with h8 | h8
          · have := of_decide_eq_true h8
            exact .inr (by omega)
          · exact .inl h8
        · exact .inr (by omega)
      · obtain ⟨h7, h8⟩ := g4 hb
        obtain ⟨h9, h10⟩ := Bool.or_eq_false_iff.1 h8
        have h11 := unionV_id (ahV N em Ss t (FS.getD left [])) (FS.getD i.1.toNat []) (by have := of_decide_eq_false h9; omega)
        rw [h7, h11, set_getD]
        exact ⟨rfl, h10⟩
theorem steps_L {N n0 : Nat} {em : List Bool} {Ss : List (List Int)} {ps : List Fl.P} (hS : Inv N Ss) (hps : ∀ p ∈ ps, PrOk N p) : Steps (stepL N n0 em Ss) ps (Inv N) szs (N * 1000000) := by
  refine ⟨fun s p hp hs => ?_, fun s p hp hs h => ?_, fun s p hp hs h => ?_, fun s hs => inv_szs hs⟩
  · exact (fol_go hS p.1.toNat p.2.1 s false (hps p hp).2.2 hs).1
  · rcases (fol_go hS p.1.toNat p.2.1 s false (hps p hp).2.2 hs).2.2.1 h with h | h
    · cases h
    · exact h
  · exact ((fol_go hS p.1.toNat p.2.1 s false (hps p hp).2.2 hs).2.2.2 h).1
end
/-! ### The same is the same -/
theorem bools_refl (l : List Bool) (hl : l.length ≤ 1000000) : Ev (fun k => brambleref10_Bools.f k l l) true := by
  have go : ∀ (d i : Nat), i + d = l.length → Ev (fun k => brambleref10_Bools.l0 k l l (i : Int)) true := by
    intro d
    induction d with
    | zero =>
      intro i hi
      exact evAt fun k => by simp only [brambleref10_Bools.l0]; rw [if_neg (by omega)]
    | succ d ih =>
      intro i hi
      refine Ev.step (fun k => ?_) (ih (i + 1) (by omega))
      simp only [brambleref10_Bools.l0]
      rw [if_pos (by omega), if_pos (by omega), if_pos (by omega), if_neg (by simp), w64 (x := (i : Int) + 1) (by omega) (by omega)]
      rfl
  unfold brambleref10_Bools.f
  simp only [if_pos]
  exact go l.length 0 (by omega)
theorem ints_refl (l : List Int) (hl : l.length ≤ 100000000000000) : Ev (fun k => brambleref10_Ints.f k l l) true := by
  have go : ∀ (d i : Nat), i + d = l.length → Ev (fun k => brambleref10_Ints.l0 k l l (i : Int)) true := by
    intro d
    induction d with
    | zero =>
      intro i hi
      exact evAt fun k => by simp only [brambleref10_Ints.l0]; rw [if_neg (by omega)]
    | succ d ih =>
      intro i hi
      refine Ev.step (fun k => ?_) (ih (i + 1) (by omega))
      simp only [brambleref10_Ints.l0]
      rw [if_pos (by omega), if_pos (by omega), if_pos (by omega), if_pos trivial, w64 (x := (i : Int) + 1) (by omega) (by omega)]
      rfl
  unfold brambleref10_Ints.f
  simp only [if_pos]
  exact go l.length 0 (by omega)
theorem rows_refl (l : List (List Int)) (hl : l.length ≤ 1000000) (hs : ∀ i : Nat, (l.getD i []).length ≤ 1000000) : Ev (fun k => brambleref10_Rows.f k l l) true := by
  have go : ∀ (d i : Nat), i + d = l.length → Ev (fun k => brambleref10_Rows.l0 k l l (i : Int)) true := by
    intro d
    induction d with
    | zero =>
      intro i hi
      exact evAt fun k => by simp only [brambleref10_Rows.l0]; rw [if_neg (by omega)]
    | succ d ih =>
      intro i hi
      refine Ev.step (f := fun k => (brambleref10_Ints.f k (l.getD i []) (l.getD i [])).bind fun t => if t = true then brambleref10_Rows.l0 k l l ((i + 1 : Nat) : Int) else some false) (fun k => ?_) (Ev.bind (ints_refl _ (Nat.le_trans (hs i) (by omega))) ?_)
      · simp only [brambleref10_Rows.l0]
        rw [if_pos (by omega), if_pos (by omega), if_pos (by omega), w64 (x := (i : Int) + 1) (by omega) (by omega)]
        rfl
      · simp only [if_pos]
        exact ih (i + 1) (by omega)
  unfold brambleref10_Rows.f
  simp only [if_pos]
  exact go l.length 0 (by omega)
/-! ### Which plain grammars are let in -/
theorem rd40_drop (l : List S40) (i : Nat) (h : i < l.length) : l.drop i = rd_T40 l (i : Int) :: l.drop (i + 1) := by
  rw [List.drop_eq_getElem_cons h]
  congr 1
  show _ = l.getD ((i : Int)).toNat z40
  rw [Int.toNat_natCast, List.getD_eq_getElem?_getD, List.getElem?_eq_getElem h]
  rfl
theorem rd48_drop (l : List S48) (i : Nat) (h : i < l.length) : l.drop i = rd_T48 l (i : Int) :: l.drop (i + 1) := by
  rw [List.drop_eq_getElem_cons h]
  congr 1
  show _ = l.getD ((i : Int)).toNat z48
  rw [Int.toNat_natCast, List.getD_eq_getElem?_getD, List.getElem?_eq_getElem h]
  rfl
theorem rd40_mem (l : List S40) (i : Nat) (h : i < l.length) : rd_T40 l (i : Int) ∈ l := by
  have := rd40_drop l i h
  exact List.mem_of_mem_drop (i := i) (by rw [this]; simp)
theorem rd48_mem (l : List S48) (i : Nat) (h : i < l.length) : rd_T48 l (i : Int) ∈ l := by
  have := rd48_drop l i h
  exact List.mem_of_mem_drop (i := i) (by rw [this]; simp)
theorem light_Ev (t n : List ByteArray) (l : List S40) (hl : l.length ≤ 100000000000000) : ∃ b, Ev (fun k => brambleref09_Light.f k t n l) b := by
  have go : ∀ (d i : Nat) (x : Int), i + d = l.length → ∃ b, Ev (fun k => brambleref09_Light.l0 k x (i : Int) t n l) b := by
    intro d
    induction d with
    | zero =>
      intro i x hi
      exact ⟨_, evAt fun k => by simp only [brambleref09_Light.l0]; rw [if_neg (by omega)]⟩
    | succ d ih =>
      intro i x hi
      by_cases hx : x ≥ 0
      · obtain ⟨b, e⟩ := ih (i + 1) (wrap64 ((wrap64 (x - 1)) - (((rd_T40 l i).f1).length : Int))) (by omega)
        refine ⟨b, Ev.step (fun k => ?_) e⟩
        simp only [brambleref09_Light.l0]
        rw [if_pos (by omega), if_pos hx, if_pos (by omega), w64 (x := (i : Int) + 1) (by omega) (by omega)]
        rfl
      · exact ⟨_, evAt fun k => by simp only [brambleref09_Light.l0]; rw [if_pos (by omega), if_neg hx]⟩
  exact go l.length 0 _ (by omega)
theorem titles_Ev (l : List ByteArray) (hl : l.length ≤ 100000000000000) : ∃ b, Ev (fun k => brambleref09_titles.f k l) b := by
  have go : ∀ (d i : Nat), i + d = l.length → ∃ b, Ev (fun k => brambleref09_titles.l0 k l (i : Int)) b := by
    intro d
    induction d with
    | zero =>
      intro i hi
      exact ⟨_, evAt fun k => by simp only [brambleref09_titles.l0]; rw [if_neg (by omega)]⟩
    | succ d ih =>
      intro i hi
      by_cases h1 : (rdOf ByteArray.empty l (i : Int)).toList = ([] : List UInt8)
      · exact ⟨_, evAt fun k => by simp only [brambleref09_titles.l0]; rw [if_pos (by omega), if_pos (by omega), if_pos h1]⟩
      · by_cases h2 : ((rdOf ByteArray.empty l (i : Int)).size : Int) > 80
        · exact ⟨_, evAt fun k => by simp only [brambleref09_titles.l0]; rw [if_pos (by omega), if_pos (by omega), if_neg h1, if_pos h2]⟩
        · obtain ⟨b, e⟩ := ih (i + 1) (by omega)
          refine ⟨b, Ev.step (fun k => ?_) e⟩
          simp only [brambleref09_titles.l0]
          rw [if_pos (by omega), if_pos (by omega), if_neg h1, if_neg h2, w64 (x := (i : Int) + 1) (by omega) (by omega)]
          rfl
  exact go l.length 0 (by omega)
theorem letter_some (a : Int) : ∃ b, brambleref07_letter.f a = some b := by
  unfold brambleref07_letter.f
  repeat' split
  all_goals exact ⟨_, rfl⟩
theorem digit_some (a : Int) : ∃ b, brambleref07_digit.f a = some b := by
  unfold brambleref07_digit.f
  repeat' split
  all_goals exact ⟨_, rfl⟩
theorem name7_Ev (s : ByteArray) (hs : s.size ≤ 1000000000000000) : ∃ b, Ev (fun k => brambleref07_Name.f k s) b := by
  have go : ∀ (d i : Nat), i + d = s.size → ∃ b, Ev (fun k => brambleref07_Name.l0 k s (i : Int)) b := by
    intro d
    induction d with
    | zero =>
      intro i hi
      by_cases h : s.toList = ([] : List UInt8)
      · exact ⟨_, evAt fun k => by simp only [brambleref07_Name.l0]; rw [if_neg (by omega), if_pos h]⟩
      · exact ⟨_, evAt fun k => by simp only [brambleref07_Name.l0]; rw [if_neg (by omega), if_neg h]⟩
    | succ d ih =>
      intro i hi
      obtain ⟨b, e⟩ := ih (i + 1) (by omega)
      have hw := w64 (x := (i : Int) + 1) (by omega) (by omega)
      obtain ⟨c, hc⟩ := letter_some (bt s (i : Int))
      obtain ⟨c2, hc2⟩ := digit_some (bt s (i : Int))
      cases c with
      | true =>
        refine ⟨b, Ev.step (fun k => ?_) e⟩
        simp only [brambleref07_Name.l0]
        rw [if_pos (by omega), if_pos (by omega), hc, hw]
        rfl
      | false =>
        by_cases h0 : (i : Int) = 0
        · refine ⟨false, evAt fun k => ?_⟩
          simp only [brambleref07_Name.l0]
          rw [if_pos (by omega), if_pos (by omega), hc]
          simp only [Option.bind_some, Bool.false_eq_true, if_false]
          rw [if_pos h0]
        · cases c2 with
          | true =>
            refine ⟨b, Ev.step (fun k => ?_) e⟩
            simp only [brambleref07_Name.l0]
            rw [if_pos (by omega), if_pos (by omega), hc, hw]
            simp only [Option.bind_some, Bool.false_eq_true, if_false]
            rw [if_neg h0, hc2]
            rfl
          | false =>
            refine ⟨false, evAt fun k => ?_⟩
            simp only [brambleref07_Name.l0]
            rw [if_pos (by omega), if_pos (by omega), hc]
            simp only [Option.bind_some, Bool.false_eq_true, if_false]
            rw [if_neg h0, hc2]
            rfl
  exact go s.size 0 (by omega)
theorem name9_Ev (s : ByteArray) (hs : s.size ≤ 1000000000000000) : ∃ b, Ev (fun k => brambleref09_Name.f k s) b := by
  unfold brambleref09_Name.f
  by_cases h : s.toList = ([] : List UInt8)
  · exact ⟨true, by simp only [if_pos h]; exact Ev.now _⟩
  · obtain ⟨b, e⟩ := name7_Ev s hs
    exact ⟨b, by simp only [if_neg h]; exact Ev.bind e (Ev.now _)⟩
/-- A production as a fit grammar has it. -/
def prFit (t : Nat) (n : Int) (p : S40) : Prop := (t : Int) ≤ p.f0 ∧ p.f0 < n ∧ p.f1.length ≤ 64 ∧ ∀ x ∈ p.f1, 0 ≤ x.f0 ∧ x.f0 < n
theorem fit_items (t n : List ByteArray) (l : List S40) (x3 : Int) (i : Nat) (p : S40) (hp : p.f1.length ≤ 100000000000000) (hok : ∀ x ∈ p.f1, x.f1.size ≤ 1000000000000000 ∧ x.f2.size ≤ 1000000000000000) (hi : i ≤ 100000000000000)
    (Pr : Prop) (hn : ∃ b, Ev (fun k => brambleref09_Fit.l0 k x3 ((i + 1 : Nat) : Int) t n l) b ∧ (b = true → Pr)) :
    ∀ (d j : Nat), j + d = p.f1.length → ∃ b, Ev (fun k => brambleref09_Fit.l1 k x3 (i : Int) (j : Int) t n l p.f0 p.f1 p.f2) b ∧ (b = true → Pr ∧ ∀ x ∈ p.f1.drop j, 0 ≤ x.f0 ∧ x.f0 < x3) := by
  intro d
  induction d with
  | zero =>
    intro j hj
    obtain ⟨b, e, g⟩ := hn
    refine ⟨b, Ev.step (fun k => ?_) e, fun hb => ⟨g hb, fun x hx => ?_⟩⟩
    · simp only [brambleref09_Fit.l1]
      rw [if_neg (by omega), w64 (x := (i : Int) + 1) (by omega) (by omega)]
      rfl
    · rw [List.drop_of_length_le (by omega)] at hx
      exact nomatch hx
  | succ d ih =>
    intro j hj
    have hx := hok _ (rd48_mem p.f1 j (by omega))
    by_cases h1 : (rd_T48 p.f1 (j : Int)).f0 < 0
    · exact ⟨false, evAt fun k => by simp only [brambleref09_Fit.l1]; rw [if_pos (by omega), if_pos (by omega), if_pos h1], fun h => nomatch h⟩
    by_cases h2 : (rd_T48 p.f1 (j : Int)).f0 ≥ x3
    · exact ⟨false, evAt fun k => by simp only [brambleref09_Fit.l1]; rw [if_pos (by omega), if_pos (by omega), if_neg h1, if_pos h2], fun h => nomatch h⟩
    obtain ⟨b1, e1⟩ := name9_Ev _ hx.1
    obtain ⟨b2, e2⟩ := name9_Ev _ hx.2
    obtain ⟨b, e, g⟩ := ih (j + 1) (by omega)
    have hs : ∀ k, brambleref09_Fit.l1 (k + 1) x3 (i : Int) (j : Int) t n l p.f0 p.f1 p.f2 = (brambleref09_Name.f k (rd_T48 p.f1 (j : Int)).f1).bind fun t114 => (if t114 = true then ((brambleref09_Name.f k (rd_T48 p.f1 (j : Int)).f2).bind fun t115 => (if t115 = true then brambleref09_Fit.l1 k x3 (i : Int) ((j + 1 : Nat) : Int) t n l p.f0 p.f1 p.f2 else some false)) else some false) := fun k => by
      simp only [brambleref09_Fit.l1]
      rw [if_pos (by omega), if_pos (by omega), if_neg h1, if_neg h2, w64 (x := (j : Int) + 1) (by omega) (by omega)]
      rfl
    cases b1 with
    | false => exact ⟨false, Ev.step hs (Ev.bind e1 (by simp only [Bool.false_eq_true, if_false]; exact Ev.now _)), fun h => nomatch h⟩
    | true =>
      cases b2 with
      | false => exact ⟨false, Ev.step hs (Ev.bind e1 (by simp only [if_true]; exact Ev.bind e2 (by simp only [Bool.false_eq_true, if_false]; exact Ev.now _))), fun h => nomatch h⟩
      | true =>
        refine ⟨b, Ev.step hs (Ev.bind e1 (by simp only [if_true]; exact Ev.bind e2 (by simp only [if_true]; exact e))), fun hb => ?_⟩
        obtain ⟨g1, g2⟩ := g hb
        refine ⟨g1, fun x hx' => ?_⟩
        rw [rd48_drop p.f1 j (by omega)] at hx'
        rcases List.mem_cons.1 hx' with rfl | hx'
        · exact ⟨by omega, by omega⟩
        · exact g2 x hx'
theorem fit_prods (t n : List ByteArray) (l : List S40) (x3 : Int) (hl : l.length ≤ 100000000000000) (hok : ∀ p ∈ l, p.f1.length ≤ 100000000000000 ∧ ∀ x ∈ p.f1, x.f1.size ≤ 1000000000000000 ∧ x.f2.size ≤ 1000000000000000) :
    ∀ (d i : Nat), i + d = l.length → ∃ b, Ev (fun k => brambleref09_Fit.l0 k x3 (i : Int) t n l) b ∧ (b = true → ∀ p ∈ l.drop i, prFit t.length x3 p) := by
  intro d
  induction d with
  | zero =>
    intro i hi
    refine ⟨true, evAt fun k => by simp only [brambleref09_Fit.l0]; rw [if_neg (by omega)], fun _ p hp => ?_⟩
    rw [List.drop_of_length_le (by omega)] at hp
    exact nomatch hp
  | succ d ih =>
    intro i hi
    have hp := hok _ (rd40_mem l i (by omega))
    have hd := rd40_drop l i (by omega)
    generalize hpe : rd_T40 l (i : Int) = p at hp hd
    have bad : ∀ k, brambleref09_Fit.j2 (k + 1) x3 (i : Int) true t n l p.f0 p.f1 p.f2 = some false := fun k => by simp only [brambleref09_Fit.j2]; rw [if_pos trivial]
    have step : ∀ b, (∀ k, brambleref09_Fit.l0 (k + 1) x3 (i : Int) t n l = brambleref09_Fit.j2 k x3 (i : Int) b t n l p.f0 p.f1 p.f2) → (b = false → (t.length : Int) ≤ p.f0 ∧ p.f0 < x3 ∧ p.f1.length ≤ 64) →
        ∃ b, Ev (fun k => brambleref09_Fit.l0 k x3 (i : Int) t n l) b ∧ (b = true → ∀ p ∈ l.drop i, prFit t.length x3 p) := by
      intro b hk hb
      cases b with
      | true => exact ⟨false, Ev.step hk (evAt bad), fun h => nomatch h⟩
      | false =>
        obtain ⟨q1, q2, q3⟩ := hb rfl
        obtain ⟨b, e, g⟩ := fit_items t n l x3 i p hp.1 hp.2 (by omega) _ (ih (i + 1) (by omega)) p.f1.length 0 (by omega)
        refine ⟨b, Ev.step hk (Ev.step (fun k => ?_) e), fun hb' q hq => ?_⟩
        · simp only [brambleref09_Fit.j2]
          rw [if_neg (by decide)]
          rfl
        · obtain ⟨g1, g2⟩ := g hb'
          rw [hd] at hq
          rcases List.mem_cons.1 hq with rfl | hq
          · exact ⟨q1, q2, q3, fun x hx => g2 x (by rw [List.drop_zero]; exact hx)⟩
          · exact g1 q hq
    by_cases c1 : p.f0 < (t.length : Int)
    · exact step true (fun k => by simp only [brambleref09_Fit.l0]; rw [hpe, if_pos (by omega), if_pos (by omega), if_pos c1]) (fun h => nomatch h)
    by_cases c2 : p.f0 ≥ x3
    · exact step true (fun k => by simp only [brambleref09_Fit.l0]; rw [hpe, if_pos (by omega), if_pos (by omega), if_neg c1, if_pos c2]) (fun h => nomatch h)
    by_cases c3 : (i : Int) > 0
    · have hw := w64 (x := (i : Int) - 1) (by omega) (by omega)
      by_cases c4 : (rd_T40 l ((i : Int) - 1)).f0 > p.f0
      · exact step true (fun k => by simp only [brambleref09_Fit.l0]; rw [hpe, hw, if_pos (by omega), if_pos (by omega), if_neg c1, if_neg c2, if_pos c3, if_pos (by omega), if_pos (by omega), if_pos c4]) (fun h => nomatch h)
      by_cases c5 : (p.f1.length : Int) > 64
      · exact step true (fun k => by simp only [brambleref09_Fit.l0]; rw [hpe, hw, if_pos (by omega), if_pos (by omega), if_neg c1, if_neg c2, if_pos c3, if_pos (by omega), if_pos (by omega), if_neg c4, if_pos c5]) (fun h => nomatch h)
      by_cases c6 : p.f2 < -10000
      · exact step true (fun k => by simp only [brambleref09_Fit.l0]; rw [hpe, hw, if_pos (by omega), if_pos (by omega), if_neg c1, if_neg c2, if_pos c3, if_pos (by omega), if_pos (by omega), if_neg c4, if_neg c5, if_pos c6]) (fun h => nomatch h)
      · exact step (decide (p.f2 > 10000)) (fun k => by simp only [brambleref09_Fit.l0]; rw [hpe, hw, if_pos (by omega), if_pos (by omega), if_neg c1, if_neg c2, if_pos c3, if_pos (by omega), if_pos (by omega), if_neg c4, if_neg c5, if_neg c6]) (fun _ => ⟨by omega, by omega, by omega⟩)
    · by_cases c5 : (p.f1.length : Int) > 64
      · exact step true (fun k => by simp only [brambleref09_Fit.l0]; rw [hpe, if_pos (by omega), if_pos (by omega), if_neg c1, if_neg c2, if_neg c3, if_pos c5]) (fun h => nomatch h)
      by_cases c6 : p.f2 < -10000
      · exact step true (fun k => by simp only [brambleref09_Fit.l0]; rw [hpe, if_pos (by omega), if_pos (by omega), if_neg c1, if_neg c2, if_neg c3, if_neg c5, if_pos c6]) (fun h => nomatch h)
      · exact step (decide (p.f2 > 10000)) (fun k => by simp only [brambleref09_Fit.l0]; rw [hpe, if_pos (by omega), if_pos (by omega), if_neg c1, if_neg c2, if_neg c3, if_neg c5, if_neg c6]) (fun _ => ⟨by omega, by omega, by omega⟩)
theorem fit_Ev (t n : List ByteArray) (l : List S40) (ht : t.length ≤ 100000000000000) (hn : n.length ≤ 100000000000000) (hl : l.length ≤ 100000000000000) (hok : ∀ p ∈ l, p.f1.length ≤ 100000000000000 ∧ ∀ x ∈ p.f1, x.f1.size ≤ 1000000000000000 ∧ x.f2.size ≤ 1000000000000000) :
    ∃ b, Ev (fun k => brambleref09_Fit.f k t n l) b ∧ (b = true → 1 ≤ n.length ∧ t.length + n.length ≤ 600 ∧ l.length ≤ 400 ∧ ∀ p ∈ l, prFit t.length ((t.length + n.length : Nat) : Int) p) := by
  have hw := w64 (x := (t.length : Int) + (n.length : Int)) (by omega) (by omega)
  have bad : ∀ (g : Nat → Option Bool), (∀ k, g k = brambleref09_Fit.j0 k ((t.length : Int) + (n.length : Int)) true t n l) → Ev g false := fun g hg => Ev.congr hg (evAt fun k => by simp only [brambleref09_Fit.j0]; rw [if_pos trivial])
  by_cases c1 : (n.length : Int) = 0
  · exact ⟨false, bad _ (fun k => by unfold brambleref09_Fit.f; rw [hw, if_pos c1]), fun h => nomatch h⟩
  by_cases c2 : (t.length : Int) + (n.length : Int) > 600
  · exact ⟨false, bad _ (fun k => by unfold brambleref09_Fit.f; rw [hw, if_neg c1, if_pos c2]), fun h => nomatch h⟩
  by_cases c3 : (l.length : Int) > 400
  · exact ⟨false, bad _ (fun k => by unfold brambleref09_Fit.f; rw [hw, if_neg c1, if_neg c2, if_pos c3]), fun h => nomatch h⟩
  obtain ⟨b1, e1⟩ := titles_Ev t ht
  obtain ⟨b2, e2⟩ := titles_Ev n hn
  have hf : ∀ k, brambleref09_Fit.f k t n l = (brambleref09_titles.f k t).bind fun t107 => (if t107 = true then ((brambleref09_titles.f k n).bind fun t108 => (brambleref09_Fit.j0 k ((t.length : Int) + (n.length : Int)) (!t108) t n l)) else (brambleref09_Fit.j0 k ((t.length : Int) + (n.length : Int)) true t n l)) := fun k => by unfold brambleref09_Fit.f; rw [hw, if_neg c1, if_neg c2, if_neg c3]
  cases b1 with
  | false => exact ⟨false, Ev.congr hf (Ev.bind e1 (by simp only [Bool.false_eq_true, if_false]; exact bad _ (fun k => rfl))), fun h => nomatch h⟩
  | true =>
    cases b2 with
    | false => exact ⟨false, Ev.congr hf (Ev.bind e1 (by simp only [if_true]; exact Ev.bind e2 (bad _ (fun k => rfl)))), fun h => nomatch h⟩
    | true =>
      obtain ⟨b, e, g⟩ := fit_prods t n l ((t.length : Int) + (n.length : Int)) hl hok l.length 0 (by omega)
      have e3 : Ev (fun k => brambleref09_Fit.j0 k ((t.length : Int) + (n.length : Int)) (!true) t n l) b := Ev.step (f := fun k => brambleref09_Fit.l0 k ((t.length : Int) + (n.length : Int)) 0 t n l) (fun k => by simp only [brambleref09_Fit.j0]; rw [if_neg (by decide)]) e
      refine ⟨b, Ev.congr hf (Ev.bind e1 (by simp only [if_true]; exact Ev.bind e2 e3)), fun hb => ⟨by omega, by omega, by omega, fun p hp => ?_⟩⟩
      · have := g hb p (by rw [List.drop_zero]; exact hp)
        rwa [Int.natCast_add]
section
open Go.Proofs.Ytkfpmolplemdlaa.Grow Go.Proofs.Ytkfpmolplemdlaa.Deri
theorem stepD_len (bs : List Bool) (p : Fl.P) : (stepD bs p).1.length = bs.length := by
  unfold stepD
  split
  · rfl
  · exact List.length_set
theorem roundD (bs : List Bool) (ch : Bool) (p : S40) : roundV stepD (bs, ch) (prE p) = if (!at_ bs p.f0 && p.f1.all (fun x => at_ bs x.f0)) = true then (bs.set p.f0.toNat true, true) else (bs, ch) := by
  have e : (at_ bs p.f0 || (p.f1.map itE).any (fun x => !at_ bs x.1)) = !(!at_ bs p.f0 && p.f1.all (fun x => at_ bs x.f0)) := by
    rw [Bool.not_and, Bool.not_not, List.any_map, List.not_all_eq_any_not]
    rfl
  unfold roundV stepD
  show ((if (at_ bs p.f0 || (p.f1.map itE).any (fun x => !at_ bs x.1)) = true then (bs, false) else (bs.set p.f0.toNat true, true)).1, ch || (if (at_ bs p.f0 || (p.f1.map itE).any (fun x => !at_ bs x.1)) = true then (bs, false) else (bs.set p.f0.toNat true, true)).2) = _
  rw [e]
  cases (!at_ bs p.f0 && p.f1.all (fun x => at_ bs x.f0)) <;> simp
theorem roundsD_len : ∀ (qs : List Fl.P) (s : List Bool × Bool), (qs.foldl (roundV stepD) s).1.length = s.1.length
  | [], _ => rfl
  | p :: t, s => by
    have := roundsD_len t (roundV stepD s p)
    rw [List.foldl_cons, this]
    exact stepD_len s.1 p
end
section
open Go.Proofs.Ytkfpmolplemdlaa.Grow Go.Proofs.Ytkfpmolplemdlaa.Deri
theorem empty_items (t n : List ByteArray) (l : List S40) (ch : Bool) (i : Nat) (p : S40) (bs : List Bool) (hi : i ≤ 100000000000000) (h0 : 0 ≤ p.f0) (h1 : p.f0 < (bs.length : Int)) (hl : p.f1.length ≤ 100000000000000) (hx : ∀ x ∈ p.f1, 0 ≤ x.f0 ∧ x.f0 < (bs.length : Int)) (r : List Bool) (fin : Bool)
    (hT : fin = true → Ev (fun k => brambleref10_Empty.l1 k (bs.set p.f0.toNat true) true ((i + 1 : Nat) : Int) t n l) r) (hF : fin = false → Ev (fun k => brambleref10_Empty.l1 k bs ch ((i + 1 : Nat) : Int) t n l) r) :
    ∀ (d j : Nat) (al : Bool), j + d = p.f1.length → (al && (p.f1.drop j).all (fun x => at_ bs x.f0)) = fin → Ev (fun k => brambleref10_Empty.l2 k bs ch (i : Int) al (j : Int) t n l p.f0 p.f1 p.f2) r := by
  intro d
  induction d with
  | zero =>
    intro j al hj hf
    have hw := w64 (x := (i : Int) + 1) (by omega) (by omega)
    rw [List.drop_of_length_le (by omega), List.all_nil, Bool.and_true] at hf
    cases al with
    | true =>
      refine Ev.step (fun k => ?_) (hT hf.symm)
      simp only [brambleref10_Empty.l2]
      rw [if_neg (by omega), if_pos trivial, if_pos h0, if_pos h1, hw]
      rfl
    | false =>
      refine Ev.step (fun k => ?_) (hF hf.symm)
      simp only [brambleref10_Empty.l2]
      rw [if_neg (by omega), if_neg (by decide), hw]
      rfl
  | succ d ih =>
    intro j al hj hf
    have hxj := hx _ (rd48_mem p.f1 j (by omega))
    rw [rd48_drop p.f1 j (by omega), List.all_cons] at hf
    have hw := w64 (x := (j : Int) + 1) (by omega) (by omega)
    cases al with
    | true =>
      refine Ev.step (fun k => ?_) (ih (j + 1) (at_ bs (rd_T48 p.f1 (j : Int)).f0) (by omega) (by simpa using hf))
      simp only [brambleref10_Empty.l2]
      rw [if_pos (by omega), if_pos trivial, if_pos (by omega), if_pos hxj.1, if_pos hxj.2, hw]
      rfl
    | false =>
      refine Ev.step (fun k => ?_) (ih (j + 1) false (by omega) (by simpa using hf))
      simp only [brambleref10_Empty.l2]
      rw [if_pos (by omega), if_neg (by decide), hw]
      rfl
theorem empty_prods (t n : List ByteArray) (l : List S40) (N : Nat) (hl : l.length ≤ 1000000000) (hok : ∀ p ∈ l, 0 ≤ p.f0 ∧ p.f0 < (N : Int) ∧ p.f1.length ≤ 100000000000000 ∧ ∀ x ∈ p.f1, 0 ≤ x.f0 ∧ x.f0 < (N : Int)) (r : List Bool) :
    ∀ (d i : Nat) (bs : List Bool) (ch : Bool), i + d = l.length → bs.length = N → Ev (fun k => brambleref10_Empty.l0 k (((l.drop i).map prE).foldl (roundV stepD) (bs, ch)).1 (((l.drop i).map prE).foldl (roundV stepD) (bs, ch)).2 t n l) r → Ev (fun k => brambleref10_Empty.l1 k bs ch (i : Int) t n l) r := by
  intro d
  induction d with
  | zero =>
    intro i bs ch hi hb h
    rw [List.drop_of_length_le (by omega)] at h
    refine Ev.step (fun k => ?_) h
    simp only [brambleref10_Empty.l1]
    rw [if_neg (by omega)]
    rfl
  | succ d ih =>
    intro i bs ch hi hb h
    have hp := hok _ (rd40_mem l i (by omega))
    rw [rd40_drop l i (by omega), List.map_cons, List.foldl_cons, roundD] at h
    generalize hpe : rd_T40 l (i : Int) = p at hp h
    have hT : (!at_ bs p.f0 && p.f1.all (fun x => at_ bs x.f0)) = true → Ev (fun k => brambleref10_Empty.l1 k (bs.set p.f0.toNat true) true ((i + 1 : Nat) : Int) t n l) r := fun c => by
      rw [if_pos c] at h
      exact ih (i + 1) _ _ (by omega) (by rw [List.length_set]; exact hb) h
    have hF : (!at_ bs p.f0 && p.f1.all (fun x => at_ bs x.f0)) = false → Ev (fun k => brambleref10_Empty.l1 k bs ch ((i + 1 : Nat) : Int) t n l) r := fun c => by
      rw [if_neg (by rw [c]; decide)] at h
      exact ih (i + 1) _ _ (by omega) hb h
    have e := empty_items t n l ch i p bs (by omega) hp.1 (by rw [hb]; exact hp.2.1) hp.2.2.1 (by rw [hb]; exact hp.2.2.2) r _ hT hF p.f1.length 0 (!at_ bs p.f0) (by omega) (by rw [List.drop_zero])
    refine Ev.step (fun k => ?_) e
    simp only [brambleref10_Empty.l1]
    rw [hpe, if_pos (by omega), if_pos (by omega), if_pos hp.1, if_pos (by rw [hb]; exact hp.2.1)]
    rfl
theorem empty_outer (t n : List ByteArray) (l : List S40) (N : Nat) (hl : l.length ≤ 1000000000) (hok : ∀ p ∈ l, 0 ≤ p.f0 ∧ p.f0 < (N : Int) ∧ p.f1.length ≤ 100000000000000 ∧ ∀ x ∈ p.f1, 0 ≤ x.f0 ∧ x.f0 < (N : Int)) (r : List Bool) :
    ∀ (m : Nat) (bs : List Bool), bs.length = N → growV stepD (l.map prE) m bs = some r → Ev (fun k => brambleref10_Empty.l0 k bs true t n l) r
  | 0, _, _, h => by simp [growV] at h
  | m + 1, bs, hb, h => by
    have e : growV stepD (l.map prE) (m + 1) bs = if (roundsV stepD (l.map prE) bs).2 = true then growV stepD (l.map prE) m (roundsV stepD (l.map prE) bs).1 else some (roundsV stepD (l.map prE) bs).1 := rfl
    rw [e] at h
    have hlen : (roundsV stepD (l.map prE) bs).1.length = N := (roundsD_len _ (bs, false)).trans hb
    have hn : Ev (fun k => brambleref10_Empty.l0 k (roundsV stepD (l.map prE) bs).1 (roundsV stepD (l.map prE) bs).2 t n l) r := by
      cases c : (roundsV stepD (l.map prE) bs).2 with
      | true =>
        rw [if_pos c] at h
        exact empty_outer t n l N hl hok r m _ hlen h
      | false =>
        rw [if_neg (by rw [c]; decide)] at h
        cases h
        exact evAt fun k => by simp only [brambleref10_Empty.l0]; rw [if_neg (by decide)]
    refine Ev.step (fun k => ?_) (empty_prods t n l N hl hok r l.length 0 bs false (by omega) hb (by rw [List.drop_zero]; exact hn))
    simp only [brambleref10_Empty.l0]
    rw [if_pos trivial]
    rfl
end
section
open Go.Proofs.Ytkfpmolplemdlaa.Grow Go.Proofs.Ytkfpmolplemdlaa.Deri
theorem useful_items (t n : List ByteArray) (l : List S40) (ch : Bool) (i : Nat) (p : S40) (bs : List Bool) (hi : i ≤ 100000000000000) (h0 : 0 ≤ p.f0) (h1 : p.f0 < (bs.length : Int)) (hl : p.f1.length ≤ 100000000000000) (hx : ∀ x ∈ p.f1, 0 ≤ x.f0 ∧ x.f0 < (bs.length : Int)) (r : List Bool) (fin : Bool)
    (hT : fin = true → Ev (fun k => brambleref10_Useful.l2 k (bs.set p.f0.toNat true) true ((i + 1 : Nat) : Int) t n l) r) (hF : fin = false → Ev (fun k => brambleref10_Useful.l2 k bs ch ((i + 1 : Nat) : Int) t n l) r) :
    ∀ (d j : Nat) (al : Bool), j + d = p.f1.length → (al && (p.f1.drop j).all (fun x => at_ bs x.f0)) = fin → Ev (fun k => brambleref10_Useful.l3 k bs ch (i : Int) al (j : Int) t n l p.f0 p.f1 p.f2) r := by
  intro d
  induction d with
  | zero =>
    intro j al hj hf
    have hw := w64 (x := (i : Int) + 1) (by omega) (by omega)
    rw [List.drop_of_length_le (by omega), List.all_nil, Bool.and_true] at hf
    cases al with
    | true =>
      refine Ev.step (fun k => ?_) (hT hf.symm)
      simp only [brambleref10_Useful.l3]
      rw [if_neg (by omega), if_pos trivial, if_pos h0, if_pos h1, hw]
      rfl
    | false =>
      refine Ev.step (fun k => ?_) (hF hf.symm)
      simp only [brambleref10_Useful.l3]
      rw [if_neg (by omega), if_neg (by decide), hw]
      rfl
  | succ d ih =>
    intro j al hj hf
    have hxj := hx _ (rd48_mem p.f1 j (by omega))
    rw [rd48_drop p.f1 j (by omega), List.all_cons] at hf
    have hw := w64 (x := (j : Int) + 1) (by omega) (by omega)
    cases al with
    | true =>
      refine Ev.step (fun k => ?_) (ih (j + 1) (at_ bs (rd_T48 p.f1 (j : Int)).f0) (by omega) (by simpa using hf))
      simp only [brambleref10_Useful.l3]
      rw [if_pos (by omega), if_pos trivial, if_pos (by omega), if_pos hxj.1, if_pos hxj.2, hw]
      rfl
    | false =>
      refine Ev.step (fun k => ?_) (ih (j + 1) false (by omega) (by simpa using hf))
      simp only [brambleref10_Useful.l3]
      rw [if_pos (by omega), if_neg (by decide), hw]
      rfl
theorem useful_prods (t n : List ByteArray) (l : List S40) (N : Nat) (hl : l.length ≤ 1000000000) (hok : ∀ p ∈ l, 0 ≤ p.f0 ∧ p.f0 < (N : Int) ∧ p.f1.length ≤ 100000000000000 ∧ ∀ x ∈ p.f1, 0 ≤ x.f0 ∧ x.f0 < (N : Int)) (r : List Bool) :
    ∀ (d i : Nat) (bs : List Bool) (ch : Bool), i + d = l.length → bs.length = N → Ev (fun k => brambleref10_Useful.l1 k (((l.drop i).map prE).foldl (roundV stepD) (bs, ch)).1 (((l.drop i).map prE).foldl (roundV stepD) (bs, ch)).2 t n l) r → Ev (fun k => brambleref10_Useful.l2 k bs ch (i : Int) t n l) r := by
  intro d
  induction d with
  | zero =>
    intro i bs ch hi hb h
    rw [List.drop_of_length_le (by omega)] at h
    refine Ev.step (fun k => ?_) h
    simp only [brambleref10_Useful.l2]
    rw [if_neg (by omega)]
    rfl
  | succ d ih =>
    intro i bs ch hi hb h
    have hp := hok _ (rd40_mem l i (by omega))
    rw [rd40_drop l i (by omega), List.map_cons, List.foldl_cons, roundD] at h
    generalize hpe : rd_T40 l (i : Int) = p at hp h
    have hT : (!at_ bs p.f0 && p.f1.all (fun x => at_ bs x.f0)) = true → Ev (fun k => brambleref10_Useful.l2 k (bs.set p.f0.toNat true) true ((i + 1 : Nat) : Int) t n l) r := fun c => by
      rw [if_pos c] at h
      exact ih (i + 1) _ _ (by omega) (by rw [List.length_set]; exact hb) h
    have hF : (!at_ bs p.f0 && p.f1.all (fun x => at_ bs x.f0)) = false → Ev (fun k => brambleref10_Useful.l2 k bs ch ((i + 1 : Nat) : Int) t n l) r := fun c => by
      rw [if_neg (by rw [c]; decide)] at h
      exact ih (i + 1) _ _ (by omega) hb h
    have e := useful_items t n l ch i p bs (by omega) hp.1 (by rw [hb]; exact hp.2.1) hp.2.2.1 (by rw [hb]; exact hp.2.2.2) r _ hT hF p.f1.length 0 (!at_ bs p.f0) (by omega) (by rw [List.drop_zero])
    refine Ev.step (fun k => ?_) e
    simp only [brambleref10_Useful.l2]
    rw [hpe, if_pos (by omega), if_pos (by omega), if_pos hp.1, if_pos (by rw [hb]; exact hp.2.1)]
    rfl
theorem useful_outer (t n : List ByteArray) (l : List S40) (N : Nat) (hl : l.length ≤ 1000000000) (hok : ∀ p ∈ l, 0 ≤ p.f0 ∧ p.f0 < (N : Int) ∧ p.f1.length ≤ 100000000000000 ∧ ∀ x ∈ p.f1, 0 ≤ x.f0 ∧ x.f0 < (N : Int)) (r : List Bool) :
    ∀ (m : Nat) (bs : List Bool), bs.length = N → growV stepD (l.map prE) m bs = some r → Ev (fun k => brambleref10_Useful.l1 k bs true t n l) r
  | 0, _, _, h => by simp [growV] at h
  | m + 1, bs, hb, h => by
    have e : growV stepD (l.map prE) (m + 1) bs = if (roundsV stepD (l.map prE) bs).2 = true then growV stepD (l.map prE) m (roundsV stepD (l.map prE) bs).1 else some (roundsV stepD (l.map prE) bs).1 := rfl
    rw [e] at h
    have hlen : (roundsV stepD (l.map prE) bs).1.length = N := (roundsD_len _ (bs, false)).trans hb
    have hn : Ev (fun k => brambleref10_Useful.l1 k (roundsV stepD (l.map prE) bs).1 (roundsV stepD (l.map prE) bs).2 t n l) r := by
      cases c : (roundsV stepD (l.map prE) bs).2 with
      | true =>
        rw [if_pos c] at h
        exact useful_outer t n l N hl hok r m _ hlen h
      | false =>
        rw [if_neg (by rw [c]; decide)] at h
        cases h
        exact evAt fun k => by simp only [brambleref10_Useful.l1]; rw [if_neg (by decide)]
    refine Ev.step (fun k => ?_) (useful_prods t n l N hl hok r l.length 0 bs false (by omega) hb (by rw [List.drop_zero]; exact hn))
    simp only [brambleref10_Useful.l1]
    rw [if_pos trivial]
    rfl
end
section
open Go.Proofs.Ytkfpmolplemdlaa.Grow Go.Proofs.Ytkfpmolplemdlaa.Deri
theorem size_eq (t n : List ByteArray) (l : List S40) (h : t.length + n.length ≤ 1000000) : brambleref10_size.f t n l = some ((t.length + n.length : Nat) : Int) := by
  unfold brambleref10_size.f
  rw [w64 (by omega) (by omega), Int.natCast_add]
theorem rempty_Ev (t n : List ByteArray) (l : List S40) (hN : t.length + n.length ≤ 1000000) (hl : l.length ≤ 1000000000) (hok : ∀ p ∈ l, 0 ≤ p.f0 ∧ p.f0 < ((t.length + n.length : Nat) : Int) ∧ p.f1.length ≤ 100000000000000 ∧ ∀ x ∈ p.f1, 0 ≤ x.f0 ∧ x.f0 < ((t.length + n.length : Nat) : Int)) (m : Nat) (r : List Bool) (h : growV stepD (l.map prE) m (List.replicate (t.length + n.length) false) = some r) :
    Ev (fun k => brambleref10_Empty.f k t n l) r := by
  unfold brambleref10_Empty.f
  simp only [size_eq t n l hN, Option.bind_some]
  simp only [if_pos (show (0 : Int) ≤ ((t.length + n.length : Nat) : Int) by omega), if_pos (show (((t.length + n.length : Nat) : Int)).toNat ≤ 281474976710656 by omega)]
  exact empty_outer t n l _ hl hok r m _ (by rw [Int.toNat_natCast, List.length_replicate]) (by rw [Int.toNat_natCast]; exact h)
theorem useful_init (t n : List ByteArray) (l : List S40) (N : Nat) (hN : t.length ≤ N) (hN' : N ≤ 1000000) (r : List Bool) (hn : Ev (fun k => brambleref10_Useful.l1 k (ups N t.length) true t n l) r) :
    ∀ (d j : Nat), j + d = t.length → Ev (fun k => brambleref10_Useful.l0 k (ups N j) (j : Int) t n l) r := by
  intro d
  induction d with
  | zero =>
    intro j hj
    obtain rfl : j = t.length := by omega
    refine Ev.step (fun k => ?_) hn
    simp only [brambleref10_Useful.l0]
    rw [if_neg (by omega)]
  | succ d ih =>
    intro j hj
    have hul : (ups N j).length = N := by unfold ups; simp; omega
    refine Ev.step (fun k => ?_) (ih (j + 1) (by omega))
    simp only [brambleref10_Useful.l0]
    rw [if_pos (by omega), if_pos (by omega), if_pos (by rw [hul]; omega), w64 (x := (j : Int) + 1) (by omega) (by omega), Int.toNat_natCast, ups_set N j (by omega)]
    rfl
theorem ruseful_Ev (t n : List ByteArray) (l : List S40) (hN : t.length + n.length ≤ 1000000) (hl : l.length ≤ 1000000000) (hok : ∀ p ∈ l, 0 ≤ p.f0 ∧ p.f0 < ((t.length + n.length : Nat) : Int) ∧ p.f1.length ≤ 100000000000000 ∧ ∀ x ∈ p.f1, 0 ≤ x.f0 ∧ x.f0 < ((t.length + n.length : Nat) : Int)) (m : Nat) (r : List Bool) (h : growV stepD (l.map prE) m (ups (t.length + n.length) t.length) = some r) :
    Ev (fun k => brambleref10_Useful.f k t n l) r := by
  unfold brambleref10_Useful.f
  simp only [size_eq t n l hN, Option.bind_some]
  simp only [if_pos (show (0 : Int) ≤ ((t.length + n.length : Nat) : Int) by omega), if_pos (show (((t.length + n.length : Nat) : Int)).toNat ≤ 281474976710656 by omega)]
  have hul : (ups (t.length + n.length) t.length).length = t.length + n.length := by unfold ups; simp
  exact useful_init t n l (t.length + n.length) (by omega) hN r (useful_outer t n l _ hl hok r m _ hul h) t.length 0 (by omega)
end
section
open Go.Proofs.Ytkfpmolplemdlaa.Grow Go.Proofs.Ytkfpmolplemdlaa.Deri Go.Proofs.Ytkfpmolplemdlaa.Begin Go.Proofs.Ytkfpmolplemdlaa.Begun Go.Proofs.Ytkfpmolplemdlaa.Foll Go.Proofs.Ytkfpmolplemdlaa.FollB Go.Proofs.Ytkfpmolplemdlaa.MSet Go.Proofs.Ytkfpmolplemdlaa.RRow
theorem ok_bounds {t n : List ByteArray} {l : List S40} (h : ok25 ⟨t, n, l⟩) : t.length ≤ 100000000000000 ∧ n.length ≤ 100000000000000 ∧ l.length ≤ 100000000000000 ∧ ∀ p ∈ l, p.f1.length ≤ 100000000000000 ∧ ∀ x ∈ p.f1, x.f1.size ≤ 1000000000000000 ∧ x.f2.size ≤ 1000000000000000 := by
  obtain ⟨⟨h1, _⟩, ⟨h2, _⟩, h3, h4⟩ := h
  simp only at h1 h2 h3
  refine ⟨by omega, by omega, by omega, fun p hp => ?_⟩
  obtain ⟨_, ⟨h5, h6⟩, _⟩ := h4 p hp
  refine ⟨by omega, fun x hx => ?_⟩
  obtain ⟨_, h7, h8⟩ := h6 x hx
  exact ⟨by omega, by omega⟩
theorem few_Ev {t n : List ByteArray} {l : List S40} (h : ok25 ⟨t, n, l⟩) : ∃ b, Ev (fun k => bramblelaw10_few.f k t n l) b ∧ (b = true → 1 ≤ n.length ∧ t.length + n.length ≤ 80 ∧ l.length ≤ 100 ∧ ∀ p ∈ l, prFit t.length ((t.length + n.length : Nat) : Int) p) := by
  obtain ⟨h1, h2, h3, h4⟩ := ok_bounds h
  obtain ⟨b1, e1⟩ := light_Ev t n l h3
  unfold bramblelaw10_few.f
  cases b1 with
  | false => exact ⟨false, Ev.bind e1 (by simp only [Bool.false_eq_true, if_false]; exact Ev.now _), fun h => nomatch h⟩
  | true =>
    obtain ⟨b2, e2, g2⟩ := fit_Ev t n l h1 h2 h3 h4
    cases b2 with
    | false => exact ⟨false, Ev.bind e1 (by simp only [if_true]; exact Ev.bind e2 (by simp only [Bool.false_eq_true, if_false]; exact Ev.now _)), fun h => nomatch h⟩
    | true =>
      obtain ⟨q1, q2, q3, q4⟩ := g2 rfl
      have hw := w64 (x := (t.length : Int) + (n.length : Int)) (by omega) (by omega)
      by_cases c : (t.length : Int) + (n.length : Int) ≤ 80
      · refine ⟨decide ((l.length : Int) ≤ 100), Ev.bind e1 (by simp only [if_true]; exact Ev.bind e2 (by simp only [if_true, hw, if_pos c]; exact Ev.now _)), fun hb => ⟨q1, by omega, by have := of_decide_eq_true hb; omega, q4⟩⟩
      · exact ⟨false, Ev.bind e1 (by simp only [if_true]; exact Ev.bind e2 (by simp only [if_true, hw, if_neg c]; exact Ev.now _)), fun h => nomatch h⟩
theorem flOk_of {t n : List ByteArray} {l : List S40} (h1 : 1 ≤ n.length) (h2 : t.length + n.length ≤ 999999) (h3 : ∀ p ∈ l, prFit t.length ((t.length + n.length : Nat) : Int) p) : flOk (t.length + n.length) n.length (l.map prE) = true := by
  simp only [flOk, Bool.and_eq_true, decide_eq_true_eq, List.all_eq_true]
  refine ⟨⟨h2, h1⟩, fun q hq => ?_⟩
  obtain ⟨p, hp, rfl⟩ := List.mem_map.1 hq
  obtain ⟨g1, g2, g3, g4⟩ := h3 p hp
  refine ⟨⟨⟨show 0 ≤ p.f0 by omega, g2⟩, ?_⟩, fun i hi => ?_⟩
  · show (p.f1.map itE).length ≤ 1000
    rw [List.length_map]
    omega
  · obtain ⟨x, hx, rfl⟩ := List.mem_map.1 hi
    exact g4 x hx
/-- What the sets of a fit grammar are. -/
structure SetsOf (t n : List ByteArray) (l : List S40) (em us : List Bool) (Ss FS : List (List Int)) : Prop where
  ok : ∀ p ∈ l.map prE, PrOk (t.length + n.length) p
  eE : Ev (fun k => growV stepD (l.map prE) k (List.replicate (t.length + n.length) false)) em
  eU : Ev (fun k => growV stepD (l.map prE) k (ups (t.length + n.length) t.length)) us
  eF : Ev (fun k => growV (stepF (t.length + n.length) em) (l.map prE) k (initV (t.length + n.length) t.length)) Ss
  eL : Ev (fun k => growV (stepL (t.length + n.length) t.length em Ss) (l.map prE) k (initL (t.length + n.length) t.length)) FS
  lE : em.length = t.length + n.length
  lU : us.length = t.length + n.length
  iF : Inv (t.length + n.length) Ss
  iL : Inv (t.length + n.length) FS
  cE : ∀ p ∈ l.map prE, (stepD em p).2 = false
  cU : ∀ p ∈ l.map prE, (stepD us p).2 = false
  cF : ∀ p ∈ l.map prE, (stepF (t.length + n.length) em Ss p).2 = false
  cL : ∀ p ∈ l.map prE, (stepL (t.length + n.length) t.length em Ss FS p).2 = false
  qE : ∀ Q : List Bool → Prop, (∀ s p, p ∈ l.map prE → s.length = t.length + n.length → Q s → Q (stepD s p).1) → Q (List.replicate (t.length + n.length) false) → Q em
  qU : ∀ Q : List Bool → Prop, (∀ s p, p ∈ l.map prE → s.length = t.length + n.length → Q s → Q (stepD s p).1) → Q (ups (t.length + n.length) t.length) → Q us
  qF : ∀ Q : List (List Int) → Prop, (∀ s p, p ∈ l.map prE → Inv (t.length + n.length) s → Q s → Q (stepF (t.length + n.length) em s p).1) → Q (initV (t.length + n.length) t.length) → Q Ss
  qL : ∀ Q : List (List Int) → Prop, (∀ s p, p ∈ l.map prE → Inv (t.length + n.length) s → Q s → Q (stepL (t.length + n.length) t.length em Ss s p).1) → Q (initL (t.length + n.length) t.length) → Q FS
theorem inv_initL {N n0 : Nat} (hN : N ≤ 1000000) (h : n0 < N) : Inv N (initL N n0) := by
  refine ⟨fun S hS => ?_, by simp [initL], fun S hS => ?_⟩
  · rcases List.mem_or_eq_of_mem_set hS with hS | rfl
    · rw [List.eq_of_mem_replicate hS]
      exact List.Pairwise.nil
    · exact List.pairwise_singleton _ _
  · rcases List.mem_or_eq_of_mem_set hS with hS | rfl
    · rw [List.eq_of_mem_replicate hS]
      exact fun _ h => nomatch h
    · intro x hx
      rw [List.mem_singleton] at hx
      omega
theorem setsOf {t n : List ByteArray} {l : List S40} (h1 : 1 ≤ n.length) (h2 : t.length + n.length ≤ 999999) (h3 : ∀ p ∈ l, prFit t.length ((t.length + n.length : Nat) : Int) p) : ∃ em us Ss FS, SetsOf t n l em us Ss FS := by
  have ok : ∀ p ∈ l.map prE, PrOk (t.length + n.length) p := fun p hp => (flOk_ps (flOk_of h1 h2 h3) p hp).1
  obtain ⟨em, a1, a2, a3, a4⟩ := grow_ends (steps_D ok) _ (List.replicate (t.length + n.length) false) (by simp) (Nat.lt_succ_self _)
  obtain ⟨us, b1, b2, b3, b4⟩ := grow_ends (steps_D ok) _ (ups (t.length + n.length) t.length) (by unfold ups; simp) (Nat.lt_succ_self _)
  obtain ⟨Ss, c1, c2, c3, c4⟩ := grow_ends (steps_F (em := em) ok) _ (initV (t.length + n.length) t.length) (Inv.init (by omega)) (Nat.lt_succ_self _)
  obtain ⟨FS, d1, d2, d3, d4⟩ := grow_ends (steps_L (n0 := t.length) (em := em) c2 ok) _ (initL (t.length + n.length) t.length) (inv_initL (by omega) (by omega)) (Nat.lt_succ_self _)
  exact ⟨em, us, Ss, FS, ok, grow_Ev a1, grow_Ev b1, grow_Ev c1, grow_Ev d1, a2, b2, c2, d2, a3, b3, c3, d3, a4, b4, c4, d4⟩
theorem ahV_len {N : Nat} {em : List Bool} {Ss : List (List Int)} (hI : Inv N Ss) (B : List Int) : ∀ l : List Fl.I, (ahV N em Ss l B).length ≤ B.length + l.length * 1000000
  | [] => by simp [ahV]
  | i :: t => by
    have h1 := ahV_len (em := em) hI B t
    have h2 := hI.len i.1.toNat
    have h3 := Refs.unionV_le (Ss.getD i.1.toNat []) (ahV N em Ss t B)
    obtain ⟨q, hq⟩ : ∃ q, t.length * 1000000 = q := ⟨_, rfl⟩
    rw [hq] at h1
    simp only [ahV]
    rw [List.length_cons, Nat.add_mul, Nat.one_mul, hq]
    have e3 : (unionV (ahV N em Ss t B) (Ss.getD i.1.toNat [])).length ≤ B.length + (q + 1000000) := Nat.le_trans h3 (Nat.le_trans (Nat.add_le_add h1 h2) (by rw [Nat.add_assoc]; exact Nat.le_refl _))
    have e2 : (Ss.getD i.1.toNat []).length ≤ B.length + (q + 1000000) := Nat.le_trans h2 (Nat.le_trans (Nat.le_add_left _ q) (Nat.le_add_left _ _))
    have e1 : (ahV N em Ss t B).length ≤ B.length + (q + 1000000) := Nat.le_trans h1 (Nat.add_le_add_left (Nat.le_add_right _ _) _)
    split
    · split
      · exact e3
      · exact e2
    · exact e1
theorem inv_getD {N : Nat} {FS : List (List Int)} (h : Inv N FS) (i : Nat) : (FS.getD i []).length ≤ 1000000 := h.len i
end
open Go.Proofs.Ytkfpmolplemdlaa.Grow Go.Proofs.Ytkfpmolplemdlaa.Deri Go.Proofs.Ytkfpmolplemdlaa.Begin Go.Proofs.Ytkfpmolplemdlaa.Begun Go.Proofs.Ytkfpmolplemdlaa.MSet in
theorem SetsTells : bramblelaw10_SetsTells.Pure := by
  intro s0 l1 l2 h0 h1 h2
  obtain ⟨t, n, l⟩ := s0
  suffices Ev (fun k => bramblelaw10_SetsTells.f k t n l l1 l2) true by
    obtain ⟨K, h⟩ := this
    exact ⟨K, h K (Nat.le_refl _)⟩
  unfold bramblelaw10_SetsTells.f
  obtain ⟨c, ec, gc⟩ := few_Ev h0
  refine Ev.bind ec ?_
  by_cases hc : c = true ∧ l1.length ≤ 100 ∧ l2.length ≤ 100
  rotate_left
  · simp only [if_neg hc]
    exact Ev.now _
  simp only [if_pos hc]
  obtain ⟨g1, g2, g3, g4⟩ := gc hc.1
  obtain ⟨em, us, Ss, FS, H⟩ := setsOf g1 (by omega) g4
  have ok := flOk_of g1 (by omega) g4
  have ah : ahOk (l1.map itE) l2 = true := by
    simp only [ahOk, Bool.and_eq_true, decide_eq_true_eq, List.all_eq_true, List.length_map]
    exact ⟨⟨by omega, by omega⟩, fun x hx => h2.2 x hx⟩
  have hok : ∀ p ∈ l, 0 ≤ p.f0 ∧ p.f0 < ((t.length + n.length : Nat) : Int) ∧ p.f1.length ≤ 100000000000000 ∧ ∀ x ∈ p.f1, 0 ≤ x.f0 ∧ x.f0 < ((t.length + n.length : Nat) : Int) := fun p hp => by
    obtain ⟨q1, q2, q3, q4⟩ := g4 p hp
    exact ⟨by omega, q2, by omega, q4⟩
  obtain ⟨m1, r1⟩ := H.eE.rounds
  obtain ⟨m2, r2⟩ := H.eU.rounds
  have e1 : Ev (fun k => sets_Empty.f k t n l) em := by
    unfold sets_Empty.f
    simp only [if_pos ok]
    exact H.eE
  have e2 := rempty_Ev t n l (by omega) (by omega) hok m1 em r1
  have e3 : Ev (fun k => sets_Useful.f k t n l) us := by
    unfold sets_Useful.f
    simp only [if_pos ok]
    exact H.eU
  have e4 := ruseful_Ev t n l (by omega) (by omega) hok m2 us r2
  have e5 : Ev (fun k => sets_First.f k t n l) Ss := by
    unfold sets_First.f
    simp only [if_pos ok]
    exact Ev.bind H.eE H.eF
  have e6 : Ev (fun k => brambleref10_First.f k t n l) Ss := by
    unfold brambleref10_First.f
    simp only [if_pos ok]
    exact Ev.bind e2 (by simp only [if_pos H.lE]; exact H.eF)
  have e7 : Ev (fun k => folP t.length n.length (l.map prE) k em) FS := by
    unfold folP
    exact Ev.bind H.eF H.eL
  have e8 : Ev (fun k => sets_Follow.f k t n l) FS := by
    unfold sets_Follow.f
    simp only [if_pos ok]
    exact Ev.bind H.eE e7
  have e9 : Ev (fun k => brambleref10_Follow.f k t n l) FS := by
    unfold brambleref10_Follow.f
    simp only [if_pos ok]
    exact Ev.bind e2 (by simp only [if_pos H.lE]; exact e7)
  have e10 : Ev (fun k => sets_Ahead.f k t n l l1 l2) (ahV (t.length + n.length) em Ss (l1.map itE) (unionV [] l2)) := by
    unfold sets_Ahead.f
    simp only [if_pos (And.intro ok ah)]
    exact Ev.bind H.eE (Ev.bind H.eF (Ev.now _))
  have e11 : Ev (fun k => brambleref10_Ahead.f k t n l l1 l2) (ahV (t.length + n.length) em Ss (l1.map itE) (unionV [] l2)) := by
    unfold brambleref10_Ahead.f
    simp only [if_pos (And.intro ok ah)]
    exact Ev.bind e2 (by simp only [if_pos H.lE]; exact Ev.bind H.eF (Ev.now _))
  have hal : (ahV (t.length + n.length) em Ss (l1.map itE) (unionV [] l2)).length ≤ 100000000000000 := by
    have q1 := ahV_len (em := em) H.iF (unionV [] l2) (l1.map itE)
    have q2 := Refs.unionV_le l2 []
    rw [List.length_map] at q1
    simp at q2
    omega
  refine Ev.bind e1 (Ev.bind e2 (Ev.bind (bools_refl _ (by rw [H.lE]; omega)) ?_))
  simp only [if_true]
  refine Ev.bind e3 (Ev.bind e4 (Ev.bind (bools_refl _ (by rw [H.lU]; omega)) ?_))
  simp only [if_true]
  refine Ev.bind e5 (Ev.bind e6 (Ev.bind (rows_refl _ (by rw [H.iF.l]; omega) (inv_getD H.iF)) ?_))
  simp only [if_true]
  refine Ev.bind e8 (Ev.bind e9 (Ev.bind (rows_refl _ (by rw [H.iL.l]; omega) (inv_getD H.iL)) ?_))
  simp only [if_true]
  refine Ev.bind e10 (Ev.bind e11 (Ev.bind (ints_refl _ hal) ?_))
  simp only [if_true]
  exact Ev.now _

end Go.Proofs.Ytkfpmolplemdlaa.Pure
