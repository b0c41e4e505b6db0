import Derived.ChangeArms
import Derived.DataReads
import Derived.DataElems
import Derived.SizedLaws
import Derived.Carry
import Derived.WideShapes
import Derived.Test.YtgdmjpehofdnpaaGreatRows
import Derived.WalkKit
import Derived.ProofKit
import Derived.OpenShut
import Derived.ShutString
import Derived.ChangeOld
import Derived.Below
import Derived.Test.YtgdmjpehofdnpaaGreatPackItemTells5
set_option linter.unusedVariables false
set_option linter.unusedSimpArgs false
set_option maxRecDepth 100000
set_option maxHeartbeats 8000000
section
namespace Go.Proofs.ZZ.Pure
open Go.RowKit Go.Proofs.ZZ.PItemTells Go.Proofs.ZW.PrintWords Go.Proofs.ZW.PrintLast Go.Proofs.ZW.PrintMore
theorem w64 {x : Int} (h1 : -9223372036854775808 ≤ x) (h2 : x ≤ 9223372036854775807) : wrap64 x = x := by
 unfold wrap64
 omega
theorem evAt {α : Type} {g : Nat → Option α} {r : α} (h : ∀ k, g (k + 1) = some r) : Ev g r := ⟨1, fun k hk => by obtain ⟨m, rfl⟩ : ∃ m, k = m + 1 := ⟨k - 1, by omega⟩; exact h m⟩
section
open Go.Proofs.ZZ.Grow Go.Proofs.ZZ.Deri Go.Proofs.ZZ.Begin Go.Proofs.ZZ.Begun Go.Proofs.ZZ.MSet Go.Proofs.ZZ.LInv
variable {σ : Type} {step : σ → Fl.P → σ × Bool}
structure Steps (step : σ → Fl.P → σ × Bool) (ps : List Fl.P) (I : σ → Prop) (m : σ → Nat) (M : Nat) : Prop where
 keep : ∀ s p, p ∈ ps → I s → I (step s p).1
 up : ∀ s p, p ∈ ps → I s → (step s p).2 = true → m s < m (step s p).1
 no : ∀ s p, p ∈ ps → I s → (step s p).2 = false → (step s p).1 = s
 bound : ∀ s, I s → m s ≤ M
theorem rounds_go {ps : List Fl.P} {I : σ → Prop} {m : σ → Nat} {M : Nat} (h : Steps step ps I m M) : ∀ (qs : List Fl.P), (∀ p ∈ qs, p ∈ ps) → ∀ (s : σ) (b : Bool), I s →
  I (qs.foldl (zce step) (s, b)).1 ∧ m s ≤ m (qs.foldl (zce step) (s, b)).1 ∧ ((qs.foldl (zce step) (s, b)).2 = true → b = true ∨ m s < m (qs.foldl (zce step) (s, b)).1) ∧
  ((qs.foldl (zce step) (s, b)).2 = false → (qs.foldl (zce step) (s, b)).1 = s ∧ b = false ∧ ∀ p ∈ qs, (step s p).2 = false) ∧
  (∀ Q : σ → Prop, (∀ t p, p ∈ ps → I t → Q t → Q (step t p).1) → Q s → Q (qs.foldl (zce step) (s, b)).1)
 | [], _, s, b, hs => ⟨hs, Nat.le_refl _, fun h => .inl h, fun h => ⟨rfl, h, fun _ hp => nomatch hp⟩, fun _ _ hq => hq⟩
 | p :: t, hq, s, b, hs => by
  have hp := hq p (by simp)
  have e : (p :: t).foldl (zce step) (s, b) = t.foldl (zce step) ((step s p).1, b || (step s p).2) := rfl
  rw [e]
  obtain ⟨h1, h2, h3, h4, h5⟩ := rounds_go h t (fun q hq' => hq q (by simp [hq'])) (step s p).1 (b || (step s p).2) (h.keep s p hp hs)
  have hle : m s ≤ m (step s p).1 := by
   cases c : (step s p).2 with
   | true => exact Nat.le_of_lt (h.up s p hp hs c)
   | false => rw [h.no s p hp hs c]; exact Nat.le_refl _
  refine ⟨h1, Nat.le_trans hle h2, fun hb => ?_, fun hb => ?_, fun Q hQ hs' => h5 Q hQ (hQ s p hp hs hs')⟩
  ·rcases h3 hb with h6 | h6
   ·cases c : (step s p).2 with
    | true => exact .inr (Nat.lt_of_lt_of_le (h.up s p hp hs c) (by rw [c] at h2; exact h2))
    | false => rw [c, Bool.or_false] at h6; exact .inl h6
   ·exact .inr (Nat.lt_of_le_of_lt hle h6)
  ·obtain ⟨h6, h7, h8⟩ := h4 hb
   obtain ⟨h9, h10⟩ := Bool.or_eq_false_iff.1 h7
   have h11 := h.no s p hp hs h10
   rw [h11] at h6 h8
   rw [h11]
   refine ⟨h6, h9, fun q hq' => ?_⟩
   rcases List.mem_cons.1 hq' with rfl | hq'
   ·exact h10
   ·exact h8 q hq'
theorem zhv {ps : List Fl.P} {I : σ → Prop} {m : σ → Nat} {M : Nat} (h : Steps step ps I m M) : ∀ (d : Nat) (s : σ), I s → M - m s < d → ∃ r, zb2 step ps d s = some r ∧ I r ∧ (∀ p ∈ ps, (step r p).2 = false) ∧ (∀ Q : σ → Prop, (∀ t p, p ∈ ps → I t → Q t → Q (step t p).1) → Q s → Q r)
 | 0, _, _, hd => absurd hd (Nat.not_lt_zero _)
 | d + 1, s, hs, hd => by
  obtain ⟨h1, h2, h3, h4, h5⟩ := rounds_go h ps (fun p hp => hp) s false hs
  simp only [zb2]
  show ∃ r, (if (ps.foldl (zce step) (s, false)).2 = true then _ else some (ps.foldl (zce step) (s, false)).1) = some r ∧ _
  split
  ·rename_i hb
   rcases h3 hb with h6 | h6
   ·cases h6
   ·have := h.bound _ h1
    obtain ⟨r, g1, g2, g3, g4⟩ := zhv h d _ h1 (by omega)
    exact ⟨r, g1, g2, g3, fun Q hQ hs' => g4 Q hQ (h5 Q hQ hs')⟩
  ·rename_i hb
   obtain ⟨h6, _, h8⟩ := h4 (by simpa using hb)
   exact ⟨_, rfl, h1, by rw [h6]; exact h8, h5⟩
theorem grow_up {ps : List Fl.P} : ∀ (k : Nat) (s r : σ), zb2 step ps k s = some r → zb2 step ps (k + 1) s = some r
 | 0, _, _, h => by simp [zb2] at h
 | k + 1, s, r, h => by
  have e : ∀ k, zb2 step ps (k + 1) s = if (zc5 step ps s).2 = true then zb2 step ps k (zc5 step ps s).1 else some (zc5 step ps s).1 := fun _ => rfl
  rw [e] at h ⊢
  split
  ·rename_i c
   rw [if_pos c] at h
   exact grow_up k _ _ h
  ·rename_i c
   rw [if_neg c] at h
   exact h
theorem grow_Ev {ps : List Fl.P} {d : Nat} {s r : σ} (h : zb2 step ps d s = some r) : Ev (fun k => zb2 step ps k s) r := Ev.of (fun k => (fun r h => grow_up k s r h)) h
theorem cnt_set : ∀ (bs : List Bool) (i : Nat), i < bs.length → bs.getD i false = false → (bs.set i true).count true = bs.count true + 1
 | [], i, h, _ => by simp at h
 | b :: t, 0, _, hb => by
  have : b = false := hb
  subst this
  simp
 | b :: t, i + 1, h, hb => by
  have := cnt_set t i (by simpa using h) hb
  simp only [Y3, List.count_cons, this]
  omega
theorem steps_D {N : Nat} {ps : List Fl.P} (hps : ∀ p ∈ ps, PrOk N p) : Steps zb7 ps (fun bs => bs.length = N) (fun bs => bs.count true) N := by
 refine ⟨fun s p _ hs => ?_, fun s p hp hs h => ?_, fun s p _ _ h => ?_, fun s hs => by rw [← hs]; exact List.count_le_length⟩
 ·unfold zb7
  split
  ·exact hs
  ·rw [List.length_set]; exact hs
 ·have h1 := (hps p hp).1
  have h2 := (hps p hp).2.1
  unfold zb7 at h ⊢
  split at h
  ·cases h
  ·rename_i c
   rw [if_neg c]
   rw [Bool.not_eq_true, Bool.or_eq_false_iff] at c
   show _ < (s.set _ true).count true
   rw [cnt_set s p.1.toNat (by omega) c.1]
   omega
 ·unfold zb7 at h ⊢
  split
  ·rfl
  ·rename_i c
   rw [if_neg c] at h
   cases h
def szs (FS : List (List Int)) : Nat := (FS.map List.length).sum
theorem szs_set : ∀ (FS : List (List Int)) (i : Nat) (X : List Int), i < FS.length → szs (FS.set i X) + (FS.getD i []).length = szs FS + X.length
 | [], i, _, h => by simp at h
 | S :: t, 0, X, _ => by simp [szs]; omega
 | S :: t, i + 1, X, h => by
  have := szs_set t i X (by simpa using h)
  simp only [szs, Y3, List.map_cons, List.sum_cons, List.getD_cons_succ] at *
  omega
theorem szs_le : ∀ (FS : List (List Int)), (∀ S ∈ FS, S.length ≤ 1000000) → szs FS ≤ FS.length * 1000000
 | [], _ => by simp [szs]
 | S :: t, h => by
  have h1 := h S (by simp)
  have h2 := szs_le t (fun T hT => h T (by simp [hT]))
  simp only [szs, List.map_cons, List.sum_cons, List.length_cons] at *
  omega
theorem inv_szs {N : Nat} {FS : List (List Int)} (h : Inv N FS) : szs FS ≤ N * 1000000 := by
 have := szs_le FS (fun S hS => by
  obtain ⟨i, hi, rfl⟩ := List.mem_iff_getElem.1 hS
  have := h.len i
  rwa [List.getD_eq_getElem?_getD, List.getElem?_eq_getElem hi] at this)
 rwa [h.l] at this
theorem zgp (x : Int) : ∀ l : List Int, putV l x = l ∨ (putV l x).length = l.length + 1
 | [] => .inr rfl
 | a :: t => by
  simp only [putV]
  split
  ·exact .inr rfl
  ·split
   ·exact .inl rfl
   ·rcases zgp x t with h | h
    ·exact .inl (by rw [h])
    ·exact .inr (by simp [h])
theorem unionV_ge : ∀ (xs l : List Int), l.length ≤ (zbf l xs).length
 | [], l => Nat.le_refl _
 | x :: t, l => by
  have h1 := unionV_ge t (putV l x)
  have h2 : l.length ≤ (putV l x).length := by rcases zgp x l with h | h <;> rw [h] <;> omega
  exact Nat.le_trans h2 h1
theorem unionV_id : ∀ (xs l : List Int), (zbf l xs).length ≤ l.length → zbf l xs = l
 | [], l, _ => rfl
 | x :: t, l, h => by
  have e : zbf l (x :: t) = zbf (putV l x) t := rfl
  rw [e] at h ⊢
  have h1 := unionV_ge t (putV l x)
  rcases zgp x l with h2 | h2
  ·rw [h2] at h ⊢
   exact unionV_id t l h
  ·omega
theorem set_getD (FS : List (List Int)) (i : Nat) : FS.set i (FS.getD i []) = FS := by
 by_cases h : i < FS.length
 ·rw [List.getD_eq_getElem?_getD, List.getElem?_eq_getElem h]
  exact List.set_getElem_self _
 ·exact List.set_eq_of_length_le (by omega)
theorem steps_F {N : Nat} {em : List Bool} {ps : List Fl.P} (hps : ∀ p ∈ ps, PrOk N p) : Steps (zcg N em) ps (Inv N) szs (N * 1000000) := by
 refine ⟨fun s p _ hs => Inv.zcg hs, fun s p hp hs h => ?_, fun s p _ _ h => ?_, fun s hs => inv_szs hs⟩
 ·have h1 := (hps p hp).1
  have h2 := (hps p hp).2.1
  have h3 := szs_set s p.1.toNat (zbf (s.getD p.1.toNat []) (ahV N em s p.2.1 [])) (by rw [hs.l]; omega)
  have h4 := of_decide_eq_true h
  show szs s < szs (s.set _ _)
  omega
 ·have h4 := of_decide_eq_false h
  have h5 := unionV_id (ahV N em s p.2.1 []) (s.getD p.1.toNat []) (by omega)
  show s.set _ _ = s
  rw [h5, set_getD]
end
theorem zfl (l : List S42) (i : Nat) (h : i < l.length) : l.drop i = zaf l (i : Int) :: l.drop (i + 1) := by
 rw [List.drop_eq_getElem_cons h]
 congr 1
 show _ = l.getD ((i : Int)).toNat z42
 rw [Int.toNat_natCast, List.getD_eq_getElem?_getD, List.getElem?_eq_getElem h]
 rfl
theorem zgq (l : List S44) (i : Nat) (h : i < l.length) : l.drop i = za3 l (i : Int) :: l.drop (i + 1) := by
 rw [List.drop_eq_getElem_cons h]
 congr 1
 show _ = l.getD ((i : Int)).toNat z44
 rw [Int.toNat_natCast, List.getD_eq_getElem?_getD, List.getElem?_eq_getElem h]
 rfl
theorem zjc (l : List S42) (i : Nat) (h : i < l.length) : zaf l (i : Int) ∈ l := by
 have := zfl l i h
 exact List.mem_of_mem_drop (i := i) (by rw [this]; simp)
theorem rd48_mem (l : List S44) (i : Nat) (h : i < l.length) : za3 l (i : Int) ∈ l := by
 have := zgq l i h
 exact List.mem_of_mem_drop (i := i) (by rw [this]; simp)
theorem light_Ev (t n : List ByteArray) (l : List S42) (hl : l.length ≤ 100000000000000) : ∃ b, Ev (fun k => zbe.f k t n l) b := by
 have go : ∀ (d i : Nat) (x : Int), i + d = l.length → ∃ b, Ev (fun k => zbe.l0 k x (i : Int) t n l) b := by
  intro d
  induction d with
  | zero =>
   intro i x hi
   exact ⟨_, evAt fun k => by simp only [zbe.l0]; rw [if_neg (by omega)]⟩
  | succ d ih =>
   intro i x hi
   by_cases hx : x ≥ 0
   ·obtain ⟨b, e⟩ := ih (i + 1) (wrap64 ((wrap64 (x - 1)) - (((zaf l i).f1).length : Int))) (by omega)
    refine ⟨b, Ev.step (fun k => ?_) e⟩
    simp only [zbe.l0]
    rw [if_pos (by omega), if_pos hx, if_pos (by omega), w64 (x := (i : Int) + 1) (by omega) (by omega)]
    rfl
   ·exact ⟨_, evAt fun k => by simp only [zbe.l0]; rw [if_pos (by omega), if_neg hx]⟩
 exact go l.length 0 _ (by omega)
theorem titles_Ev (l : List ByteArray) (hl : l.length ≤ 100000000000000) : ∃ b, Ev (fun k => zaw.f k l) b := by
 have go : ∀ (d i : Nat), i + d = l.length → ∃ b, Ev (fun k => zaw.l0 k l (i : Int)) b := by
  intro d
  induction d with
  | zero =>
   intro i hi
   exact ⟨_, evAt fun k => by simp only [zaw.l0]; rw [if_neg (by omega)]⟩
  | succ d ih =>
   intro i hi
   by_cases h1 : (rdOf ByteArray.empty l (i : Int)).toList = ([] : List UInt8)
   ·exact ⟨_, evAt fun k => by simp only [zaw.l0]; rw [if_pos (by omega), if_pos (by omega), if_pos h1]⟩
   ·by_cases h2 : ((rdOf ByteArray.empty l (i : Int)).size : Int) > 80
    ·exact ⟨_, evAt fun k => by simp only [zaw.l0]; rw [if_pos (by omega), if_pos (by omega), if_neg h1, if_pos h2]⟩
    ·obtain ⟨b, e⟩ := ih (i + 1) (by omega)
     refine ⟨b, Ev.step (fun k => ?_) e⟩
     simp only [zaw.l0]
     rw [if_pos (by omega), if_pos (by omega), if_neg h1, if_neg h2, w64 (x := (i : Int) + 1) (by omega) (by omega)]
     rfl
 exact go l.length 0 (by omega)
theorem letter_some (a : Int) : ∃ b, zcb.f a = some b := by
 unfold zcb.f
 repeat' split
 all_goals exact ⟨_, rfl⟩
theorem digit_some (a : Int) : ∃ b, zcd.f a = some b := by
 unfold zcd.f
 repeat' split
 all_goals exact ⟨_, rfl⟩
theorem name7_Ev (s : ByteArray) (hs : s.size ≤ 1000000000000000) : ∃ b, Ev (fun k => za7.f k s) b := by
 have go : ∀ (d i : Nat), i + d = s.size → ∃ b, Ev (fun k => za7.l0 k s (i : Int)) b := by
  intro d
  induction d with
  | zero =>
   intro i hi
   by_cases h : s.toList = ([] : List UInt8)
   ·exact ⟨_, evAt fun k => by simp only [za7.l0]; rw [if_neg (by omega), if_pos h]⟩
   ·exact ⟨_, evAt fun k => by simp only [za7.l0]; rw [if_neg (by omega), if_neg h]⟩
  | succ d ih =>
   intro i hi
   obtain ⟨b, e⟩ := ih (i + 1) (by omega)
   have hw := w64 (x := (i : Int) + 1) (by omega) (by omega)
   obtain ⟨c, hc⟩ := letter_some (bt s (i : Int))
   obtain ⟨c2, hc2⟩ := digit_some (bt s (i : Int))
   cases c with
   | true =>
    refine ⟨b, Ev.step (fun k => ?_) e⟩
    simp only [za7.l0]
    rw [if_pos (by omega), if_pos (by omega), hc, hw]
    rfl
   | false =>
    by_cases h0 : (i : Int) = 0
    ·refine ⟨false, evAt fun k => ?_⟩
     simp only [za7.l0]
     rw [if_pos (by omega), if_pos (by omega), hc]
     simp only [Option.bind_some, Bool.false_eq_true, if_false]
     rw [if_pos h0]
    ·cases c2 with
     | true =>
      refine ⟨b, Ev.step (fun k => ?_) e⟩
      simp only [za7.l0]
      rw [if_pos (by omega), if_pos (by omega), hc, hw]
      simp only [Option.bind_some, Bool.false_eq_true, if_false]
      rw [if_neg h0, hc2]
      rfl
     | false =>
      refine ⟨false, evAt fun k => ?_⟩
      simp only [za7.l0]
      rw [if_pos (by omega), if_pos (by omega), hc]
      simp only [Option.bind_some, Bool.false_eq_true, if_false]
      rw [if_neg h0, hc2]
      rfl
 exact go s.size 0 (by omega)
theorem name9_Ev (s : ByteArray) (hs : s.size ≤ 1000000000000000) : ∃ b, Ev (fun k => zbb.f k s) b := by
 unfold zbb.f
 by_cases h : s.toList = ([] : List UInt8)
 ·exact ⟨true, by simp only [if_pos h]; exact Ev.now _⟩
 ·obtain ⟨b, e⟩ := name7_Ev s hs
  exact ⟨b, by simp only [if_neg h]; exact Ev.bind e (Ev.now _)⟩
def prFit (t : Nat) (n : Int) (p : S42) : Prop := (t : Int) ≤ p.f0 ∧ p.f0 < n ∧ p.f1.length ≤ 64 ∧ ∀ x ∈ p.f1, 0 ≤ x.f0 ∧ x.f0 < n
theorem fit_items (t n : List ByteArray) (l : List S42) (x3 : Int) (i : Nat) (p : S42) (hp : p.f1.length ≤ 100000000000000) (hok : ∀ x ∈ p.f1, x.f1.size ≤ 1000000000000000 ∧ x.f2.size ≤ 1000000000000000) (hi : i ≤ 100000000000000)
  (Pr : Prop) (hn : ∃ b, Ev (fun k => zai.l0 k x3 ((i + 1 : Nat) : Int) t n l) b ∧ (b = true → Pr)) :
  ∀ (d j : Nat), j + d = p.f1.length → ∃ b, Ev (fun k => zai.l1 k x3 (i : Int) (j : Int) t n l p.f0 p.f1 p.f2) b ∧ (b = true → Pr ∧ ∀ x ∈ p.f1.drop j, 0 ≤ x.f0 ∧ x.f0 < x3) := by
 intro d
 induction d with
 | zero =>
  intro j hj
  obtain ⟨b, e, g⟩ := hn
  refine ⟨b, Ev.step (fun k => ?_) e, fun hb => ⟨g hb, fun x hx => ?_⟩⟩
  ·simp only [zai.l1]
   rw [if_neg (by omega), w64 (x := (i : Int) + 1) (by omega) (by omega)]
   rfl
  ·rw [List.drop_of_length_le (by omega)] at hx
   exact nomatch hx
 | succ d ih =>
  intro j hj
  have hx := hok _ (rd48_mem p.f1 j (by omega))
  by_cases h1 : (za3 p.f1 (j : Int)).f0 < 0
  ·exact ⟨false, evAt fun k => by simp only [zai.l1]; rw [if_pos (by omega), if_pos (by omega), if_pos h1], fun h => nomatch h⟩
  by_cases h2 : (za3 p.f1 (j : Int)).f0 ≥ x3
  ·exact ⟨false, evAt fun k => by simp only [zai.l1]; rw [if_pos (by omega), if_pos (by omega), if_neg h1, if_pos h2], fun h => nomatch h⟩
  obtain ⟨b1, e1⟩ := name9_Ev _ hx.1
  obtain ⟨b2, e2⟩ := name9_Ev _ hx.2
  obtain ⟨b, e, g⟩ := ih (j + 1) (by omega)
  have hs : ∀ k, zai.l1 (k + 1) x3 (i : Int) (j : Int) t n l p.f0 p.f1 p.f2 = (zbb.f k (za3 p.f1 (j : Int)).f1).bind fun t114 => (if t114 = true then ((zbb.f k (za3 p.f1 (j : Int)).f2).bind fun t115 => (if t115 = true then zai.l1 k x3 (i : Int) ((j + 1 : Nat) : Int) t n l p.f0 p.f1 p.f2 else some false)) else some false) := fun k => by
   simp only [zai.l1]
   rw [if_pos (by omega), if_pos (by omega), if_neg h1, if_neg h2, w64 (x := (j : Int) + 1) (by omega) (by omega)]
   rfl
  cases b1 with
  | false => exact ⟨false, Ev.step hs (Ev.bind e1 (by simp only [Bool.false_eq_true, if_false]; exact Ev.now _)), fun h => nomatch h⟩
  | true =>
   cases b2 with
   | false => exact ⟨false, Ev.step hs (Ev.bind e1 (by simp only [if_true]; exact Ev.bind e2 (by simp only [Bool.false_eq_true, if_false]; exact Ev.now _))), fun h => nomatch h⟩
   | true =>
    refine ⟨b, Ev.step hs (Ev.bind e1 (by simp only [if_true]; exact Ev.bind e2 (by simp only [if_true]; exact e))), fun hb => ?_⟩
    obtain ⟨g1, g2⟩ := g hb
    refine ⟨g1, fun x hx' => ?_⟩
    rw [zgq p.f1 j (by omega)] at hx'
    rcases List.mem_cons.1 hx' with rfl | hx'
    ·exact ⟨by omega, by omega⟩
    ·exact g2 x hx'
theorem fit_prods (t n : List ByteArray) (l : List S42) (x3 : Int) (hl : l.length ≤ 100000000000000) (hok : ∀ p ∈ l, p.f1.length ≤ 100000000000000 ∧ ∀ x ∈ p.f1, x.f1.size ≤ 1000000000000000 ∧ x.f2.size ≤ 1000000000000000) :
  ∀ (d i : Nat), i + d = l.length → ∃ b, Ev (fun k => zai.l0 k x3 (i : Int) t n l) b ∧ (b = true → ∀ p ∈ l.drop i, prFit t.length x3 p) := by
 intro d
 induction d with
 | zero =>
  intro i hi
  refine ⟨true, evAt fun k => by simp only [zai.l0]; rw [if_neg (by omega)], fun _ p hp => ?_⟩
  rw [List.drop_of_length_le (by omega)] at hp
  exact nomatch hp
 | succ d ih =>
  intro i hi
  have hp := hok _ (zjc l i (by omega))
  have hd := zfl l i (by omega)
  generalize hpe : zaf l (i : Int) = p at hp hd
  have bad : ∀ k, zai.j2 (k + 1) x3 (i : Int) true t n l p.f0 p.f1 p.f2 = some false := fun k => by simp only [zai.j2]; rw [if_pos trivial]
  have step : ∀ b, (∀ k, zai.l0 (k + 1) x3 (i : Int) t n l = zai.j2 k x3 (i : Int) b t n l p.f0 p.f1 p.f2) → (b = false → (t.length : Int) ≤ p.f0 ∧ p.f0 < x3 ∧ p.f1.length ≤ 64) →
    ∃ b, Ev (fun k => zai.l0 k x3 (i : Int) t n l) b ∧ (b = true → ∀ p ∈ l.drop i, prFit t.length x3 p) := by
   intro b hk hb
   cases b with
   | true => exact ⟨false, Ev.step hk (evAt bad), fun h => nomatch h⟩
   | false =>
    obtain ⟨q1, q2, q3⟩ := hb rfl
    obtain ⟨b, e, g⟩ := fit_items t n l x3 i p hp.1 hp.2 (by omega) _ (ih (i + 1) (by omega)) p.f1.length 0 (by omega)
    refine ⟨b, Ev.step hk (Ev.step (fun k => ?_) e), fun hb' q hq => ?_⟩
    ·simp only [zai.j2]
     rw [if_neg (by decide)]
     rfl
    ·obtain ⟨g1, g2⟩ := g hb'
     rw [hd] at hq
     rcases List.mem_cons.1 hq with rfl | hq
     ·exact ⟨q1, q2, q3, fun x hx => g2 x (by rw [List.drop_zero]; exact hx)⟩
     ·exact g1 q hq
  by_cases c1 : p.f0 < (t.length : Int)
  ·exact step true (fun k => by simp only [zai.l0]; rw [hpe, if_pos (by omega), if_pos (by omega), if_pos c1]) (fun h => nomatch h)
  by_cases c2 : p.f0 ≥ x3
  ·exact step true (fun k => by simp only [zai.l0]; rw [hpe, if_pos (by omega), if_pos (by omega), if_neg c1, if_pos c2]) (fun h => nomatch h)
  by_cases c3 : (i : Int) > 0
  ·have hw := w64 (x := (i : Int) - 1) (by omega) (by omega)
   by_cases c4 : (zaf l ((i : Int) - 1)).f0 > p.f0
   ·exact step true (fun k => by simp only [zai.l0]; rw [hpe, hw, if_pos (by omega), if_pos (by omega), if_neg c1, if_neg c2, if_pos c3, if_pos (by omega), if_pos (by omega), if_pos c4]) (fun h => nomatch h)
   by_cases c5 : (p.f1.length : Int) > 64
   ·exact step true (fun k => by simp only [zai.l0]; rw [hpe, hw, if_pos (by omega), if_pos (by omega), if_neg c1, if_neg c2, if_pos c3, if_pos (by omega), if_pos (by omega), if_neg c4, if_pos c5]) (fun h => nomatch h)
   by_cases c6 : p.f2 < -10000
   ·exact step true (fun k => by simp only [zai.l0]; rw [hpe, hw, if_pos (by omega), if_pos (by omega), if_neg c1, if_neg c2, if_pos c3, if_pos (by omega), if_pos (by omega), if_neg c4, if_neg c5, if_pos c6]) (fun h => nomatch h)
   ·exact step (decide (p.f2 > 10000)) (fun k => by simp only [zai.l0]; rw [hpe, hw, if_pos (by omega), if_pos (by omega), if_neg c1, if_neg c2, if_pos c3, if_pos (by omega), if_pos (by omega), if_neg c4, if_neg c5, if_neg c6]) (fun _ => ⟨by omega, by omega, by omega⟩)
  ·by_cases c5 : (p.f1.length : Int) > 64
   ·exact step true (fun k => by simp only [zai.l0]; rw [hpe, if_pos (by omega), if_pos (by omega), if_neg c1, if_neg c2, if_neg c3, if_pos c5]) (fun h => nomatch h)
   by_cases c6 : p.f2 < -10000
   ·exact step true (fun k => by simp only [zai.l0]; rw [hpe, if_pos (by omega), if_pos (by omega), if_neg c1, if_neg c2, if_neg c3, if_neg c5, if_pos c6]) (fun h => nomatch h)
   ·exact step (decide (p.f2 > 10000)) (fun k => by simp only [zai.l0]; rw [hpe, if_pos (by omega), if_pos (by omega), if_neg c1, if_neg c2, if_neg c3, if_neg c5, if_neg c6]) (fun _ => ⟨by omega, by omega, by omega⟩)
theorem fit_Ev (t n : List ByteArray) (l : List S42) (ht : t.length ≤ 100000000000000) (hn : n.length ≤ 100000000000000) (hl : l.length ≤ 100000000000000) (hok : ∀ p ∈ l, p.f1.length ≤ 100000000000000 ∧ ∀ x ∈ p.f1, x.f1.size ≤ 1000000000000000 ∧ x.f2.size ≤ 1000000000000000) :
  ∃ b, Ev (fun k => zai.f k t n l) b ∧ (b = true → 1 ≤ n.length ∧ t.length + n.length ≤ 600 ∧ l.length ≤ 400 ∧ ∀ p ∈ l, prFit t.length ((t.length + n.length : Nat) : Int) p) := by
 have hw := w64 (x := (t.length : Int) + (n.length : Int)) (by omega) (by omega)
 have bad : ∀ (g : Nat → Option Bool), (∀ k, g k = zai.j0 k ((t.length : Int) + (n.length : Int)) true t n l) → Ev g false := fun g hg => Ev.congr hg (evAt fun k => by simp only [zai.j0]; rw [if_pos trivial])
 by_cases c1 : (n.length : Int) = 0
 ·exact ⟨false, bad _ (fun k => by unfold zai.f; rw [hw, if_pos c1]), fun h => nomatch h⟩
 by_cases c2 : (t.length : Int) + (n.length : Int) > 600
 ·exact ⟨false, bad _ (fun k => by unfold zai.f; rw [hw, if_neg c1, if_pos c2]), fun h => nomatch h⟩
 by_cases c3 : (l.length : Int) > 400
 ·exact ⟨false, bad _ (fun k => by unfold zai.f; rw [hw, if_neg c1, if_neg c2, if_pos c3]), fun h => nomatch h⟩
 obtain ⟨b1, e1⟩ := titles_Ev t ht
 obtain ⟨b2, e2⟩ := titles_Ev n hn
 have hf : ∀ k, zai.f k t n l = (zaw.f k t).bind fun t107 => (if t107 = true then ((zaw.f k n).bind fun t108 => (zai.j0 k ((t.length : Int) + (n.length : Int)) (!t108) t n l)) else (zai.j0 k ((t.length : Int) + (n.length : Int)) true t n l)) := fun k => by unfold zai.f; rw [hw, if_neg c1, if_neg c2, if_neg c3]
 cases b1 with
 | false => exact ⟨false, Ev.congr hf (Ev.bind e1 (by simp only [Bool.false_eq_true, if_false]; exact bad _ (fun k => rfl))), fun h => nomatch h⟩
 | true =>
  cases b2 with
  | false => exact ⟨false, Ev.congr hf (Ev.bind e1 (by simp only [if_true]; exact Ev.bind e2 (bad _ (fun k => rfl)))), fun h => nomatch h⟩
  | true =>
   obtain ⟨b, e, g⟩ := fit_prods t n l ((t.length : Int) + (n.length : Int)) hl hok l.length 0 (by omega)
   have e3 : Ev (fun k => zai.j0 k ((t.length : Int) + (n.length : Int)) (!true) t n l) b := Ev.step (f := fun k => zai.l0 k ((t.length : Int) + (n.length : Int)) 0 t n l) (fun k => by simp only [zai.j0]; rw [if_neg (by decide)]) e
   refine ⟨b, Ev.congr hf (Ev.bind e1 (by simp only [if_true]; exact Ev.bind e2 e3)), fun hb => ⟨by omega, by omega, by omega, fun p hp => ?_⟩⟩
   ·have := g hb p (by rw [List.drop_zero]; exact hp)
    rwa [Int.natCast_add]
section
open Go.Proofs.ZZ.Grow Go.Proofs.ZZ.Deri
theorem stepD_len (bs : List Bool) (p : Fl.P) : (zb7 bs p).1.length = bs.length := by
 unfold zb7
 split
 ·rfl
 ·exact List.length_set
theorem roundD (bs : List Bool) (ch : Bool) (p : S42) : zce zb7 (bs, ch) (prE p) = if (!at_ bs p.f0 && p.f1.all (fun x => at_ bs x.f0)) = true then (bs.set p.f0.toNat true, true) else (bs, ch) := by
 have e : (at_ bs p.f0 || (p.f1.map itE).any (fun x => !at_ bs x.1)) = !(!at_ bs p.f0 && p.f1.all (fun x => at_ bs x.f0)) := by
  rw [Bool.not_and, Bool.not_not, List.any_map, List.not_all_eq_any_not]
  rfl
 unfold zce zb7
 show ((if (at_ bs p.f0 || (p.f1.map itE).any (fun x => !at_ bs x.1)) = true then (bs, false) else (bs.set p.f0.toNat true, true)).1, ch || (if (at_ bs p.f0 || (p.f1.map itE).any (fun x => !at_ bs x.1)) = true then (bs, false) else (bs.set p.f0.toNat true, true)).2) = _
 rw [e]
 cases (!at_ bs p.f0 && p.f1.all (fun x => at_ bs x.f0)) <;> simp
theorem zit : ∀ (qs : List Fl.P) (s : List Bool × Bool), (qs.foldl (zce zb7) s).1.length = s.1.length
 | [], _ => rfl
 | p :: t, s => by
  have := zit t (zce zb7 s p)
  rw [List.foldl_cons, this]
  exact stepD_len s.1 p
end
section
open Go.Proofs.ZZ.Grow Go.Proofs.ZZ.Deri
theorem empty_items (t n : List ByteArray) (l : List S42) (ch : Bool) (i : Nat) (p : S42) (bs : List Bool) (hi : i ≤ 100000000000000) (h0 : 0 ≤ p.f0) (h1 : p.f0 < (bs.length : Int)) (hl : p.f1.length ≤ 100000000000000) (hx : ∀ x ∈ p.f1, 0 ≤ x.f0 ∧ x.f0 < (bs.length : Int)) (r : List Bool) (fin : Bool)
  (hT : fin = true → Ev (fun k => zan.l1 k (bs.set p.f0.toNat true) true ((i + 1 : Nat) : Int) t n l) r) (hF : fin = false → Ev (fun k => zan.l1 k bs ch ((i + 1 : Nat) : Int) t n l) r) :
  ∀ (d j : Nat) (al : Bool), j + d = p.f1.length → (al && (p.f1.drop j).all (fun x => at_ bs x.f0)) = fin → Ev (fun k => zan.l2 k bs ch (i : Int) al (j : Int) t n l p.f0 p.f1 p.f2) r := by
 intro d
 induction d with
 | zero =>
  intro j al hj hf
  have hw := w64 (x := (i : Int) + 1) (by omega) (by omega)
  rw [List.drop_of_length_le (by omega), List.all_nil, Bool.and_true] at hf
  cases al with
  | true =>
   refine Ev.step (fun k => ?_) (hT hf.symm)
   simp only [zan.l2]
   rw [if_neg (by omega), if_pos trivial, if_pos h0, if_pos h1, hw]
   rfl
  | false =>
   refine Ev.step (fun k => ?_) (hF hf.symm)
   simp only [zan.l2]
   rw [if_neg (by omega), if_neg (by decide), hw]
   rfl
 | succ d ih =>
  intro j al hj hf
  have hxj := hx _ (rd48_mem p.f1 j (by omega))
  rw [zgq p.f1 j (by omega), List.all_cons] at hf
  have hw := w64 (x := (j : Int) + 1) (by omega) (by omega)
  cases al with
  | true =>
   refine Ev.step (fun k => ?_) (ih (j + 1) (at_ bs (za3 p.f1 (j : Int)).f0) (by omega) (by simpa using hf))
   simp only [zan.l2]
   rw [if_pos (by omega), if_pos trivial, if_pos (by omega), if_pos hxj.1, if_pos hxj.2, hw]
   rfl
  | false =>
   refine Ev.step (fun k => ?_) (ih (j + 1) false (by omega) (by simpa using hf))
   simp only [zan.l2]
   rw [if_pos (by omega), if_neg (by decide), hw]
   rfl
theorem empty_prods (t n : List ByteArray) (l : List S42) (N : Nat) (hl : l.length ≤ 1000000000) (hok : ∀ p ∈ l, 0 ≤ p.f0 ∧ p.f0 < (N : Int) ∧ p.f1.length ≤ 100000000000000 ∧ ∀ x ∈ p.f1, 0 ≤ x.f0 ∧ x.f0 < (N : Int)) (r : List Bool) :
  ∀ (d i : Nat) (bs : List Bool) (ch : Bool), i + d = l.length → bs.length = N → Ev (fun k => zan.l0 k (((l.drop i).map prE).foldl (zce zb7) (bs, ch)).1 (((l.drop i).map prE).foldl (zce zb7) (bs, ch)).2 t n l) r → Ev (fun k => zan.l1 k bs ch (i : Int) t n l) r := by
 intro d
 induction d with
 | zero =>
  intro i bs ch hi hb h
  rw [List.drop_of_length_le (by omega)] at h
  refine Ev.step (fun k => ?_) h
  simp only [zan.l1]
  rw [if_neg (by omega)]
  rfl
 | succ d ih =>
  intro i bs ch hi hb h
  have hp := hok _ (zjc l i (by omega))
  rw [zfl l i (by omega), List.map_cons, List.foldl_cons, roundD] at h
  generalize hpe : zaf l (i : Int) = p at hp h
  have hT : (!at_ bs p.f0 && p.f1.all (fun x => at_ bs x.f0)) = true → Ev (fun k => zan.l1 k (bs.set p.f0.toNat true) true ((i + 1 : Nat) : Int) t n l) r := fun c => by
   rw [if_pos c] at h
   exact ih (i + 1) _ _ (by omega) (by rw [List.length_set]; exact hb) h
  have hF : (!at_ bs p.f0 && p.f1.all (fun x => at_ bs x.f0)) = false → Ev (fun k => zan.l1 k bs ch ((i + 1 : Nat) : Int) t n l) r := fun c => by
   rw [if_neg (by rw [c]; decide)] at h
   exact ih (i + 1) _ _ (by omega) hb h
  have e := empty_items t n l ch i p bs (by omega) hp.1 (by rw [hb]; exact hp.2.1) hp.2.2.1 (by rw [hb]; exact hp.2.2.2) r _ hT hF p.f1.length 0 (!at_ bs p.f0) (by omega) (by rw [List.drop_zero])
  refine Ev.step (fun k => ?_) e
  simp only [zan.l1]
  rw [hpe, if_pos (by omega), if_pos (by omega), if_pos hp.1, if_pos (by rw [hb]; exact hp.2.1)]
  rfl
theorem zij (t n : List ByteArray) (l : List S42) (N : Nat) (hl : l.length ≤ 1000000000) (hok : ∀ p ∈ l, 0 ≤ p.f0 ∧ p.f0 < (N : Int) ∧ p.f1.length ≤ 100000000000000 ∧ ∀ x ∈ p.f1, 0 ≤ x.f0 ∧ x.f0 < (N : Int)) (r : List Bool) :
  ∀ (m : Nat) (bs : List Bool), bs.length = N → zb2 zb7 (l.map prE) m bs = some r → Ev (fun k => zan.l0 k bs true t n l) r
 | 0, _, _, h => by simp [zb2] at h
 | m + 1, bs, hb, h => by
  have e : zb2 zb7 (l.map prE) (m + 1) bs = if (zc5 zb7 (l.map prE) bs).2 = true then zb2 zb7 (l.map prE) m (zc5 zb7 (l.map prE) bs).1 else some (zc5 zb7 (l.map prE) bs).1 := rfl
  rw [e] at h
  have hlen : (zc5 zb7 (l.map prE) bs).1.length = N := (zit _ (bs, false)).trans hb
  have hn : Ev (fun k => zan.l0 k (zc5 zb7 (l.map prE) bs).1 (zc5 zb7 (l.map prE) bs).2 t n l) r := by
   cases c : (zc5 zb7 (l.map prE) bs).2 with
   | true =>
    rw [if_pos c] at h
    exact zij t n l N hl hok r m _ hlen h
   | false =>
    rw [if_neg (by rw [c]; decide)] at h
    cases h
    exact evAt fun k => by simp only [zan.l0]; rw [if_neg (by decide)]
  refine Ev.step (fun k => ?_) (empty_prods t n l N hl hok r l.length 0 bs false (by omega) hb (by rw [List.drop_zero]; exact hn))
  simp only [zan.l0]
  rw [if_pos trivial]
  rfl
end
section
open Go.Proofs.ZZ.Grow Go.Proofs.ZZ.Deri
theorem size_eq (t n : List ByteArray) (l : List S42) (h : t.length + n.length ≤ 1000000) : zcx.f t n l = some ((t.length + n.length : Nat) : Int) := by
 unfold zcx.f
 rw [w64 (by omega) (by omega), Int.natCast_add]
theorem rempty_Ev (t n : List ByteArray) (l : List S42) (hN : t.length + n.length ≤ 1000000) (hl : l.length ≤ 1000000000) (hok : ∀ p ∈ l, 0 ≤ p.f0 ∧ p.f0 < ((t.length + n.length : Nat) : Int) ∧ p.f1.length ≤ 100000000000000 ∧ ∀ x ∈ p.f1, 0 ≤ x.f0 ∧ x.f0 < ((t.length + n.length : Nat) : Int)) (m : Nat) (r : List Bool) (h : zb2 zb7 (l.map prE) m (List.replicate (t.length + n.length) false) = some r) :
  Ev (fun k => zan.f k t n l) r := by
 unfold zan.f
 simp only [size_eq t n l hN, Option.bind_some]
 simp only [if_pos (show (0 : Int) ≤ ((t.length + n.length : Nat) : Int) by omega), if_pos (show (((t.length + n.length : Nat) : Int)).toNat ≤ 281474976710656 by omega)]
 exact zij t n l _ hl hok r m _ (by rw [Int.toNat_natCast, List.length_replicate]) (by rw [Int.toNat_natCast]; exact h)
end
section
open Go.Proofs.ZZ.Grow Go.Proofs.ZZ.Deri Go.Proofs.ZZ.Begin Go.Proofs.ZZ.Begun Go.Proofs.ZZ.MSet Go.Proofs.ZZ.LInv Go.Proofs.ZZ.LrK Go.Proofs.ZZ.LFlat Go.Proofs.ZZ.LClos Go.Proofs.ZZ.LReach
theorem ok_bounds {t n : List ByteArray} {l : List S42} (h : ok25 ⟨t, n, l⟩) : t.length ≤ 100000000000000 ∧ n.length ≤ 100000000000000 ∧ l.length ≤ 100000000000000 ∧ ∀ p ∈ l, p.f1.length ≤ 100000000000000 ∧ ∀ x ∈ p.f1, x.f1.size ≤ 1000000000000000 ∧ x.f2.size ≤ 1000000000000000 := by
 obtain ⟨⟨h1, _⟩, ⟨h2, _⟩, h3, h4⟩ := h
 simp only at h1 h2 h3
 refine ⟨by omega, by omega, by omega, fun p hp => ?_⟩
 obtain ⟨_, ⟨h5, h6⟩, _⟩ := h4 p hp
 refine ⟨by omega, fun x hx => ?_⟩
 obtain ⟨_, h7, h8⟩ := h6 x hx
 exact ⟨by omega, by omega⟩
theorem items_l0 (l : List S42) (hl : l.length ≤ 16) (hp : ∀ p ∈ l, p.f1.length ≤ 64) (d : Nat) : ∀ (i : Nat) (acc : Int), i + d = l.length → 0 ≤ acc → acc ≤ 64 * i →
  ∃ v : Int, Ev (fun k => zbi.l0 k acc l (l.length : Int) (i : Int)) v ∧ acc ≤ v ∧ ∀ p ∈ l.drop i, (p.f1.length : Int) ≤ v := by
 induction d with
 | zero =>
  intro i acc hi h0 h1
  refine ⟨acc, evAt fun k => ?_, Int.le_refl _, fun p hp => ?_⟩
  ·simp only [zbi.l0]
   rw [if_neg (by omega)]
  ·rw [List.drop_of_length_le (by omega)] at hp
   exact nomatch hp
 | succ d ih =>
  intro i acc hi h0 h1
  have hq := hp _ (zjc l i (by omega))
  obtain ⟨v, e, g1, g2⟩ := ih (i + 1) (acc + ((zaf l (i : Int)).f1.length : Int)) (by omega) (by omega) (by omega)
  refine ⟨v, Ev.step (fun k => ?_) e, by omega, fun p hp' => ?_⟩
  ·simp only [zbi.l0]
   rw [if_pos (by omega), if_pos (by omega), if_pos (by omega), w64 (x := acc + _) (by omega) (by omega), w64 (x := (i : Int) + 1) (by omega) (by omega)]
   rfl
  ·rw [zfl l i (by omega)] at hp'
   rcases List.mem_cons.1 hp' with rfl | hp'
   ·omega
   ·exact g2 p hp'
theorem few_Ev {t n : List ByteArray} {l : List S42} (h : ok25 ⟨t, n, l⟩) : ∃ b, Ev (fun k => zct.f k t n l) b ∧ (b = true → 1 ≤ n.length ∧ t.length + n.length ≤ 16 ∧ l.length ≤ 16 ∧ (∀ p ∈ l, p.f1.length ≤ 60) ∧ ∀ p ∈ l, prFit t.length ((t.length + n.length : Nat) : Int) p) := by
 obtain ⟨h1, h2, h3, h4⟩ := ok_bounds h
 obtain ⟨b1, e1⟩ := light_Ev t n l h3
 unfold zct.f
 cases b1 with
 | false => exact ⟨false, Ev.bind e1 (by simp only [Bool.false_eq_true, if_false]; exact Ev.now _), fun h => nomatch h⟩
 | true =>
  obtain ⟨b2, e2, g2⟩ := fit_Ev t n l h1 h2 h3 h4
  cases b2 with
  | false => exact ⟨false, Ev.bind e1 (by simp only [if_true]; exact Ev.bind e2 (by simp only [Bool.false_eq_true, if_false]; exact Ev.now _)), fun h => nomatch h⟩
  | true =>
   obtain ⟨q1, q2, q3, q4⟩ := g2 rfl
   have hw := w64 (x := (t.length : Int) + (n.length : Int)) (by omega) (by omega)
   by_cases c : (t.length : Int) + (n.length : Int) ≤ 16
   ·by_cases c2 : (l.length : Int) ≤ 16
    ·obtain ⟨v, e3, g3, g4⟩ := items_l0 l (by omega) (fun p hp => (q4 p hp).2.2.1) l.length 0 0 (by omega) (by omega) (by omega)
     refine ⟨decide (v ≤ 60), Ev.bind e1 (by simp only [if_true]; exact Ev.bind e2 (by simp only [if_true, hw, if_pos c, if_pos c2]; exact Ev.bind (f := fun _ v => some (decide (v ≤ 60))) e3 (Ev.now _))), fun hb => ⟨q1, by omega, by omega, fun p hp => ?_, q4⟩⟩
     have := of_decide_eq_true hb
     have := g4 p hp
     omega
    ·exact ⟨false, Ev.bind e1 (by simp only [if_true]; exact Ev.bind e2 (by simp only [if_true, hw, if_pos c, if_neg c2]; exact Ev.now _)), fun h => nomatch h⟩
   ·exact ⟨false, Ev.bind e1 (by simp only [if_true]; exact Ev.bind e2 (by simp only [if_true, hw, if_neg c]; exact Ev.now _)), fun h => nomatch h⟩
theorem flOk_of {t n : List ByteArray} {l : List S42} (h1 : 1 ≤ n.length) (h2 : t.length + n.length ≤ 999999) (h3 : ∀ p ∈ l, prFit t.length ((t.length + n.length : Nat) : Int) p) : flOk (t.length + n.length) n.length (l.map prE) = true := by
 simp only [flOk, Bool.and_eq_true, decide_eq_true_eq, List.all_eq_true]
 refine ⟨⟨h2, h1⟩, fun q hq => ?_⟩
 obtain ⟨p, hp, rfl⟩ := List.mem_map.1 hq
 obtain ⟨g1, g2, g3, g4⟩ := h3 p hp
 refine ⟨⟨⟨show 0 ≤ p.f0 by omega, g2⟩, ?_⟩, fun i hi => ?_⟩
 ·show (p.f1.map itE).length ≤ 1000
  rw [List.length_map]
  omega
 ·obtain ⟨x, hx, rfl⟩ := List.mem_map.1 hi
  exact g4 x hx
def Under (M : Int) (FS : List (List Int)) : Prop := ∀ S ∈ FS, ∀ x ∈ S, 0 ≤ x ∧ x < M
theorem Under.at {M : Int} {FS : List (List Int)} (h : Under M FS) (i : Nat) : ∀ x ∈ FS.getD i [], 0 ≤ x ∧ x < M := by
 rcases zeq (FS := FS) (i := i) with e | e
 ·rw [e]; exact fun _ h => nomatch h
 ·exact h _ e
theorem Under.set {M : Int} {FS : List (List Int)} (h : Under M FS) (i : Nat) {X : List Int} (hX : ∀ x ∈ X, 0 ≤ x ∧ x < M) : Under M (FS.set i X) := fun S hS => by
 rcases List.mem_or_eq_of_mem_set hS with hS | rfl
 ·exact h S hS
 ·exact hX
theorem rises_few : ∀ {S : List Int} (lo M : Int), zc8 S → (∀ x ∈ S, lo ≤ x ∧ x < M) → lo ≤ M → (S.length : Int) ≤ M - lo
 | [], lo, M, _, _, h => by simp; omega
 | a :: t, lo, M, h, hb, _ => by
  obtain ⟨h1, h2⟩ := List.pairwise_cons.1 h
  have ha := hb a (by simp)
  have := rises_few (S := t) (a + 1) M h2 (fun x hx => ⟨by have := h1 x hx; omega, (hb x (by simp [hx])).2⟩) (by omega)
  rw [List.length_cons]
  omega
theorem ahV_und {N : Nat} {M : Int} {em : List Bool} {Ss : List (List Int)} {B : List Int} (l : List Fl.I) (hS : Under M Ss) (hB : ∀ x ∈ B, 0 ≤ x ∧ x < M) : ∀ x ∈ ahV N em Ss l B, 0 ≤ x ∧ x < M := fun x hx => by
 rcases zh5 N em Ss B x l hx with h | ⟨S, h1, h2⟩
 ·exact hB x h
 ·exact hS S h1 x h2
theorem unionV_und {M : Int} {A B : List Int} (hA : ∀ x ∈ A, 0 ≤ x ∧ x < M) (hB : ∀ x ∈ B, 0 ≤ x ∧ x < M) : ∀ x ∈ zbf A B, 0 ≤ x ∧ x < M := fun x hx => ((zch x _ _).1 hx).elim (hB x) (hA x)
structure Rdys (t n : List ByteArray) (l : List S42) (em : List Bool) (Ss : List (List Int)) : Prop where
 n1 : 1 ≤ n.length
 nn : t.length + n.length ≤ 16
 pl : l.length ≤ 16
 p60 : ∀ p ∈ l.map prE, p.2.1.length ≤ 60
 ok : flOk (t.length + n.length) n.length (l.map prE) = true
 eE : Ev (fun k => zb2 zb7 (l.map prE) k (List.replicate (t.length + n.length) false)) em
 eF : Ev (fun k => zb2 (zcg (t.length + n.length) em) (l.map prE) k (zcq (t.length + n.length) t.length)) Ss
 len : ∀ i, (Ss.getD i []).length ≤ 17
 und : Under ((t.length : Int) + 1) Ss
 lE : em.length = t.length + n.length
 cE : ∀ p ∈ l.map prE, (zb7 em p).2 = false
 cF : ∀ p ∈ l.map prE, (zcg (t.length + n.length) em Ss p).2 = false
 iF : Inv (t.length + n.length) Ss
 qE : ∀ Q : List Bool → Prop, (∀ s p, p ∈ l.map prE → s.length = t.length + n.length → Q s → Q (zb7 s p).1) → Q (List.replicate (t.length + n.length) false) → Q em
 qF : ∀ Q : List (List Int) → Prop, (∀ s p, p ∈ l.map prE → Inv (t.length + n.length) s → Q s → Q (zcg (t.length + n.length) em s p).1) → Q (zcq (t.length + n.length) t.length) → Q Ss
theorem rdys {t n : List ByteArray} {l : List S42} (h1 : 1 ≤ n.length) (h2 : t.length + n.length ≤ 16) (h3 : l.length ≤ 16) (h4 : ∀ p ∈ l, p.f1.length ≤ 60) (h5 : ∀ p ∈ l, prFit t.length ((t.length + n.length : Nat) : Int) p) : ∃ em Ss, Rdys t n l em Ss := by
 have hk := flOk_of h1 (by omega) h5
 have ok : ∀ p ∈ l.map prE, PrOk (t.length + n.length) p := fun p hp => (zg3 hk p hp).1
 obtain ⟨em, a1, a2, a3, a4⟩ := zhv (steps_D ok) _ (List.replicate (t.length + n.length) false) (by simp) (Nat.lt_succ_self _)
 obtain ⟨Ss, c1, c2, c3, c4⟩ := zhv (steps_F (em := em) ok) _ (zcq (t.length + n.length) t.length) (Inv.init (by omega)) (Nat.lt_succ_self _)
 have hU : Under ((t.length : Int) + 1) Ss := c4 (Under ((t.length : Int) + 1)) (fun s p _ _ h => h.set _ (unionV_und (h.at _) (ahV_und _ h (fun _ h => nomatch h)))) (fun S hS x hx => by
  obtain ⟨q, hq, e⟩ := List.mem_iff_getElem.1 hS
  have := zfj (S := S) (by rw [List.getElem?_eq_getElem hq, e])
  subst this
  split at hx
  ·rw [List.mem_singleton] at hx; omega
  ·exact nomatch hx)
 refine ⟨em, Ss, h1, h2, h3, fun p hp => ?_, hk, grow_Ev a1, grow_Ev c1, fun i => ?_, hU, a2, a3, c3, c2, a4, c4⟩
 ·obtain ⟨q, hq, rfl⟩ := List.mem_map.1 hp
  show (q.f1.map itE).length ≤ 60
  rw [List.length_map]
  exact h4 q hq
 ·have := rises_few 0 _ (c2.rise i) (hU.at i) (by omega)
  omega
theorem Rdys.ev {t n : List ByteArray} {l : List S42} {em : List Bool} {Ss : List (List Int)} (H : Rdys t n l em Ss) : Ev (fun k => rdyV k t.length n.length (l.map prE)) (em, Ss) := Ev.bind H.eE (Ev.bind H.eF (Ev.now _))
theorem Rdys.nxt {t n : List ByteArray} {l : List S42} {em : List Bool} {Ss : List (List Int)} (H : Rdys t n l em Ss) (x : Lr) : (nxtV t.length (l.map prE) em Ss x).length ≤ 16336 := by
 refine Nat.le_trans (nxt_len (B := 60) (L := 17) (by omega) H.p60 H.len x) ?_
 rw [List.length_map]
 have := H.pl
 omega
theorem Rdys.clos {t n : List ByteArray} {l : List S42} {em : List Bool} {Ss : List (List Int)} (H : Rdys t n l em Ss) (T : List Lr) (hT : T.length ≤ 100000) : ∃ r, Ev (fun k => zb1 t.length (l.map prE) em Ss k [] T) r ∧ zea t.length (l.map prE) em Ss T (srtL r) ∧ (srtL r).length ≤ 20000 := by
 have h1 := H.nn
 have h2 := H.pl
 have hb : (boxV ((l.map prE).length + 1) (60 + 1) (t.length + 1)).length ≤ 17629 := by
  rw [zg1, List.length_map]
  refine Nat.le_trans (Nat.mul_le_mul (show l.length + 1 ≤ 17 by omega) (Nat.mul_le_mul (Nat.le_refl (60 + 1)) (show t.length + 1 ≤ 17 by omega))) (by decide)
 obtain ⟨r, hr⟩ := zht (n0 := t.length) (ps := l.map prE) (em := em) (Ss := Ss) (B := 60) (C := 16336) (by omega) H.p60 H.nxt _ [] T List.nodup_nil (fun _ h => nomatch h) (Nat.lt_succ_self _) (by
  generalize (boxV ((l.map prE).length + 1) (60 + 1) (t.length + 1)).length = b at *
  simp only [List.length_nil]
  omega)
 have hi := zf6 hr
 refine ⟨r, Ev.of (fun k => LGiv.zhg k _ _) hr, hi, ?_⟩
 have := hi.len (B := 60) (by omega) H.p60
 rw [zg1] at hb
 omega
theorem lrsOk_mk {c : List Lr} (h : ∀ x ∈ c, lrOk x) : lrsOk c = true := by
 simp only [lrsOk, List.all_eq_true, Bool.and_eq_true]
 exact h
theorem lrTS (c : List Lr) : (c.map lrS).map lrT = c := by
 rw [List.map_map, show lrT ∘ lrS = id from rfl, List.map_id]
end
theorem rd39_drop (l : List S50) (i : Nat) (h : i < l.length) : l.drop i = zae l (i : Int) :: l.drop (i + 1) := by
 rw [List.drop_eq_getElem_cons h]
 congr 1
 show _ = l.getD ((i : Int)).toNat z50
 rw [Int.toNat_natCast, List.getD_eq_getElem?_getD, List.getElem?_eq_getElem h]
 rfl
theorem same39_l0 (A B : List S50) (hlen : A.length = B.length) (hA : A.length ≤ 1000000) (d : Nat) : ∀ i : Nat, i + d = A.length → ∃ b, Ev (fun k => zaq.l0 k A B i) b ∧ (b = true ↔ A.drop i = B.drop i) := by
 induction d with
 | zero =>
  intro i hi
  refine ⟨true, evAt fun k => ?_, ⟨fun _ => ?_, fun _ => rfl⟩⟩
  ·simp only [zaq.l0]
   rw [if_neg (by omega)]
  ·rw [List.drop_of_length_le (by omega), List.drop_of_length_le (by omega)]
 | succ d ih =>
  intro i hi
  rw [rd39_drop A i (by omega), rd39_drop B i (by omega)]
  have hne : ((!((zae A i).f0 == (zae B i).f0)) || ((!((zae A i).f1 == (zae B i).f1)) || (!((zae A i).f2 == (zae B i).f2)))) = true ↔ zae A i ≠ zae B i := by
   obtain ⟨a, b, c⟩ := zae A i
   obtain ⟨a', b', c'⟩ := zae B i
   simp only [Bool.or_eq_true, Bool.not_eq_true', beq_eq_false_iff_ne, ne_eq, S50.mk.injEq]
   omega
  by_cases c : zae A i = zae B i
  ·obtain ⟨b, e, g⟩ := ih (i + 1) (by omega)
   refine ⟨b, Ev.step (fun k => ?_) e, ?_⟩
   ·simp only [zaq.l0]
    rw [if_pos (by omega), if_pos (by omega), if_pos (by omega), if_neg (by rw [hne]; exact fun h => h c), w64 (x := (i : Int) + 1) (by omega) (by omega)]
    rfl
   ·rw [g, c]
    simp
  ·refine ⟨false, evAt fun k => ?_, by simp [c]⟩
   simp only [zaq.l0]
   rw [if_pos (by omega), if_pos (by omega), if_pos (by omega), if_pos (by rw [hne]; exact c)]
theorem same39_Ev (A B : List S50) (hA : A.length ≤ 1000000) : ∃ b, Ev (fun k => zaq.f k A B) b ∧ (b = true ↔ A = B) := by
 unfold zaq.f
 by_cases c : A.length = B.length
 ·obtain ⟨b, e, g⟩ := same39_l0 A B c hA A.length 0 (by omega)
  refine ⟨b, ?_, by simpa using g⟩
  simp only [if_pos (show (A.length : Int) = B.length by omega)]
  exact e
 ·refine ⟨false, ?_, by simp; exact fun h => c (by rw [h])⟩
  simp only [if_neg (show ¬ (A.length : Int) = B.length by omega)]
  exact evAt fun _ => rfl
theorem zgv {A B : List S50} (hA : A.length ≤ 1000000) (h : A = B) : Ev (fun k => zaq.f k A B) true := by
 obtain ⟨b, e, g⟩ := same39_Ev A B hA
 rw [g.2 h] at e
 exact e
section
open Go.Proofs.ZZ.Grow Go.Proofs.ZZ.Deri Go.Proofs.ZZ.Begin Go.Proofs.ZZ.Begun Go.Proofs.ZZ.MSet Go.Proofs.ZZ.LInv Go.Proofs.ZZ.LrK Go.Proofs.ZZ.LLex Go.Proofs.ZZ.LFlat Go.Proofs.ZZ.LClos Go.Proofs.ZZ.LStep Go.Proofs.ZZ.LAll Go.Proofs.ZZ.LReach
def far : Nat := 400000000
theorem Rdys.closAt {t n : List ByteArray} {l : List S42} {em : List Bool} {Ss : List (List Int)} (H : Rdys t n l em Ss) (T : List Lr) (hT : T.length ≤ 100000) (k : Nat) (hk : far ≤ k) : ∃ r, zb1 t.length (l.map prE) em Ss k [] T = some r := by
 have h1 := H.nn
 have h2 := H.pl
 have hb : (boxV ((l.map prE).length + 1) (60 + 1) (t.length + 1)).length ≤ 17629 := by
  rw [zg1, List.length_map]
  refine Nat.le_trans (Nat.mul_le_mul (show l.length + 1 ≤ 17 by omega) (Nat.mul_le_mul (Nat.le_refl (60 + 1)) (show t.length + 1 ≤ 17 by omega))) (by decide)
 have hk' : 400000000 ≤ k := hk
 refine zht (n0 := t.length) (ps := l.map prE) (em := em) (Ss := Ss) (B := 60) (C := 16336) (by omega) H.p60 H.nxt k [] T List.nodup_nil (fun _ h => nomatch h) ?_ ?_ <;> generalize (boxV ((l.map prE).length + 1) (60 + 1) (t.length + 1)).length = b at * <;> simp only [List.length_nil] <;> omega
theorem closV_le {n0 : Nat} {ps : List Fl.P} {em : List Bool} {Ss : List (List Int)} {T r : List Lr} {k m : Nat} (h : zb1 n0 ps em Ss k [] T = some r) (hm : k ≤ m) : zb1 n0 ps em Ss m [] T = some r := by
 obtain ⟨d, rfl⟩ : ∃ d, m = k + d := ⟨m - k, by omega⟩
 clear hm
 induction d with
 | zero => exact h
 | succ d ih => exact LGiv.zhg _ _ _ _ ih
def goV (t n : List ByteArray) (l : List S42) (em : List Bool) (Ss : List (List Int)) (row : List Lr) (s : Int) : List Lr := (zen t.length (l.map prE) em Ss far row s).getD []
theorem zed (n0 : Nat) (ps : List Fl.P) (s : Int) : ∀ row : List Lr, (zcr n0 ps s row).length ≤ row.length
 | [] => Nat.le_refl _
 | x :: t => by
  have := zed n0 ps s t
  unfold zcr
  split <;> simp <;> omega
theorem Rdys.go {t n : List ByteArray} {l : List S42} {em : List Bool} {Ss : List (List Int)} (H : Rdys t n l em Ss) {row : List Lr} (hr : row.length ≤ 100000) (s : Int) : (∀ k, far ≤ k → zen t.length (l.map prE) em Ss k row s = some (goV t n l em Ss row s)) ∧ zea t.length (l.map prE) em Ss (zcr t.length (l.map prE) s row) (goV t n l em Ss row s) ∧ (goV t n l em Ss row s).length ≤ 20000 := by
 have hl := Nat.le_trans (zed t.length (l.map prE) s row) hr
 obtain ⟨r, e⟩ := H.closAt _ hl far (Nat.le_refl _)
 have hg : goV t n l em Ss row s = srtL r := by unfold goV zen; rw [e]; rfl
 rw [hg]
 refine ⟨fun k hk => by unfold zen; rw [closV_le e hk]; rfl, zf6 e, ?_⟩
 have := (zf6 e).len (B := 60) (by omega) H.p60
 have h1 := H.nn
 have h2 := H.pl
 rw [List.length_map] at this
 exact Nat.le_trans this (Nat.le_trans (Nat.mul_le_mul (show l.length + 1 ≤ 17 by omega) (Nat.mul_le_mul (Nat.le_refl (60 + 1)) (show t.length + 1 ≤ 17 by omega))) (by decide))
def stV (t n : List ByteArray) (l : List S42) (em : List Bool) (Ss : List (List Int)) : List Lr := (zez t.length (l.map prE) em Ss far).getD []
theorem Rdys.st {t n : List ByteArray} {l : List S42} {em : List Bool} {Ss : List (List Int)} (H : Rdys t n l em Ss) : (∀ k, far ≤ k → zez t.length (l.map prE) em Ss k = some (stV t n l em Ss)) ∧ zea t.length (l.map prE) em Ss [(-1, 0, (t.length : Int))] (stV t n l em Ss) ∧ (stV t n l em Ss).length ≤ 20000 ∧ stV t n l em Ss ≠ [] := by
 obtain ⟨r, e⟩ := H.closAt [(-1, 0, (t.length : Int))] (by simp) far (Nat.le_refl _)
 have hg : stV t n l em Ss = srtL r := by unfold stV zez; rw [e]; rfl
 rw [hg]
 refine ⟨fun k hk => by unfold zez; rw [closV_le e hk]; rfl, zf6 e, ?_, fun h0 => ?_⟩
 ·have := (zf6 e).len (B := 60) (by omega) H.p60
  have h1 := H.nn
  have h2 := H.pl
  rw [List.length_map] at this
  exact Nat.le_trans this (Nat.le_trans (Nat.mul_le_mul (show l.length + 1 ≤ 17 by omega) (Nat.mul_le_mul (Nat.le_refl (60 + 1)) (show t.length + 1 ≤ 17 by omega))) (by decide))
 ·have := ((zf6 e).2 (-1, 0, (t.length : Int))).2 (.base _ (by simp) (zc4.2 ⟨Int.le_refl _, by show (-1 : Int) < _; omega, Int.le_refl _, by show (0 : Int) ≤ _; omega, by show (0 : Int) ≤ (t.length : Int); omega, Int.le_refl _⟩))
  rw [h0] at this
  exact nomatch this
end
section
open Go.Proofs.ZZ.Grow Go.Proofs.ZZ.Deri Go.Proofs.ZZ.Begin Go.Proofs.ZZ.Begun Go.Proofs.ZZ.MSet Go.Proofs.ZZ.LInv Go.Proofs.ZZ.LrK Go.Proofs.ZZ.LLex Go.Proofs.ZZ.LFlat Go.Proofs.ZZ.LClos Go.Proofs.ZZ.LStep Go.Proofs.ZZ.LAll Go.Proofs.ZZ.LReach Go.Proofs.ZZ.LSets
theorem Rdys.goto {t n : List ByteArray} {l : List S42} {em : List Bool} {Ss : List (List Int)} (H : Rdys t n l em Ss) (row : List Lr) (hr : row.length ≤ 100000) (s : Int) : Ev (fun k => zdc.f k t n l (row.map lrS) s) ((goV t n l em Ss row s).map lrS) := by
 unfold zdc.f
 simp only [if_pos (show flOk (t.length + n.length) n.length (l.map prE) = true ∧ l.length ≤ 1000000 ∧ (row.map lrS).length ≤ 1000000000 from ⟨H.ok, by have := H.pl; omega, by rw [List.length_map]; omega⟩), lrTS]
 refine Ev.bind H.ev (Ev.bind (a := goV t n l em Ss row s) ⟨far, fun k hk => (H.go hr s).1 k hk⟩ (Ev.now _))
theorem Rdys.first {t n : List ByteArray} {l : List S42} {em : List Bool} {Ss : List (List Int)} (H : Rdys t n l em Ss) : Ev (fun k => zco.f k t n l) ((stV t n l em Ss).map lrS) := by
 unfold zco.f
 simp only [if_pos (show flOk (t.length + n.length) n.length (l.map prE) = true ∧ l.length ≤ 1000000 from ⟨H.ok, by have := H.pl; omega⟩)]
 refine Ev.bind H.ev (Ev.bind (a := stV t n l em Ss) ⟨far, fun k hk => H.st.1 k hk⟩ (Ev.now _))
end
section
open Go.Proofs.ZZ.Grow Go.Proofs.ZZ.Deri Go.Proofs.ZZ.Begin Go.Proofs.ZZ.Begun Go.Proofs.ZZ.MSet Go.Proofs.ZZ.LInv Go.Proofs.ZZ.LrK Go.Proofs.ZZ.LLex Go.Proofs.ZZ.LFlat Go.Proofs.ZZ.LLooks Go.Proofs.ZZ.LClos Go.Proofs.ZZ.LStep Go.Proofs.ZZ.LAll Go.Proofs.ZZ.LReach
def zec (t : List ByteArray) (l : List S42) (i : Int) : List S44 := if i < 0 then [⟨(t.length : Int), ⟨#[]⟩, ⟨#[]⟩⟩] else (zaf l i).f1
theorem zhz (t n : List ByteArray) (l : List S42) (i : Int) (h : i < l.length) : zbo.f t n l i = some (zec t l i) := by
 unfold zbo.f zec
 by_cases c : i < 0
 ·rw [if_pos c, if_pos c]
 ·rw [if_neg c, if_neg c, if_pos (by omega), if_pos h]
theorem zf0 (t : List ByteArray) (l : List S42) (i : Int) : (zec t l i).map itE = za1 t.length (l.map prE) i := by
 unfold zec za1
 by_cases c : i < 0
 ·rw [if_pos c, if_pos c]; rfl
 ·rw [if_neg c, if_neg c]
  show ((l.getD i.toNat z42).f1).map itE = ((l.map prE).getD i.toNat dP).2.1
  rw [List.getD_eq_getElem?_getD, List.getD_eq_getElem?_getD, List.getElem?_map]
  cases l[i.toNat]? <;> rfl
theorem zex (t : List ByteArray) (l : List S42) (i : Int) : (zec t l i).length = (za1 t.length (l.map prE) i).length := by rw [← zf0, List.length_map]
theorem rfit_eq (t n : List ByteArray) (l : List S42) (x : Lr) : zax.f t n l x.1 x.2.1 x.2.2 = some (fitV t.length (l.map prE) x) := by
 unfold zax.f
 by_cases h0 : x.1 ≥ -1
 ·rw [if_pos h0]
  by_cases h1 : x.1 < (l.length : Int)
  ·rw [if_pos h1]
   by_cases h2 : x.2.1 ≥ 0
   ·rw [if_pos h2, zhz _ _ _ _ h1, Option.bind_some, zex]
    by_cases h3 : x.2.1 ≤ ((za1 t.length (l.map prE) x.1).length : Int)
    ·rw [if_pos h3]
     by_cases h4 : x.2.2 ≥ 0
     ·rw [if_pos h4]
      congr 1
      simp [fitV, h0, h1, h2, h3, h4, show (-1 : Int) ≤ x.1 from h0, show (0 : Int) ≤ x.2.1 from h2, show (0 : Int) ≤ x.2.2 from h4]
     ·rw [if_neg h4]; simp [fitV, show ¬ (0 : Int) ≤ x.2.2 from h4]
    ·rw [if_neg h3]; simp [fitV, h3]
   ·rw [if_neg h2]; simp [fitV, show ¬ (0 : Int) ≤ x.2.1 from h2]
  ·rw [if_neg h1]; simp [fitV, h1]
 ·rw [if_neg h0]; simp [fitV, show ¬ (-1 : Int) ≤ x.1 from h0]
theorem zgf (t n : List ByteArray) (l : List S42) (x : Lr) : zbr.f t n l x.1 x.2.1 x.2.2 = some ((zbx t.length (l.map prE) x).getD 0, (zbx t.length (l.map prE) x).isSome) := by
 unfold zbr.f zbx
 rw [rfit_eq, Option.bind_some]
 by_cases h : fitV t.length (l.map prE) x = true
 ·obtain ⟨h0, h1, h2, h3, h4, h5⟩ := zc4.1 h
  rw [List.length_map] at h1
  rw [if_pos h, if_pos h, zhz _ _ _ _ h1, Option.bind_some, Option.bind_some, zex]
  by_cases hl : x.2.1.toNat < (za1 t.length (l.map prE) x.1).length
  ·have hl' : x.2.1.toNat < (zec t l x.1).length := by rw [zex]; exact hl
   rw [if_neg (by omega), if_pos h2, if_pos (by omega), List.getElem?_eq_getElem hl]
   show some (((zec t l x.1).getD x.2.1.toNat _).f0, true) = some (((za1 t.length (l.map prE) x.1)[x.2.1.toNat]'hl).1, true)
   have e : (za1 t.length (l.map prE) x.1)[x.2.1.toNat]'hl = itE ((zec t l x.1)[x.2.1.toNat]'hl') := by
    have := zf0 t l x.1
    simp only [← this, List.getElem_map]
   rw [e, List.getD_eq_getElem?_getD, List.getElem?_eq_getElem hl']
   rfl
  ·rw [if_pos (by omega), List.getElem?_eq_none (by omega)]
   rfl
 ·rw [if_neg h, if_neg h]; rfl
theorem before_eq (x y : Lr) : zcf.f x.1 x.2.1 x.2.2 y.1 y.2.1 y.2.2 = some (decide (bef x y)) := by
 unfold zcf.f
 by_cases h0 : x.1 = y.1
 ·rw [if_pos h0]
  by_cases h1 : x.2.1 = y.2.1
  ·rw [if_pos h1]
   congr 1
   exact decide_eq_decide.2 (by unfold bef; omega)
  ·rw [if_neg h1]
   congr 1
   exact decide_eq_decide.2 (by unfold bef; omega)
 ·rw [if_neg h0]
  congr 1
  exact decide_eq_decide.2 (by unfold bef; omega)
theorem insL_at (x : Lr) : ∀ (pre rest : List Lr), (∀ a ∈ pre, bef a x) → (∀ a r, rest = a :: r → bef x a) → insL x (pre ++ rest) = pre ++ x :: rest
 | [], [], _, _ => rfl
 | [], a :: r, _, h => by
  show insL x (a :: r) = x :: a :: r
  unfold insL
  rw [if_pos (h a r rfl)]
 | b :: pre, rest, h1, h2 => by
  have hb := h1 b (by simp)
  show insL x (b :: (pre ++ rest)) = b :: (pre ++ x :: rest)
  unfold insL
  rw [if_neg (fun g => zdh _ (zfg hb g)), insL_at x pre rest (fun a ha => h1 a (by simp [ha])) h2]
def putR (S : List Lr) (x : Lr) : List Lr := if x ∈ S then S else insL x S
theorem putR_rises {S : List Lr} (h : zdb S) (x : Lr) : zdb (putR S x) := by
 unfold putR
 split
 ·exact h
 ·rename_i c; exact zhj x h c
theorem zer {S : List Lr} {x y : Lr} : y ∈ putR S x ↔ y = x ∨ y ∈ S := by
 unfold putR
 split
 ·rename_i c
  exact ⟨.inr, fun h => h.elim (fun e => by rw [e]; exact c) id⟩
 ·rw [zhi]
theorem putR_len (S : List Lr) (x : Lr) : (putR S x).length = if x ∈ S then S.length else S.length + 1 := by
 unfold putR
 split
 ·rfl
 ·rw [zi3]
theorem rdS (S : List Lr) (i : Nat) (h : i < S.length) : zae (S.map lrS) (i : Int) = lrS S[i] := by
 show (S.map lrS).getD ((i : Int)).toNat z50 = _
 rw [Int.toNat_natCast, List.getD_eq_getElem?_getD, List.getElem?_map, List.getElem?_eq_getElem h]
 rfl
theorem eqS_iff (a b : Lr) : (((lrS a).f0 == b.1) && (((lrS a).f1 == b.2.1) && ((lrS a).f2 == b.2.2))) = true ↔ a = b := by
 obtain ⟨a1, a2, a3⟩ := a
 obtain ⟨b1, b2, b3⟩ := b
 simp only [lrS, Bool.and_eq_true, beq_iff_eq, Prod.mk.injEq]
theorem rput_l0 (S : List Lr) (x : Lr) (hS : zdb S) (hl : S.length ≤ 1000000) (d : Nat) : ∀ i : Nat, i + d = S.length → (∀ a ∈ S.take i, bef a x) → Ev (fun k => zar.l0 k (S.map lrS) (i : Int) x.1 x.2.1 x.2.2) ((putR S x).map lrS) := by
 have hlm : (S.map lrS).length = S.length := List.length_map _
 have fin : ∀ i : Nat, i ≤ S.length → (∀ a ∈ S.take i, bef a x) → (∀ a r, S.drop i = a :: r → bef x a) → (putR S x).map lrS = ([] ++ (S.map lrS).take i ++ [(⟨x.1, x.2.1, x.2.2⟩ : S50)]) ++ (S.map lrS).drop i := by
  intro i hi h1 h2
  have hn : x ∉ S := by
   intro hx
   rw [← List.take_append_drop i S] at hx
   rcases List.mem_append.1 hx with hx | hx
   ·exact zdh _ (h1 x hx)
   ·cases e : S.drop i with
    | nil => rw [e] at hx; exact nomatch hx
    | cons a r =>
     have hxa := h2 a r e
     rw [e] at hx
     rcases List.mem_cons.1 hx with rfl | hx
     ·exact zdh _ hxa
     ·have hr : zdb (a :: r) := by rw [← e]; exact List.Pairwise.sublist (List.drop_sublist _ _) hS
      exact zdh _ (zfg hxa ((List.pairwise_cons.1 hr).1 x hx))
  unfold putR
  rw [if_neg hn]
  have := insL_at x (S.take i) (S.drop i) h1 h2
  rw [List.take_append_drop] at this
  rw [this, List.map_append, List.map_cons, List.nil_append, List.append_assoc, List.map_take, List.map_drop]
  rfl
 induction d with
 | zero =>
  intro i hi h1
  have e := fin i (by omega) h1 (fun a r h => by rw [List.drop_of_length_le (by omega)] at h; exact nomatch h)
  rw [e]
  refine Ev.step (fun k => by
   simp only [zar.l0]
   rw [if_neg (by omega), if_pos (by omega), if_pos (by omega)]) (Ev.bind (Ev.now _) ?_)
  simp only [Int.toNat_natCast, List.length_nil, if_pos (show 0 + ((S.map lrS).take i).length < 5864062014805 by rw [List.length_take]; omega)]
  refine Ev.bind (Ev.now _) ?_
  simp only [List.nil_append, if_pos (show ((S.map lrS).take i).length < 5864062014805 by rw [List.length_take]; omega)]
  refine Ev.bind (Ev.now _) (Ev.bind (Ev.now _) ?_)
  simp only [if_pos (show ((S.map lrS).take i ++ [(⟨x.1, x.2.1, x.2.2⟩ : S50)]).length + ((S.map lrS).drop i).length < 5864062014805 by rw [List.length_append, List.length_take, List.length_drop, List.length_singleton]; omega)]
  exact Ev.now _
 | succ d ih =>
  intro i hi h1
  have hi' : i < S.length := by omega
  have hrd := rdS S i hi'
  have hbe := before_eq S[i] x
  refine Ev.step (fun k => by
   simp only [zar.l0]
   rw [if_pos (by omega), if_pos (by omega), hrd]
   rfl) (Ev.bind (a := decide (bef S[i] x)) (Ev.congr (fun k => hbe) (Ev.now _)) ?_)
  by_cases c : bef S[i] x
  ·simp only [decide_eq_true c, if_true, w64 (x := (i : Int) + 1) (by omega) (by omega)]
   refine ih (i + 1) (by omega) (fun a ha => ?_)
   rw [List.take_succ_eq_append_getElem hi'] at ha
   rcases List.mem_append.1 ha with ha | ha
   ·exact h1 a ha
   ·rw [List.mem_singleton] at ha; subst ha; exact c
  ·simp only [decide_eq_false c, Bool.false_eq_true, if_false]
   by_cases c2 : S[i] = x
   ·simp only [if_pos ((eqS_iff S[i] x).2 c2)]
    have : putR S x = S := by unfold putR; rw [if_pos (by rw [← c2]; exact List.getElem_mem hi')]
    rw [this]
    exact Ev.now _
   ·have hxa : bef x S[i] := Decidable.not_not.1 fun g => c2 (bef_tri c g)
    have e := fin i (by omega) h1 (fun a r h => by rw [List.drop_eq_getElem_cons hi'] at h; rw [← (List.cons.inj h).1]; exact hxa)
    rw [e]
    have hq : ¬ (((lrS S[i]).f0 == x.1) && (((lrS S[i]).f1 == x.2.1) && ((lrS S[i]).f2 == x.2.2))) = true := fun h => c2 ((eqS_iff S[i] x).1 h)
    simp only [if_neg hq, if_pos (show (i : Int) ≤ ((S.map lrS).length : Int) by omega)]
    refine Ev.bind (Ev.now _) ?_
    simp only [Int.toNat_natCast, List.length_nil, if_pos (show 0 + ((S.map lrS).take i).length < 5864062014805 by rw [List.length_take]; omega)]
    refine Ev.bind (Ev.now _) ?_
    simp only [List.nil_append, if_pos (show ((S.map lrS).take i).length < 5864062014805 by rw [List.length_take]; omega)]
    refine Ev.bind (Ev.now _) (Ev.bind (Ev.now _) ?_)
    exact Ev.congr (fun k => if_pos (show ((S.map lrS).take i ++ [(⟨x.1, x.2.1, x.2.2⟩ : S50)]).length + ((S.map lrS).drop i).length < 5864062014805 by rw [List.length_append, List.length_take, List.length_drop, List.length_singleton]; omega)) (Ev.now _)
theorem rput_Ev (S : List Lr) (x : Lr) (hS : zdb S) (hl : S.length ≤ 1000000) : Ev (fun k => zar.f k (S.map lrS) x.1 x.2.1 x.2.2) ((putR S x).map lrS) := by
 unfold zar.f
 exact rput_l0 S x hS hl S.length 0 (by omega) (fun a ha => by simp at ha)
end
section
open Go.Proofs.ZZ.Grow Go.Proofs.ZZ.Deri Go.Proofs.ZZ.Begin Go.Proofs.ZZ.Begun Go.Proofs.ZZ.MSet Go.Proofs.ZZ.LInv Go.Proofs.ZZ.LrK Go.Proofs.ZZ.LLex Go.Proofs.ZZ.LFlat Go.Proofs.ZZ.LLooks Go.Proofs.ZZ.LClos Go.Proofs.ZZ.LStep Go.Proofs.ZZ.LAll Go.Proofs.ZZ.LReach
theorem zf8 (x : Int) : ∀ (pre rest : List Int), (∀ a ∈ pre, a < x) → (∀ a r, rest = a :: r → x < a) → putV (pre ++ rest) x = pre ++ x :: rest
 | [], [], _, _ => rfl
 | [], a :: r, _, h => by
  show putV (a :: r) x = x :: a :: r
  unfold putV
  rw [if_pos (h a r rfl)]
 | b :: pre, rest, h1, h2 => by
  have hb := h1 b (by simp)
  show putV (b :: (pre ++ rest)) x = b :: (pre ++ x :: rest)
  unfold putV
  rw [if_neg (by omega), if_neg (by omega), zf8 x pre rest (fun a ha => h1 a (by simp [ha])) h2]
theorem putV_is (x : Int) : ∀ (pre rest : List Int), (∀ a ∈ pre, a < x) → putV (pre ++ x :: rest) x = pre ++ x :: rest
 | [], rest, _ => by
  show putV (x :: rest) x = x :: rest
  unfold putV
  rw [if_neg (by omega), if_pos rfl]
 | b :: pre, rest, h1 => by
  have hb := h1 b (by simp)
  show putV (b :: (pre ++ x :: rest)) x = b :: (pre ++ x :: rest)
  unfold putV
  rw [if_neg (by omega), if_neg (by omega), putV_is x pre rest (fun a ha => h1 a (by simp [ha]))]
theorem rdI' (l : List Int) (i : Nat) (h : i < l.length) : rd l (i : Int) = l[i] := by
 unfold rd
 rw [Int.toNat_natCast, List.getD_eq_getElem?_getD, List.getElem?_eq_getElem h]
 rfl
theorem rputI_l0 (l : List Int) (x : Int) (hl : l.length ≤ 1000000) (d : Nat) : ∀ i : Nat, i + d = l.length → (∀ a ∈ l.take i, a < x) → Ev (fun k => zbs.l0 k l x (i : Int)) (putV l x) := by
 have fin : ∀ i : Nat, i ≤ l.length → (∀ a ∈ l.take i, a < x) → (∀ a r, l.drop i = a :: r → x < a) → putV l x = ([] ++ l.take i ++ [x]) ++ l.drop i := by
  intro i hi h1 h2
  have := zf8 x (l.take i) (l.drop i) h1 h2
  rw [List.take_append_drop] at this
  rw [this, List.nil_append, List.append_assoc]
  rfl
 induction d with
 | zero =>
  intro i hi h1
  rw [fin i (by omega) h1 (fun a r h => by rw [List.drop_of_length_le (by omega)] at h; exact nomatch h)]
  refine Ev.step (fun k => by
   simp only [zbs.l0]
   rw [if_neg (by omega), if_pos (by omega), if_pos (by omega)]) (Ev.bind (Ev.now _) ?_)
  simp only [Int.toNat_natCast, List.length_nil, if_pos (show 0 + (l.take i).length < 17592186044416 by rw [List.length_take]; omega)]
  refine Ev.bind (Ev.now _) ?_
  simp only [List.nil_append, if_pos (show (l.take i).length < 17592186044416 by rw [List.length_take]; omega)]
  refine Ev.bind (Ev.now _) (Ev.bind (Ev.now _) ?_)
  simp only [if_pos (show (l.take i ++ [x]).length + (l.drop i).length < 17592186044416 by rw [List.length_append, List.length_take, List.length_drop, List.length_singleton]; omega)]
  exact Ev.now _
 | succ d ih =>
  intro i hi h1
  have hi' : i < l.length := by omega
  by_cases c : l[i] < x
  ·refine Ev.step (fun k => ?_) (ih (i + 1) (by omega) (fun a ha => ?_))
   ·simp only [zbs.l0]
    rw [if_pos (by omega), if_pos (by omega), rdI' l i hi', if_pos c, w64 (x := (i : Int) + 1) (by omega) (by omega)]
    rfl
   ·rw [List.take_succ_eq_append_getElem hi'] at ha
    rcases List.mem_append.1 ha with ha | ha
    ·exact h1 a ha
    ·rw [List.mem_singleton] at ha; subst ha; exact c
  ·by_cases c2 : l[i] = x
   ·have : putV l x = l := by
     have := putV_is x (l.take i) (l.drop (i + 1)) h1
     rw [← c2, ← List.drop_eq_getElem_cons hi', List.take_append_drop] at this
     rw [← c2]
     exact this
    rw [this]
    refine evAt fun k => ?_
    simp only [zbs.l0]
    rw [if_pos (by omega), if_pos (by omega), rdI' l i hi', if_neg c, if_pos c2]
   ·rw [fin i (by omega) h1 (fun a r h => by rw [List.drop_eq_getElem_cons hi'] at h; rw [← (List.cons.inj h).1]; omega)]
    refine Ev.step (fun k => by
     simp only [zbs.l0]
     rw [if_pos (by omega), if_pos (by omega), rdI' l i hi', if_neg c, if_neg c2, if_pos (by omega)]) (Ev.bind (Ev.now _) ?_)
    simp only [Int.toNat_natCast, List.length_nil, if_pos (show 0 + (l.take i).length < 17592186044416 by rw [List.length_take]; omega)]
    refine Ev.bind (Ev.now _) ?_
    simp only [List.nil_append, if_pos (show (l.take i).length < 17592186044416 by rw [List.length_take]; omega)]
    refine Ev.bind (Ev.now _) (Ev.bind (Ev.now _) ?_)
    simp only [if_pos (show (l.take i ++ [x]).length + (l.drop i).length < 17592186044416 by rw [List.length_append, List.length_take, List.length_drop, List.length_singleton]; omega)]
    exact Ev.now _
theorem zg8 (l : List Int) (x : Int) : (putV l x).length ≤ l.length + 1 := by
 rcases zgp x l with h | h
 ·rw [h]; omega
 ·omega
theorem zf3 : ∀ (xs l : List Int), (zbf l xs).length ≤ l.length + xs.length
 | [], _ => Nat.le_refl _
 | x :: t, l => by
  have h1 := zf3 t (putV l x)
  have h2 := zg8 l x
  show (zbf (putV l x) t).length ≤ _
  rw [List.length_cons]
  omega
theorem runion_l0 (xs : List Int) (hx : xs.length ≤ 100000) (d : Nat) : ∀ (i : Nat) (acc : List Int), i + d = xs.length → acc.length + d ≤ 1000000 → Ev (fun k => zbd.l0 k acc xs (i : Int)) (zbf acc (xs.drop i)) := by
 induction d with
 | zero =>
  intro i acc hi ha
  rw [List.drop_of_length_le (by omega)]
  refine evAt fun k => ?_
  simp only [zbd.l0]
  rw [if_neg (by omega)]
  rfl
 | succ d ih =>
  intro i acc hi ha
  have hi' : i < xs.length := by omega
  rw [List.drop_eq_getElem_cons hi']
  have hl := zg8 acc xs[i]
  refine Ev.step (fun k => by
   simp only [zbd.l0]
   rw [if_pos (by omega), if_pos (by omega), rdI' xs i hi', w64 (x := (i : Int) + 1) (by omega) (by omega)]) ?_
  refine Ev.bind (a := putV acc xs[i]) ?_ (ih (i + 1) (putV acc xs[i]) (by omega) (by omega))
  unfold zbs.f
  exact rputI_l0 acc xs[i] (by omega) acc.length 0 (by omega) (fun a ha => by simp at ha)
theorem runion_Ev (acc xs : List Int) (ha : acc.length ≤ 800000) (hx : xs.length ≤ 100000) : Ev (fun k => zbd.f k acc xs) (zbf acc xs) := by
 unfold zbd.f
 have := runion_l0 xs hx xs.length 0 acc (by omega) (by omega)
 rwa [List.drop_zero] at this
def lkR (em : List Bool) (Ss : List (List Int)) : List Int → List Fl.I → List Int × Bool
 | L, [] => (L, true)
 | L, i :: t => if at_ em i.1 = true then lkR em Ss (zbf L (Ss.getD i.1.toNat [])) t else (zbf L (Ss.getD i.1.toNat []), false)
def lkF (em : List Bool) (Ss : List (List Int)) (lk : Int) (B : List Fl.I) : List Int := if (lkR em Ss [] B).2 = true then zbf (lkR em Ss [] B).1 [lk] else (lkR em Ss [] B).1
theorem lkR_mem (em : List Bool) (Ss : List (List Int)) (lk y : Int) : ∀ (B : List Fl.I) (L : List Int), y ∈ (if (lkR em Ss L B).2 = true then zbf (lkR em Ss L B).1 [lk] else (lkR em Ss L B).1) ↔ y ∈ L ∨ y ∈ zda em Ss lk B
 | [], L => by
  simp only [lkR, zda, if_true, zch]
  exact Or.comm
 | i :: t, L => by
  simp only [lkR, zda]
  by_cases c : at_ em i.1 = true
  ·simp only [if_pos c]
   rw [lkR_mem em Ss lk y t, zch, List.mem_append]
   constructor
   ·rintro ((h | h) | h)
    ·exact .inr (.inl h)
    ·exact .inl h
    ·exact .inr (.inr h)
   ·rintro (h | h | h)
    ·exact .inl (.inr h)
    ·exact .inl (.inl h)
    ·exact .inr h
  ·simp only [if_neg c]
   rw [if_neg Bool.false_ne_true, zch, List.append_nil]
   exact Or.comm
theorem lkF_mem (em : List Bool) (Ss : List (List Int)) (lk y : Int) (B : List Fl.I) : y ∈ lkF em Ss lk B ↔ y ∈ zda em Ss lk B := by
 unfold lkF
 rw [lkR_mem em Ss lk y B []]
 simp
theorem lkR_len {em : List Bool} {Ss : List (List Int)} {M : Nat} (hM : ∀ i, (Ss.getD i []).length ≤ M) : ∀ (B : List Fl.I) (L : List Int), (lkR em Ss L B).1.length ≤ L.length + B.length * M
 | [], L => by simp [lkR]
 | i :: t, L => by
  have h1 := zf3 (Ss.getD i.1.toNat []) L
  have h2 := hM i.1.toNat
  simp only [lkR, List.length_cons, Nat.add_mul, Nat.one_mul]
  split
  ·have := lkR_len (em := em) hM t (zbf L (Ss.getD i.1.toNat []))
   omega
  ·show (zbf L (Ss.getD i.1.toNat [])).length ≤ _
   generalize t.length * M = q
   omega
theorem lkF_len {em : List Bool} {Ss : List (List Int)} {M : Nat} (hM : ∀ i, (Ss.getD i []).length ≤ M) (lk : Int) (B : List Fl.I) : (lkF em Ss lk B).length ≤ B.length * M + 1 := by
 have h1 := lkR_len (em := em) hM B []
 rw [List.length_nil] at h1
 unfold lkF
 split
 ·have := zf3 [lk] (lkR em Ss [] B).1
  rw [List.length_singleton] at this
  omega
 ·omega
end
section
open Go.Proofs.ZZ.Grow Go.Proofs.ZZ.Deri Go.Proofs.ZZ.Begin Go.Proofs.ZZ.Begun Go.Proofs.ZZ.MSet Go.Proofs.ZZ.LInv Go.Proofs.ZZ.LrK Go.Proofs.ZZ.LLex Go.Proofs.ZZ.LFlat Go.Proofs.ZZ.LLooks Go.Proofs.ZZ.LClos Go.Proofs.ZZ.LStep Go.Proofs.ZZ.LAll Go.Proofs.ZZ.LReach
variable {t n : List ByteArray} {l : List S42} {em : List Bool} {Ss : List (List Int)}
def nxtR (ps : List Fl.P) (s : Int) (F : List Int) : List Lr := (ofV ps s).flatMap fun p => F.map fun q => (p, 0, q)
theorem ofR_snoc (s : Int) (p : Fl.P) : ∀ (l : List Fl.P) (i : Nat), ofF s i (l ++ [p]) = ofF s i l ++ (if p.1 = s then [((i + l.length : Nat) : Int)] else [])
 | [], i => by simp [ofF]
 | q :: t, i => by
  have := ofR_snoc s p t (i + 1)
  simp only [List.cons_append, ofF, this, List.length_cons, show i + 1 + t.length = i + (t.length + 1) by omega]
  split <;> rfl
theorem rof_l0 (t n : List ByteArray) (l : List S42) (s : Int) (hl : l.length ≤ 1000000) (d : Nat) : ∀ i : Nat, i + d = l.length → Ev (fun k => zbv.l0 k s (ofF s 0 ((l.take i).map prE)) (i : Int) t n l) (ofV (l.map prE) s) := by
 induction d with
 | zero =>
  intro i hi
  refine evAt fun k => ?_
  simp only [zbv.l0]
  rw [if_neg (by omega), List.take_of_length_le (by omega)]
  rfl
 | succ d ih =>
  intro i hi
  have hi' : i < l.length := by omega
  have hr : zaf l (i : Int) = l[i] := by
   have := zfl l i hi'
   rw [List.drop_eq_getElem_cons hi'] at this
   exact (List.cons.inj this).1.symm
  refine Ev.step (fun k => ?_) (ih (i + 1) (by omega))
  have e : ((l.take (i + 1)).map prE) = (l.take i).map prE ++ [prE l[i]] := by rw [List.take_succ_eq_append_getElem hi', List.map_append]; rfl
  have hlen : (ofF s 0 ((l.take i).map prE)).length ≤ 1000000 := by
   have := LReach.zg6 s 0 ((l.take i).map prE)
   rw [List.length_map, List.length_take] at this
   omega
  simp only [zbv.l0]
  rw [if_pos (by omega), if_pos (by omega), hr, w64 (x := (i : Int) + 1) (by omega) (by omega), e, ofR_snoc, List.length_map, List.length_take, Nat.min_eq_left (by omega), Nat.zero_add]
  by_cases c : l[i].f0 = s
  ·rw [if_pos c, if_pos (by omega), if_pos (show (prE l[i]).1 = s from c)]
   rfl
  ·rw [if_neg c, if_neg (show ¬ (prE l[i]).1 = s from c), List.append_nil]
   rfl
theorem rof_Ev (t n : List ByteArray) (l : List S42) (s : Int) (hl : l.length ≤ 1000000) : Ev (fun k => zbv.f k t n l s) (ofV (l.map prE) s) := by
 unfold zbv.f
 exact rof_l0 t n l s hl l.length 0 (by omega)
theorem push_l3 (S T : List Lr) (F : List Int) (of : List Int) (i : Nat) (hi : i < of.length) (hF : F.length ≤ 100000) (ho : of.length ≤ 100000) (r : List S50) (d : Nat) : ∀ (j : Nat) (T : List Lr), j + d = F.length → T.length + d ≤ 2000000000 →
  Ev (fun k => zac.l2 k Ss em (S.map lrS) ((T ++ (F.drop j).map fun q => (of[i], 0, q)).map lrS) F of ((i + 1 : Nat) : Int) t n l) r → Ev (fun k => zac.l3 k Ss em (S.map lrS) (T.map lrS) F of (i : Int) (j : Int) t n l) r := by
 induction d with
 | zero =>
  intro j T hj hT he
  rw [List.drop_of_length_le (by omega), List.map_nil, List.append_nil] at he
  refine Ev.step (fun k => ?_) he
  simp only [zac.l3]
  rw [if_neg (by omega), w64 (x := (i : Int) + 1) (by omega) (by omega)]
  rfl
 | succ d ih =>
  intro j T hj hT he
  have hj' : j < F.length := by omega
  rw [List.drop_eq_getElem_cons hj', List.map_cons] at he
  refine Ev.step (fun k => ?_) (ih (j + 1) (T ++ [(of[i], 0, F[j])]) (by omega) (by rw [List.length_append, List.length_singleton]; omega) (by rw [List.append_assoc]; exact he))
  simp only [zac.l3]
  rw [if_pos (by omega), if_pos (by omega), if_pos (by omega), if_pos (by omega), if_pos (by rw [List.length_map]; omega), rdI' of i hi, rdI' F j hj', w64 (x := (j : Int) + 1) (by omega) (by omega), List.map_append]
  rfl
theorem push_l2 (S : List Lr) (F : List Int) (of : List Int) (hF : F.length ≤ 10000) (ho : of.length ≤ 100) (r : List S50) (d : Nat) : ∀ (i : Nat) (T : List Lr), i + d = of.length → T.length + d * 10000 ≤ 2000000000 →
  Ev (fun k => zac.l0 k Ss em (S.map lrS) ((T ++ (of.drop i).flatMap fun p => F.map fun q => (p, 0, q)).map lrS) t n l) r → Ev (fun k => zac.l2 k Ss em (S.map lrS) (T.map lrS) F of (i : Int) t n l) r := by
 induction d with
 | zero =>
  intro i T hi hT he
  rw [List.drop_of_length_le (by omega), List.flatMap_nil, List.append_nil] at he
  refine Ev.step (fun k => ?_) he
  simp only [zac.l2]
  rw [if_neg (by omega)]
 | succ d ih =>
  intro i T hi hT he
  have hi' : i < of.length := by omega
  rw [List.drop_eq_getElem_cons hi', List.flatMap_cons, ← List.append_assoc] at he
  refine Ev.step (fun k => by simp only [zac.l2]; rw [if_pos (by omega)]) ?_
  refine push_l3 S T F of i hi' (by omega) (by omega) r F.length 0 T (by omega) (by omega) ?_
  rw [List.drop_zero]
  exact ih (i + 1) _ (by omega) (by rw [List.length_append, List.length_map]; omega) he
theorem looks_l1 (H : Rdys t n l em Ss) (x : Lr) (s : Int) (S T : List Lr) (B : List S44) (hB : ∀ b ∈ B, 0 ≤ b.f0 ∧ b.f0 < ((t.length + n.length : Nat) : Int)) (r : List S50) (d : Nat) : ∀ (j : Nat) (L : List Int), j + d = B.length → B.length ≤ 1000 → L.length + 17 * d ≤ 100000 →
  Ev (fun k => zac.j4 k Ss em (S.map lrS) (T.map lrS) s (lkR em Ss L ((B.drop j).map itE)).1 (lkR em Ss L ((B.drop j).map itE)).2 t n l x.1 x.2.1 x.2.2) r → Ev (fun k => zac.l1 k Ss em (S.map lrS) (T.map lrS) s L B true (j : Int) t n l x.1 x.2.1 x.2.2) r := by
 induction d with
 | zero =>
  intro j L hj hB2 hL he
  rw [List.drop_of_length_le (by omega)] at he
  refine Ev.step (fun k => ?_) he
  simp only [zac.l1]
  rw [if_neg (by omega)]
  rfl
 | succ d ih =>
  intro j L hj hB2 hL he
  have hj' : j < B.length := by omega
  have hrd : za3 B (j : Int) = B[j] := by
   have := zgq B j hj'
   rw [List.drop_eq_getElem_cons hj'] at this
   exact (List.cons.inj this).1.symm
  obtain ⟨b0, b1⟩ := hB _ (List.getElem_mem hj')
  have hSl : Ss.length = t.length + n.length := H.iF.l
  have hEl := H.lE
  have hM := H.len B[j].f0.toNat
  rw [List.drop_eq_getElem_cons hj', List.map_cons] at he
  refine Ev.step (fun k => by
   simp only [zac.l1, if_true]
   rw [if_pos (by omega), if_pos (by omega), hrd, if_pos b0, if_pos (by omega)]) ?_
  refine Ev.bind (runion_Ev L (zfd Ss B[j].f0) (by omega) (by show (Ss.getD B[j].f0.toNat []).length ≤ _; omega)) ?_
  simp only [if_pos (show B[j].f0 < (em.length : Int) by omega), w64 (x := (j : Int) + 1) (by omega) (by omega)]
  have hU := zf3 (Ss.getD B[j].f0.toNat []) L
  simp only [lkR] at he
  by_cases c : at_ em B[j].f0 = true
  ·rw [if_pos (show at_ em (itE B[j]).1 = true from c)] at he
   have := ih (j + 1) (zbf L (Ss.getD B[j].f0.toNat [])) (by omega) hB2 (by omega) he
   rw [show rdOf false em B[j].f0 = true from c]
   exact this
  ·rw [if_neg (show ¬ at_ em (itE B[j]).1 = true from c)] at he
   rw [show rdOf false em B[j].f0 = false from Bool.not_eq_true _ ▸ c]
   refine Ev.step (fun k => ?_) he
   simp only [zac.l1, Bool.false_eq_true, if_false]
   split <;> rfl
end
section
open Go.Proofs.ZZ.Grow Go.Proofs.ZZ.Deri Go.Proofs.ZZ.Begin Go.Proofs.ZZ.Begun Go.Proofs.ZZ.MSet Go.Proofs.ZZ.LInv Go.Proofs.ZZ.LrK Go.Proofs.ZZ.LLex Go.Proofs.ZZ.LFlat Go.Proofs.ZZ.LLooks Go.Proofs.ZZ.LClos Go.Proofs.ZZ.LStep Go.Proofs.ZZ.LAll Go.Proofs.ZZ.LReach
variable {t n : List ByteArray} {l : List S42} {em : List Bool} {Ss : List (List Int)}
theorem nxtR_mem {x y : Lr} {s : Int} (hn : zbx t.length (l.map prE) x = some s) (hs : ¬ s < t.length) : y ∈ nxtR (l.map prE) s (lkF em Ss x.2.2 ((za1 t.length (l.map prE) x.1).drop (x.2.1.toNat + 1))) ↔ y ∈ nxtV t.length (l.map prE) em Ss x := by
 unfold nxtV nxtR
 rw [hn]
 show _ ↔ y ∈ (if s < (t.length : Int) then [] else _)
 rw [if_neg hs]
 unfold zdw
 simp only [List.mem_flatMap, List.mem_map, lkF_mem]
 constructor
 ·rintro ⟨p, hp, q, hq, rfl⟩
  exact ⟨q, hq, p, hp, rfl⟩
 ·rintro ⟨q, hq, p, hp, rfl⟩
  exact ⟨p, hp, q, hq, rfl⟩
theorem Rdys.right_ok (H : Rdys t n l em Ss) (i : Int) : ∀ b ∈ zec t l i, 0 ≤ b.f0 ∧ b.f0 < ((t.length + n.length : Nat) : Int) := fun b hb => by
 have h1 := H.n1
 have hm : itE b ∈ za1 t.length (l.map prE) i := by rw [← zf0]; exact List.mem_map.2 ⟨b, hb, rfl⟩
 unfold za1 at hm
 split at hm
 ·rw [List.mem_singleton] at hm
  have : b.f0 = (t.length : Int) := congrArg Prod.fst hm
  omega
 ·rw [List.getD_eq_getElem?_getD] at hm
  cases e : (l.map prE)[i.toNat]? with
  | none => rw [e] at hm; exact nomatch hm
  | some q => rw [e] at hm; exact (zg3 H.ok q (List.mem_of_getElem? e)).1.2.2 (itE b) hm
theorem rclos_push (H : Rdys t n l em Ss) {x : Lr} {s : Int} (S T : List Lr) (hf : fitV t.length (l.map prE) x = true) (hn : zbx t.length (l.map prE) x = some s) (hT : T.length ≤ 1000000000) (r : List S50)
  (he : Ev (fun k => zac.l0 k Ss em (S.map lrS) ((T ++ nxtR (l.map prE) s (lkF em Ss x.2.2 ((za1 t.length (l.map prE) x.1).drop (x.2.1.toNat + 1)))).map lrS) t n l) r) :
  Ev (fun k => zac.j2 k Ss em (S.map lrS) (T.map lrS) s false t n l x.1 x.2.1 x.2.2) r := by
 obtain ⟨h0, h1, h2, h3, h4, h5⟩ := zc4.1 hf
 have hpl := H.pl
 have hr60 := zey (n0 := t.length) (B := 60) (by omega) H.p60 x.1
 rw [List.length_map] at h1
 have hlt : x.2.1 < ((za1 t.length (l.map prE) x.1).length : Int) := by
  unfold zbx at hn
  rw [if_pos hf] at hn
  obtain ⟨q, hq, _⟩ := Option.map_eq_some_iff.1 hn
  have := (List.getElem?_eq_some_iff.1 hq).1
  omega
 refine Ev.step (fun k => by
  simp only [zac.j2, Bool.false_eq_true, if_false]
  rw [zhz t n l x.1 h1, Option.bind_some, w64 (x := x.2.1 + 1) (by omega) (by omega), if_pos (by omega), if_pos (by rw [zex]; omega)]) ?_
 have hB : ((zec t l x.1).drop (x.2.1 + 1).toNat).map itE = (za1 t.length (l.map prE) x.1).drop (x.2.1.toNat + 1) := by
  rw [List.map_drop, zf0, show (x.2.1 + 1).toNat = x.2.1.toNat + 1 by omega]
 have hBl : ((zec t l x.1).drop (x.2.1 + 1).toNat).length ≤ 60 := by rw [List.length_drop, zex]; omega
 refine looks_l1 H x s S T _ (fun b hb => H.right_ok x.1 b (List.mem_of_mem_drop hb)) r _ 0 [] (Nat.zero_add _) (by omega) (by simp only [List.length_nil]; omega) ?_
 rw [List.drop_zero, hB]
 have hFl := lkF_len (em := em) H.len x.2.2 ((za1 t.length (l.map prE) x.1).drop (x.2.1.toNat + 1))
 have hB' : ((za1 t.length (l.map prE) x.1).drop (x.2.1.toNat + 1)).length ≤ 60 := by rw [List.length_drop]; omega
 have hof : (ofV (l.map prE) s).length ≤ 16 := by
  have := LReach.zg6 s 0 (l.map prE)
  rw [List.length_map] at this
  show (ofF s 0 (l.map prE)).length ≤ 16
  omega
 have h5 : Ev (fun k => zac.j5 k Ss em (S.map lrS) (T.map lrS) s (lkF em Ss x.2.2 ((za1 t.length (l.map prE) x.1).drop (x.2.1.toNat + 1))) t n l) r := by
  refine Ev.step (fun k => by simp only [zac.j5]; rfl) (Ev.bind (rof_Ev t n l s (by omega)) ?_)
  refine push_l2 S _ (ofV (l.map prE) s) (by omega) (by omega) r _ 0 T (Nat.zero_add _) (by omega) ?_
  rw [List.drop_zero]
  exact he
 have hRl := lkR_len (em := em) H.len ((za1 t.length (l.map prE) x.1).drop (x.2.1.toNat + 1)) []
 rw [List.length_nil] at hRl
 unfold lkF at h5
 by_cases c : (lkR em Ss [] ((za1 t.length (l.map prE) x.1).drop (x.2.1.toNat + 1))).2 = true
 ·rw [if_pos c] at h5
  rw [c]
  refine Ev.step (fun k => by simp only [zac.j4, if_true]; rfl) (Ev.bind (runion_Ev _ _ (by omega) (by simp)) h5)
 ·rw [if_neg c] at h5
  rw [Bool.not_eq_true] at c
  rw [c]
  refine Ev.step (fun k => by simp only [zac.j4, Bool.false_eq_true, if_false]) h5
theorem nxtR_len (H : Rdys t n l em Ss) (x : Lr) (s : Int) : (nxtR (l.map prE) s (lkF em Ss x.2.2 ((za1 t.length (l.map prE) x.1).drop (x.2.1.toNat + 1)))).length ≤ 16336 := by
 have hpl := H.pl
 have hr60 := zey (n0 := t.length) (B := 60) (by omega) H.p60 x.1
 have hFl := lkF_len (em := em) H.len x.2.2 ((za1 t.length (l.map prE) x.1).drop (x.2.1.toNat + 1))
 have hB' : ((za1 t.length (l.map prE) x.1).drop (x.2.1.toNat + 1)).length ≤ 60 := by rw [List.length_drop]; omega
 have hof : (ofV (l.map prE) s).length ≤ 16 := by
  have := LReach.zg6 s 0 (l.map prE)
  rw [List.length_map] at this
  show (ofF s 0 (l.map prE)).length ≤ 16
  omega
 unfold nxtR
 rw [zel _ (lkF em Ss x.2.2 ((za1 t.length (l.map prE) x.1).drop (x.2.1.toNat + 1))).length _ (fun p _ => List.length_map _)]
 exact Nat.le_trans (Nat.mul_le_mul hof (show _ ≤ 1021 by omega)) (by decide)
theorem zh9 {x : Lr} {S1 T : List Lr} {len0 : Int} {r : List S50} (h : ((S1.map lrS).length : Int) = len0 ∨ zbx t.length (l.map prE) x = none ∨ ∃ s, zbx t.length (l.map prE) x = some s ∧ s < (t.length : Int)) (he : Ev (fun k => zac.l0 k Ss em (S1.map lrS) (T.map lrS) t n l) r) :
  Ev (fun k => zac.j1 k Ss em (S1.map lrS) (T.map lrS) len0 t n l x.1 x.2.1 x.2.2) r := by
 have hnx := zgf t n l x
 have step : ∀ z : Int, Ev (fun k => zac.j2 k Ss em (S1.map lrS) (T.map lrS) z true t n l x.1 x.2.1 x.2.2) r := fun z => Ev.step (f := fun k => zac.l0 k Ss em (S1.map lrS) (T.map lrS) t n l) (fun k => by simp only [zac.j2, if_true]) he
 refine Ev.step (f := fun k => zac.j2 k Ss em (S1.map lrS) (T.map lrS) ((zbx t.length (l.map prE) x).getD 0) true t n l x.1 x.2.1 x.2.2) (fun k => ?_) (step _)
 simp only [zac.j1]
 rw [hnx, Option.bind_some]
 by_cases c : ((S1.map lrS).length : Int) = len0
 ·rw [if_pos c]
 ·rw [if_neg c]
  rcases h with h | h | ⟨s, h, hs⟩
  ·exact absurd h c
  ·rw [h]
   rfl
  ·rw [h]
   show (if true = true then zac.j2 k Ss em _ _ s (decide (s < (t.length : Int))) t n l _ _ _ else _) = _
   rw [if_pos rfl, decide_eq_true hs]
   rfl
theorem j1_go {x : Lr} {S1 T : List Lr} {len0 : Int} {s : Int} {r : List S50} (hne : ¬ ((S1.map lrS).length : Int) = len0) (hn : zbx t.length (l.map prE) x = some s) (hs : ¬ s < (t.length : Int)) (he : Ev (fun k => zac.j2 k Ss em (S1.map lrS) (T.map lrS) s false t n l x.1 x.2.1 x.2.2) r) :
  Ev (fun k => zac.j1 k Ss em (S1.map lrS) (T.map lrS) len0 t n l x.1 x.2.1 x.2.2) r := by
 have hnx := zgf t n l x
 refine Ev.step (f := fun k => zac.j2 k Ss em (S1.map lrS) (T.map lrS) s false t n l x.1 x.2.1 x.2.2) (fun k => ?_) he
 simp only [zac.j1]
 rw [hnx, Option.bind_some, if_neg hne, hn]
 show (if true = true then zac.j2 k Ss em _ _ s (decide (s < (t.length : Int))) t n l _ _ _ else _) = _
 rw [if_pos rfl, decide_eq_false hs]
theorem rclos (H : Rdys t n l em Ss) (d : Nat) : ∀ (S T : List Lr), zdb S → (∀ x ∈ S, fitV t.length (l.map prE) x = true) → (17629 - S.length) * 16337 + T.length < d → (17629 - S.length) * 16337 + (T.length + S.length) ≤ 1000000000 →
  (∀ x ∈ S, ∀ y ∈ nxtV t.length (l.map prE) em Ss x, fitV t.length (l.map prE) y = true → y ∈ S ∨ y ∈ T) →
  ∃ r, Ev (fun k => zac.l0 k Ss em (S.map lrS) (T.map lrS) t n l) (r.map lrS) ∧ zdb r ∧ (∀ x ∈ S, x ∈ r) ∧ (∀ x ∈ T, fitV t.length (l.map prE) x = true → x ∈ r) ∧ (∀ x ∈ r, ∀ y ∈ nxtV t.length (l.map prE) em Ss x, fitV t.length (l.map prE) y = true → y ∈ r) ∧
   (∀ Q : Lr → Prop, (∀ x ∈ S, Q x) → (∀ x ∈ T, fitV t.length (l.map prE) x = true → Q x) → (∀ x y, Q x → y ∈ nxtV t.length (l.map prE) em Ss x → fitV t.length (l.map prE) y = true → Q y) → ∀ x ∈ r, Q x) := by
 induction d with
 | zero => exact fun _ _ _ _ h _ _ => absurd h (Nat.not_lt_zero _)
 | succ d ih =>
  intro S T hS hf hd hm hc
  cases T with
  | nil =>
   refine ⟨S, evAt fun k => ?_, hS, fun x hx => hx, fun _ hx => (nomatch hx), fun x hx y hy hfy => (hc x hx y hy hfy).elim id (fun h => nomatch h), fun Q h1 _ _ => h1⟩
   simp only [zac.l0, List.map_nil, List.length_nil]
   rw [if_neg (by omega)]
  | cons x T =>
   have h1 := H.nn
   have h2 := H.pl
   have hbox : ∀ U : List Lr, zdb U → (∀ y ∈ U, fitV t.length (l.map prE) y = true) → U.length ≤ 17629 := fun U hU hfU => by
    have := zgd U _ (zis hU) (fun y hy => zh7 (B := 60) (by omega) H.p60 (hfU y hy))
    rw [zg1, List.length_map] at this
    exact Nat.le_trans this (Nat.le_trans (Nat.mul_le_mul (show l.length + 1 ≤ 17 by omega) (Nat.mul_le_mul (Nat.le_refl (60 + 1)) (show t.length + 1 ≤ 17 by omega))) (by decide))
   have hSl := hbox S hS hf
   rw [List.length_cons] at hd hm
   have hrd : zae ((x :: T).map lrS) 0 = lrS x := rfl
   have front : ∀ r : List S50, Ev (fun k => if fitV t.length (l.map prE) x = true then (zar.f k (S.map lrS) x.1 x.2.1 x.2.2).bind fun t260 => zac.j1 k Ss em t260 (T.map lrS) (S.length : Int) t n l x.1 x.2.1 x.2.2 else zac.j1 k Ss em (S.map lrS) (T.map lrS) (S.length : Int) t n l x.1 x.2.1 x.2.2) r → Ev (fun k => zac.l0 k Ss em (S.map lrS) ((x :: T).map lrS) t n l) r := by
    intro r he
    refine Ev.step (fun k => ?_) he
    simp only [zac.l0]
    rw [if_pos (by rw [List.length_map, List.length_cons]; omega), if_pos (by rw [List.length_map, List.length_cons]; omega), if_pos (by rw [List.length_map, List.length_cons]; omega), hrd]
    have e := rfit_eq t n l x
    show (some (((x :: T).map lrS).drop 1)).bind _ = _
    rw [Option.bind_some]
    show (zax.f t n l x.1 x.2.1 x.2.2).bind _ = _
    rw [e, Option.bind_some, List.length_map]
    rfl
   have hnx := zgf t n l x
   by_cases hfx : fitV t.length (l.map prE) x = true
   rotate_left
   ·
    obtain ⟨r, e, q1, q2, q3, q4, q5⟩ := ih S T hS hf (by omega) (by omega) (fun y hy z hz hfz => (hc y hy z hz hfz).imp id fun h => (List.mem_cons.1 h).resolve_left fun e => hfx (by rw [← e]; exact hfz))
    refine ⟨r, front _ ?_, q1, q2, fun y hy hfy => ?_, q4, fun Q g1 g2 g3 => q5 Q g1 (fun y hy => g2 y (by simp [hy])) g3⟩
    ·simp only [if_neg hfx]
     exact zh9 (.inl (by rw [List.length_map])) e
    ·rcases List.mem_cons.1 hy with rfl | hy
     ·exact absurd hfy hfx
     ·exact q3 y hy hfy
   have put := rput_Ev S x hS (by omega)
   by_cases hxS : x ∈ S
   ·
    obtain ⟨r, e, q1, q2, q3, q4, q5⟩ := ih S T hS hf (by omega) (by omega) (fun y hy z hz hfz => (hc y hy z hz hfz).elim .inl fun h => (List.mem_cons.1 h).elim (fun e => .inl (by rw [e]; exact hxS)) .inr)
    refine ⟨r, front _ ?_, q1, q2, fun y hy hfy => ?_, q4, fun Q g1 g2 g3 => q5 Q g1 (fun y hy => g2 y (by simp [hy])) g3⟩
    ·simp only [if_pos hfx]
     refine Ev.bind put ?_
     rw [show putR S x = S by unfold putR; rw [if_pos hxS]]
     exact zh9 (.inl (by rw [List.length_map])) e
    ·rcases List.mem_cons.1 hy with rfl | hy
     ·exact q2 y hxS
     ·exact q3 y hy hfy
   have hS' := putR_rises hS x
   have hlen : (putR S x).length = S.length + 1 := by rw [putR_len, if_neg hxS]
   have hf' : ∀ y ∈ putR S x, fitV t.length (l.map prE) y = true := fun y hy => (zer.1 hy).elim (fun e => by rw [e]; exact hfx) (hf y)
   have hb' := hbox _ hS' hf'
   obtain ⟨m, hm'⟩ : ∃ m, 17629 - S.length = m + 1 := ⟨17629 - S.length - 1, by omega⟩
   have hm2 : 17629 - (putR S x).length = m := by omega
   have go : ∀ (P : List Lr), P.length ≤ 16336 → (∀ y, y ∈ P ↔ y ∈ nxtV t.length (l.map prE) em Ss x) → (∀ r : List S50, Ev (fun k => zac.l0 k Ss em ((putR S x).map lrS) ((T ++ P).map lrS) t n l) r → Ev (fun k => zac.j1 k Ss em ((putR S x).map lrS) (T.map lrS) (S.length : Int) t n l x.1 x.2.1 x.2.2) r) →
     ∃ r, Ev (fun k => zac.l0 k Ss em (S.map lrS) ((x :: T).map lrS) t n l) (r.map lrS) ∧ zdb r ∧ (∀ y ∈ S, y ∈ r) ∧ (∀ y ∈ x :: T, fitV t.length (l.map prE) y = true → y ∈ r) ∧ (∀ x ∈ r, ∀ y ∈ nxtV t.length (l.map prE) em Ss x, fitV t.length (l.map prE) y = true → y ∈ r) ∧
      (∀ Q : Lr → Prop, (∀ y ∈ S, Q y) → (∀ y ∈ x :: T, fitV t.length (l.map prE) y = true → Q y) → (∀ x y, Q x → y ∈ nxtV t.length (l.map prE) em Ss x → fitV t.length (l.map prE) y = true → Q y) → ∀ y ∈ r, Q y) := by
    intro P hP hmem hev
    have k1 : (17629 - (putR S x).length) * 16337 + (T ++ P).length < d := by
     rw [hm2, List.length_append]
     rw [hm', Nat.add_mul, Nat.one_mul] at hd
     generalize m * 16337 = q at *
     omega
    have k2 : (17629 - (putR S x).length) * 16337 + ((T ++ P).length + (putR S x).length) ≤ 1000000000 := by
     rw [hm2, List.length_append, hlen]
     rw [hm', Nat.add_mul, Nat.one_mul] at hm
     generalize m * 16337 = q at *
     omega
    obtain ⟨r, e, q1, q2, q3, q4, q5⟩ := ih (putR S x) (T ++ P) hS' hf' k1 k2 (fun y hy z hz hfz => by
     rcases zer.1 hy with rfl | hy
     ·exact .inr (List.mem_append.2 (.inr ((hmem z).2 hz)))
     ·rcases hc y hy z hz hfz with h | h
      ·exact .inl (zer.2 (.inr h))
      ·rcases List.mem_cons.1 h with rfl | h
       ·exact .inl (zer.2 (.inl rfl))
       ·exact .inr (List.mem_append.2 (.inl h)))
    refine ⟨r, front _ ?_, q1, fun y hy => q2 y (zer.2 (.inr hy)), fun y hy hfy => ?_, q4, fun Q g1 g2 g3 => q5 Q (fun y hy => ?_) (fun y hy hfy => ?_) g3⟩
    ·simp only [if_pos hfx]
     exact Ev.bind put (hev _ e)
    ·rcases List.mem_cons.1 hy with rfl | hy
     ·exact q2 y (zer.2 (.inl rfl))
     ·exact q3 y (List.mem_append.2 (.inl hy)) hfy
    ·rcases zer.1 hy with rfl | hy
     ·exact g2 y (by simp) hfx
     ·exact g1 y hy
    ·rcases List.mem_append.1 hy with hy | hy
     ·exact g2 y (by simp [hy]) hfy
     ·exact g3 x y (g2 x (by simp) hfx) ((hmem y).1 hy) hfy
   have hne : ¬ ((((putR S x).map lrS).length : Int) = (S.length : Int)) := by rw [List.length_map, hlen]; omega
   cases hnv : zbx t.length (l.map prE) x with
   | none =>
    refine go [] (by simp) (fun y => by unfold nxtV; rw [hnv]) (fun r he => ?_)
    rw [List.append_nil] at he
    exact zh9 (.inr (.inl hnv)) he
   | some s =>
    by_cases hs : s < (t.length : Int)
    ·refine go [] (by simp) (fun y => by unfold nxtV; rw [hnv]; show _ ↔ y ∈ (if s < (t.length : Int) then [] else _); rw [if_pos hs]) (fun r he => ?_)
     rw [List.append_nil] at he
     exact zh9 (.inr (.inr ⟨s, hnv, hs⟩)) he
    ·refine go _ (nxtR_len H x s) (fun y => nxtR_mem hnv hs) (fun r he => ?_)
     exact j1_go hne hnv hs (rclos_push H (putR S x) T hfx hnv (by omega) r he)
end
section
open Go.Proofs.ZZ.Grow Go.Proofs.ZZ.Deri Go.Proofs.ZZ.Begin Go.Proofs.ZZ.Begun Go.Proofs.ZZ.MSet Go.Proofs.ZZ.LInv Go.Proofs.ZZ.LrK Go.Proofs.ZZ.LLex Go.Proofs.ZZ.LFlat Go.Proofs.ZZ.LLooks Go.Proofs.ZZ.LClos Go.Proofs.ZZ.LStep Go.Proofs.ZZ.LAll Go.Proofs.ZZ.LReach
variable {t n : List ByteArray} {l : List S42} {em : List Bool} {Ss : List (List Int)}
theorem Rdys.prods (H : Rdys t n l em Ss) : ∀ p ∈ l, 0 ≤ p.f0 ∧ p.f0 < ((t.length + n.length : Nat) : Int) ∧ p.f1.length ≤ 100000000000000 ∧ ∀ x ∈ p.f1, 0 ≤ x.f0 ∧ x.f0 < ((t.length + n.length : Nat) : Int) := fun p hp => by
 obtain ⟨h, _⟩ := zg3 H.ok (prE p) (List.mem_map.2 ⟨p, hp, rfl⟩)
 have h60 := H.p60 (prE p) (List.mem_map.2 ⟨p, hp, rfl⟩)
 rw [show (prE p).2.1 = p.f1.map itE from rfl, List.length_map] at h60
 exact ⟨h.1, h.2.1, by omega, fun x hx => h.2.2 (itE x) (List.mem_map.2 ⟨x, hx, rfl⟩)⟩
theorem Rdys.zjb (H : Rdys t n l em Ss) (T : List Lr) (hT : T.length ≤ 100000) : ∃ c, Ev (fun k => zac.f k t n l (T.map lrS)) (c.map lrS) ∧ zea t.length (l.map prE) em Ss T c := by
 obtain ⟨r, e, q1, q2, q3, q4, q5⟩ := rclos H ((17629 - ([] : List Lr).length) * 16337 + T.length + 1) [] T List.Pairwise.nil (fun _ h => nomatch h) (Nat.lt_succ_self _) (by simp only [List.length_nil]; omega) (fun _ h => nomatch h)
 refine ⟨r, ?_, q1, fun x => ⟨fun hx => q5 (Rch t.length (l.map prE) em Ss T) (fun _ h => nomatch h) (fun x hx hf => .base x hx hf) (fun x y hx hy hf => .step x y hx hy hf) x hx, fun hx => ?_⟩⟩
 ·obtain ⟨m1, r1⟩ := H.eE.rounds
  have hnn := H.nn
  have hpl := H.pl
  have e2 := rempty_Ev t n l (by omega) (by omega) H.prods m1 em r1
  have e6 : Ev (fun k => zck.f k t n l) Ss := by
   unfold zck.f
   simp only [if_pos H.ok]
   exact Ev.bind e2 (by simp only [if_pos H.lE]; exact H.eF)
  unfold zac.f
  refine Ev.bind e6 (Ev.bind e2 ?_)
  simp only [List.length_nil, List.length_map, if_pos (show 0 + T.length < 5864062014805 by omega), List.nil_append]
  exact e
 ·induction hx with
  | base x h1 h2 => exact q3 x h1 h2
  | step x y _ h2 h3 ih => exact q4 x ih y h2 h3
theorem rgoto_l0 (H : Rdys t n l em Ss) (row : List Lr) (s : Int) (hr : row.length ≤ 100000) (r : List S50) (he : Ev (fun k => zac.f k t n l ((zcr t.length (l.map prE) s row).map lrS)) r) (d : Nat) : ∀ i : Nat, i + d = row.length →
  Ev (fun k => zao.l0 k (row.map lrS) s ((zcr t.length (l.map prE) s (row.take i)).map lrS) (i : Int) t n l) r := by
 induction d with
 | zero =>
  intro i hi
  rw [List.take_of_length_le (by omega)]
  refine Ev.step (f := fun k => (zac.f k t n l ((zcr t.length (l.map prE) s row).map lrS)).bind fun t304 => some t304) (fun k => ?_) (Ev.bind he (Ev.now _))
  simp only [zao.l0]
  rw [if_neg (by rw [List.length_map]; omega)]
 | succ d ih =>
  intro i hi
  have hi' : i < row.length := by omega
  have hrd := rdS row i hi'
  have hnx := zgf t n l row[i]
  have := ih (i + 1) (by omega)
  rw [List.take_succ_eq_append_getElem hi', zh0] at this
  have hsl : (zcr t.length (l.map prE) s (row.take i)).length ≤ 100000 := by
   have := zed t.length (l.map prE) s (row.take i)
   rw [List.length_take] at this
   omega
  refine Ev.step (fun k => ?_) this
  simp only [zao.l0]
  rw [if_pos (by rw [List.length_map]; omega), if_pos (by omega), hrd]
  show (zbr.f t n l row[i].1 row[i].2.1 row[i].2.2).bind _ = _
  rw [hnx, Option.bind_some, w64 (x := (i : Int) + 1) (by omega) (by omega)]
  cases hnv : zbx t.length (l.map prE) row[i] with
  | none =>
   rw [if_neg (show ¬ (none : Option Int) = some s from fun h => nomatch h), List.append_nil]
   rfl
  | some z =>
   have hf : fitV t.length (l.map prE) row[i] = true := by
    unfold zbx at hnv
    split at hnv
    ·assumption
    ·exact nomatch hnv
   have h6 := zc4.1 hf
   have hr60 := zey (n0 := t.length) (B := 60) (by omega) H.p60 row[i].1
   by_cases c : z = s
   ·subst c
    rw [if_pos (show (some z : Option Int) = some z from rfl), List.map_append]
    show (if true = true then (if z = z then (if ((zcr t.length (l.map prE) z (row.take i)).map lrS).length < 5864062014805 then zao.l0 k (row.map lrS) z _ _ t n l else none) else _) else _) = _
    rw [if_pos rfl, if_pos rfl, if_pos (by rw [List.length_map]; omega)]
    show zao.l0 k (row.map lrS) z (_ ++ [(⟨row[i].1, wrap64 (row[i].2.1 + 1), row[i].2.2⟩ : S50)]) _ t n l = _
    rw [w64 (x := row[i].2.1 + 1) (by omega) (by omega)]
    rfl
   ·rw [if_neg (show ¬ (some z : Option Int) = some s from fun h => c (Option.some.inj h)), List.append_nil]
    show (if true = true then (if z = s then _ else zao.l0 k (row.map lrS) s _ _ t n l) else _) = _
    rw [if_pos rfl, if_neg c]
    rfl
theorem Rdys.rgoto (H : Rdys t n l em Ss) (row : List Lr) (hr : row.length ≤ 100000) (s : Int) : Ev (fun k => zao.f k t n l (row.map lrS) s) ((goV t n l em Ss row s).map lrS) := by
 obtain ⟨c, e, hc⟩ := H.zjb (zcr t.length (l.map prE) s row) (Nat.le_trans (zed _ _ _ _) hr)
 have := (H.go hr s).2.1.one hc (fun x => Iff.rfl)
 rw [this]
 unfold zao.f
 exact rgoto_l0 H row s hr _ e row.length 0 (by omega)
theorem Rdys.rfirst (H : Rdys t n l em Ss) : Ev (fun k => zbt.f k t n l) ((stV t n l em Ss).map lrS) := by
 obtain ⟨c, e, hc⟩ := H.zjb [(-1, 0, (t.length : Int))] (by simp)
 have := H.st.2.1.one hc (fun x => Iff.rfl)
 rw [this]
 unfold zbt.f
 exact Ev.bind e (Ev.now _)
end
open Go.Proofs.ZZ.LrK Go.Proofs.ZZ.LLex Go.Proofs.ZZ.LClos Go.Proofs.ZZ.LReach in
theorem Rdys.closure {t n : List ByteArray} {l : List S42} {em : List Bool} {Ss : List (List Int)} (H : Rdys t n l em Ss) (T : List S50) (hT : T.length ≤ 100000) (hok : ∀ x ∈ T, lrOk (lrT x)) : ∃ c, Ev (fun k => zdp.f k t n l T) (c.map lrS) ∧ zea t.length (l.map prE) em Ss (T.map lrT) c ∧ c.length ≤ 20000 := by
 obtain ⟨r, e, h1, h2⟩ := H.clos (T.map lrT) (by rw [List.length_map]; exact hT)
 refine ⟨srtL r, ?_, h1, h2⟩
 unfold zdp.f
 simp only [if_pos (show flOk (t.length + n.length) n.length (l.map prE) = true ∧ l.length ≤ 1000000 ∧ lrsOk (T.map lrT) = true from ⟨H.ok, by have := H.pl; omega, lrsOk_mk fun x hx => by obtain ⟨y, hy, rfl⟩ := List.mem_map.1 hx; exact hok y hy⟩)]
 exact Ev.bind H.ev (Ev.bind e (Ev.now _))
section
open Go.Proofs.ZZ.Grow Go.Proofs.ZZ.Deri Go.Proofs.ZZ.Begin Go.Proofs.ZZ.Begun Go.Proofs.ZZ.MSet Go.Proofs.ZZ.LInv Go.Proofs.ZZ.LrK Go.Proofs.ZZ.LLex Go.Proofs.ZZ.LFlat Go.Proofs.ZZ.LLooks Go.Proofs.ZZ.LClos Go.Proofs.ZZ.LStep Go.Proofs.ZZ.LReach
variable {t n : List ByteArray} {l : List S42} {em : List Bool} {Ss : List (List Int)}
theorem lrST (c : List S50) : (c.map lrT).map lrS = c := by
 rw [List.map_map]
 refine (List.map_congr_left fun x _ => ?_).trans (List.map_id c)
 rfl
theorem tells_l0 (H : Rdys t n l em Ss) (A : List S50) (s : Int) (hA : A.length ≤ 1000) (hok : ∀ x ∈ A, lrOk (lrT x)) (d : Nat) : ∀ i : Nat, i + d = A.length → Ev (fun k => zal.l0 k A s A (A.length : Int) (i : Int) t n l) true := by
 induction d with
 | zero =>
  intro i hi
  obtain ⟨c, ec, ic, lc⟩ := H.closure A (by omega) hok
  obtain ⟨c', ec', ic'⟩ := H.zjb (A.map lrT) (by rw [List.length_map]; omega)
  rw [lrST] at ec'
  obtain rfl := ic.one ic' (fun x => Iff.rfl)
  have hg := H.goto (A.map lrT) (by rw [List.length_map]; omega) s
  have hg' := H.rgoto (A.map lrT) (by rw [List.length_map]; omega) s
  have hgl := (H.go (row := A.map lrT) (by rw [List.length_map]; omega) s).2.2
  rw [lrST] at hg hg'
  have hs := H.first
  have hs' := H.rfirst
  have hsl := H.st.2.2.1
  refine Ev.step (fun k => by simp only [zal.l0]; rw [if_neg (by omega)]) ?_
  refine Ev.bind ec (Ev.bind ec' (Ev.bind (zgv (by rw [List.length_map]; omega) rfl) ?_))
  simp only [if_true]
  refine Ev.bind hg (Ev.bind hg' (Ev.bind (zgv (by rw [List.length_map]; omega) rfl) ?_))
  simp only [if_true]
  refine Ev.bind hs (Ev.bind hs' (Ev.bind (zgv (by rw [List.length_map]; omega) rfl) ?_))
  simp only [if_true]
  exact Ev.now _
 | succ d ih =>
  intro i hi
  refine Ev.step (fun k => ?_) (ih (i + 1) (by omega))
  have hn := zgf t n l (lrT (zae A (i : Int)))
  have hf := rfit_eq t n l (lrT (zae A (i : Int)))
  simp only [lrT] at hn hf
  simp only [zal.l0]
  rw [if_pos (by omega), if_pos (by omega), if_pos (by omega), hn, hf]
  simp only [zb6.f, zbp.f, Option.bind_some, bne_self_eq_false, Bool.false_eq_true, if_false, if_true]
  rw [w64 (x := (i : Int) + 1) (by omega) (by omega)]
  rfl
theorem ItemTells : zal.Pure := by
 intro s0 l1 a2 h0 h1 h2
 obtain ⟨t, n, l⟩ := s0
 suffices Ev (fun k => zal.f k t n l l1 a2) true by
  obtain ⟨K, h⟩ := this
  exact ⟨K, h K (Nat.le_refl _)⟩
 have awk : Ev (fun k => zal.j0 k l1 a2 true t n l) true := evAt fun k => by simp only [zal.j0]; rfl
 unfold zal.f
 obtain ⟨c, ec, gc⟩ := few_Ev h0
 refine Ev.bind ec ?_
 cases c with
 | false => simp only [Bool.false_eq_true, if_false]; exact awk
 | true =>
  simp only [if_true]
  by_cases c1 : (l1.length : Int) > 50
  ·simp only [decide_eq_true c1]; exact awk
  simp only [decide_eq_false c1]
  obtain ⟨g1, g2, g3, g4, g5⟩ := gc rfl
  obtain ⟨em, Ss, H⟩ := rdys g1 g2 g3 g4 g5
  refine Ev.step (fun k => by simp only [zal.j0, Bool.false_eq_true, if_false]; exact rfl) ?_
  exact tells_l0 H l1 a2 (by omega) (fun x hx => h1.2 x hx) l1.length 0 (by omega)
end
end Go.Proofs.ZZ.Pure
end
section
namespace Go.Proofs.ZZ.Opening
open Go.RowKit Go.Proofs.ZW.PrintWords
section
variable {H : Type} {enc : TypeId × Value → H} {P : Program} {W : World}
def Op {α : Type} (enc : TypeId × Value → H) (P : Program) (W : World) (n : Nat) (t : TypeId) (d : Kd α) (B : α → Prop) : Prop :=
 ∀ fuel, fuel ≤ n → ∀ cs y, DataW.trod enc P W 0 (fun _ => true) true fuel t cs = some y → (DataW.weights P t y.1).all (· ≤ reachBytes) = true → ∃ x, d.K W x cs ∧ B x
theorem Op.mono {α : Type} {n m : Nat} {t : TypeId} {d : Kd α} {B : α → Prop} (h : Op enc P W n t d B) (hm : m ≤ n) : Op enc P W m t d B :=
 fun fuel hf => h fuel (Nat.le_trans hf hm)
theorem zg7 {n : Nat} {t : TypeId} {k : IntKind} (hu : P.underlying t = some (.int k)) : Op enc P W n t (Kd.int k) (fun x => (Lit.int k x).wf = true) := by
 intro fuel _ cs y hy _
 obtain ⟨m, rfl, _, hw⟩ := DataW.trod_int hu hy
 exact ⟨m, rfl, hw⟩
theorem zgm {n : Nat} {t : TypeId} (hu : P.underlying t = some .string) : Op enc P W n t Kd.string (fun s => s.size ≤ 140737488351232) := by
 intro fuel _ cs y hy hw
 obtain ⟨s, rfl, rfl, _⟩ := DataW.trod_string hu hy
 refine ⟨s, rfl, ?_⟩
 simp only [DataW.weights, List.all_cons, List.all_nil, Bool.and_true, decide_eq_true_eq, Array.length_toList] at hw
 exact hw
theorem zix {e : TypeId} : ∀ {ds : List (DataW H)}, (DataW.weightsAll P e ds).all (· ≤ reachBytes) = true → ∀ d ∈ ds, (DataW.weights P e d).all (· ≤ reachBytes) = true
 | [], _, d, hd => by cases hd
 | x :: r, h, d, hd => by
  rw [DataW.weightsAll, List.all_append, Bool.and_eq_true] at h
  rcases List.mem_cons.1 hd with rfl | hd
  ·exact h.1
  ·exact zix h.2 d hd
theorem zif {α : Type} {Q : Nat → α → Prop} : ∀ n : Nat, (∀ i, i < n → ∃ x, Q i x) → ∃ xs : List α, xs.length = n ∧ ∀ i x, xs[i]? = some x → Q i x
 | 0, _ => ⟨[], rfl, by simp⟩
 | n + 1, h => by
  obtain ⟨xs, hl, hq⟩ := zif n (fun i hi => h i (by omega))
  obtain ⟨x, hx⟩ := h n (by omega)
  refine ⟨xs ++ [x], by simp [hl], fun i y hy => ?_⟩
  by_cases hi : i < n
  ·rw [List.getElem?_append_left (by omega)] at hy
   exact hq i y hy
  ·rw [List.getElem?_append_right (by omega)] at hy
   have : i - xs.length = 0 := by
    by_cases h0 : i - xs.length = 0
    ·exact h0
    ·rw [List.getElem?_eq_none (by simp; omega)] at hy
     cases hy
   rw [this] at hy
   obtain rfl : x = y := by simpa using hy
   obtain rfl : i = n := by omega
   exact hx
theorem op_slice {α : Type} {n : Nat} {t e e' b : TypeId} {d : Kd α} {B : α → Prop} (hu : P.underlying t = some (.slice e)) (hc : P.cellsOf e = d.sz) (hb : P.bytesOf e = b) (h : Op enc P W n e d B) :
  Op enc P W (n + 1) t (Kd.slice e' d) (fun xs => xs.length * b ≤ 140737488351232 ∧ ∀ x ∈ xs, B x) := by
 intro fuel hf cs y hy hw
 rcases DataW.trod_slice hu hy with ⟨rfl, rfl⟩ | ⟨a, len, cap, elems, rest, m, rfl, rfl, rfl, _, hlc, hcap, hel, hget, _, _⟩
 ·exact ⟨[], ⟨none, 0, rfl, Nat.le_refl _, rfl, by simp, fun h0 => absurd h0 (by simp)⟩, by simp⟩
 ·rw [DataW.weights, hu] at hw
  simp only [List.all_cons, List.all_append, Bool.and_eq_true, decide_eq_true_eq, List.length_map] at hw
  obtain ⟨hw0, hw1, _⟩ := hw
  have hall := zix hw1
  have key : ∀ i, i < len → ∃ x : α, (∃ c, c.length = d.sz ∧ d.K W x c ∧ ∀ j u, c[j]? = some u → W.cell? (a.add (i * d.sz + j)) = some u) ∧ B x := by
   intro i hi
   have hg := hget i hi
   rw [List.getElem?_eq_getElem (by omega)] at hg
   obtain ⟨c, hc1, hc2⟩ := Option.bind_eq_some_iff.1 hg
   obtain ⟨_, hl, hcell⟩ := World.cells?_some hc1
   obtain ⟨x, hx, hB⟩ := h m (by omega) c _ hc2 (hall _ (List.mem_map.2 ⟨_, List.getElem_mem _, rfl⟩))
   refine ⟨x, ⟨c, by rw [hl, hc], hx, fun j u hu' => ?_⟩, hB⟩
   have hj : j < P.cellsOf e := by
    have := (List.getElem?_eq_some_iff.1 hu').1
    omega
   have := hcell j hj
   rw [Addr.add_add, hc] at this
   rw [this, hu']
  obtain ⟨xs, hl, hxs⟩ := zif len key
  refine ⟨xs, ⟨some a, cap, by rw [hl], by omega, rfl, ?_, fun _ => ⟨a, rfl, fun j p hj => (hxs j p hj).1⟩⟩, ?_, ?_⟩
  ·have : maxLen = 9223372036854775807 := rfl
   omega
  ·rw [hb] at hw0
   have e1 : reachBytes = 140737488351232 := rfl
   have : xs.length * b ≤ (elems.length + rest.length) * b := Nat.mul_le_mul_right _ (by omega)
   omega
  ·intro x hx
   obtain ⟨i, hi, rfl⟩ := List.mem_iff_getElem.1 hx
   exact (hxs i _ (List.getElem?_eq_getElem hi)).2
def OpFs {α : Type} (enc : TypeId × Value → H) (P : Program) (W : World) (n : Nat) (fs : List Field) (off : Nat) (d : Kd α) (B : α → Prop) : Prop :=
 ∀ fuel, fuel ≤ n → ∀ (cs : List Value) (ys : List (DataW H × List MemPlace)), ys.length = fs.length → (∀ (i : Nat) (f : Field), fs[i]? = some f → DataW.trod enc P W 0 (fun _ => true) true fuel f.type ((cs.drop f.offset).take (P.cellsOf f.type)) = ys[i]?) →
  cs.length = off + d.sz → (DataW.weightsEach P (fs.map (·.type)) (ys.map (·.1))).all (· ≤ reachBytes) = true → ∃ x, d.K W x (cs.drop off) ∧ B x
theorem opf_last {α : Type} {n off : Nat} {f : Field} {d : Kd α} {B : α → Prop} (ho : f.offset = off) (hc : P.cellsOf f.type = d.sz) (h : Op enc P W n f.type d B) : OpFs enc P W n [f] off d B := by
 intro fuel hf cs ys hl hget hlen hw
 match ys, hl with
 | [y], _ =>
  have hg := hget 0 f rfl
  simp only [List.map_cons, List.map_nil, DataW.weightsEach, List.append_nil] at hw
  rw [ho, hc, List.take_of_length_le (by rw [List.length_drop]; omega)] at hg
  exact h fuel hf _ y hg hw
theorem opf_cons {α β : Type} {n off : Nat} {f : Field} {fs : List Field} {a : Kd α} {b : Kd β} {Ba : α → Prop} {Bb : β → Prop} (ho : f.offset = off) (hc : P.cellsOf f.type = a.sz) (h : Op enc P W n f.type a Ba) (hr : OpFs enc P W n fs (off + a.sz) b Bb) :
  OpFs enc P W n (f :: fs) off (Kd.pair a b) (fun x => Ba x.1 ∧ Bb x.2) := by
 intro fuel hf cs ys hl hget hlen hw
 have hlen' : cs.length = off + (a.sz + b.sz) := hlen
 match ys, hl with
 | y :: ys, hl =>
  have hg := hget 0 f rfl
  simp only [List.map_cons, DataW.weightsEach, List.all_append, Bool.and_eq_true] at hw
  rw [ho, hc] at hg
  obtain ⟨x, hx, hB⟩ := h fuel hf _ y hg hw.1
  obtain ⟨z, hz, hB'⟩ := hr fuel hf cs ys (by simpa using hl) (fun i g hi => hget (i + 1) g hi) (by omega) hw.2
  refine ⟨(x, z), ⟨_, _, ?_, hx, hz⟩, hB, hB'⟩
  have e : cs.drop (off + a.sz) = (cs.drop off).drop a.sz := by simp [List.drop_drop, Nat.add_comm]
  rw [e, List.take_append_drop]
theorem op_struct {α β : Type} {n : Nat} {t : TypeId} {fs : Array Field} {d : Kd α} {B : α → Prop} {f : β → α} (g : α → β) (hfg : ∀ x, f (g x) = x) (hu : P.underlying t = some (.struct fs)) (hc : P.cellsOf t = d.sz) (h : OpFs enc P W n fs.toList 0 d B) :
  Op enc P W (n + 1) t (Kd.iso d f) (fun s => B (f s)) := by
 intro fuel hf cs y hy hw
 obtain ⟨xs, m, rfl, rfl, hl, hlen, hget⟩ := DataW.trod_struct hu hy
 rw [DataW.weights, hu] at hw
 obtain ⟨x, hx, hB⟩ := h m (by omega) cs xs (by simpa using hlen) (fun i f hi => hget i f (by simpa using hi)) (by omega) hw
 refine ⟨g x, ?_, by show B (f (g x)); rw [hfg]; exact hB⟩
 show d.K W (f (g x)) cs
 rw [hfg]
 exact hx
theorem zfk {α : Type} {t e e' b : TypeId} {d : Kd α} {B : α → Prop} (hu : P.underlying t = some (.slice e)) (hc : P.cellsOf e = d.sz) (hb : P.bytesOf e = b) (h : ∀ n, Op enc P W n e d B) :
  ∀ n, Op enc P W n t (Kd.slice e' d) (fun xs => xs.length * b ≤ 140737488351232 ∧ ∀ x ∈ xs, B x) := fun n => (op_slice hu hc hb (h n)).mono (Nat.le_succ n)
theorem zfy {α β : Type} {t : TypeId} {fs : Array Field} {d : Kd α} {B : α → Prop} {f : β → α} (g : α → β) (hfg : ∀ x, f (g x) = x) (hu : P.underlying t = some (.struct fs)) (hc : P.cellsOf t = d.sz) (h : ∀ n, OpFs enc P W n fs.toList 0 d B) :
  ∀ n, Op enc P W n t (Kd.iso d f) (fun s => B (f s)) := fun n => (op_struct g hfg hu hc (h n)).mono (Nat.le_succ n)
theorem zgn {α : Type} {off : Nat} {f : Field} {d : Kd α} {B : α → Prop} (ho : f.offset = off) (hc : P.cellsOf f.type = d.sz) (h : ∀ n, Op enc P W n f.type d B) : ∀ n, OpFs enc P W n [f] off d B := fun n => opf_last ho hc (h n)
theorem zd2 {α β : Type} {off : Nat} {f : Field} {fs : List Field} {a : Kd α} {b : Kd β} {Ba : α → Prop} {Bb : β → Prop} (ho : f.offset = off) (hc : P.cellsOf f.type = a.sz) (h : ∀ n, Op enc P W n f.type a Ba) (hr : ∀ n, OpFs enc P W n fs (off + a.sz) b Bb) :
  ∀ n, OpFs enc P W n (f :: fs) off (Kd.pair a b) (fun x => Ba x.1 ∧ Bb x.2) := fun n => opf_cons ho hc (h n) (hr n)
theorem op_arg {α : Type} {t : TypeId} {d : Kd α} {B : α → Prop} (h : ∀ n, Op enc P W n t d B) {v : Value} {y : DataW H} {ps : List MemPlace} (ht : DataW.Trod enc P W 0 (fun _ => true) true t v y ps) {ts : List TypeId} {ds : List (DataW H)} {j : Nat}
  (hsz : (DataW.weightsEach P ts ds).all (· ≤ reachBytes) = true) (hj : ts[j]? = some t) (hd : ds[j]? = some y) : ∃ x, d.K W x v.cells.toList ∧ B x := by
 obtain ⟨fuel, hf⟩ := ht
 refine h fuel fuel (Nat.le_refl _) _ _ hf ?_
 rw [List.all_eq_true] at hsz ⊢
 intro n hn
 exact hsz n (DataW.weights_mem_each hj hd n hn)
end
end Go.Proofs.ZZ.Opening
end
section
namespace Go.Proofs.YtgdmjpehofdnpaaGreat.itemTells
open Go.ChangeShapes Go.WideShapes Go.ChangeAt Go.RowKit Go.Proofs.ZW.PrintWords Go.Proofs.ZZ.Opening Go.Proofs.ZZ.PItemTells
open Go.ChangeMaps (open_string shut_string)
theorem own : ownKnob Tryz.prog.godebug = none := by kernel_rfl
theorem laidOut : laidOutB Tryz.prog = true := by kernel_rfl
theorem lifted (os : Os) (started : os.Started) (H : Type) (enc : TypeId × Value → H) :
  ReturnsInHanded {} Tryz.checked os 5 .any (Rows.itemTellsSpec.pre6 enc Tryz.prog Tryz.f5 Rows.itemTellsRow.domain false) (Rows.itemTellsSpec.post enc Tryz.prog Tryz.f5 false true false false) := by
 refine returnsInHanded_of_change_sized (C := Tryz.checked) own started (by kernel_rfl) Tryz.func5
  (ChangeSpec.witness6 (enc := enc) (C := Tryz.checked) false ⟨#[], #[.agg #[.slice none 0 0, .slice none 0 0, .slice none 0 0], .slice none 0 0, .int .i64 0], []⟩ 8 (by kernel_rfl) (by kernel_rfl) (by kernel_rfl) (by kernel_rfl)) ?_
 intro W base args ds gs before hval0 hW hcnd hsz0 _
 have hsz : (DataW.weightsEach Tryz.prog (Tryz.f5.params.toList ++ Rows.itemTellsSpec.plain.varTypes Tryz.prog) (ds ++ gs)).all (· ≤ reachBytes) = true := hsz0
 have hval : ∀ (j : Nat) t v, Tryz.f5.params[j]? = some t → args[j]? = some v → Value.okWide Tryz.prog W .any base t v := hval0
 have hW' := hW
 obtain ⟨p, q, hA0, hV, rfl, hfz, hnd⟩ := hW
 have hA : DataW.TrodAll enc Tryz.prog W 0 (fun _ => true) true Tryz.f5.params.toList args.toList ds p := hA0
 rw [Tryz.params5] at hA hval hsz
 obtain ⟨v0, vs0, d0, ds0, p0, q0, hargs, rfl, rfl, h0, r0⟩ := trodAll_cons hA
 obtain ⟨v1, vs1, d1, ds1, p1, q1, rfl, rfl, rfl, h1, r1⟩ := trodAll_cons r0
 obtain ⟨v2, vs2, d2, ds2, p2, q2, rfl, rfl, rfl, h2, r2⟩ := trodAll_cons r1
 obtain ⟨rfl, rfl, rfl⟩ := trodAll_nil r2
 obtain rfl : args = #[v0, v1, v2] := by cases args; simp_all
 obtain ⟨rfl, rfl⟩ := trodVars_none hV
 have k0 := h0
 have lt0 : ∀ x ∈ p0, x.block < W.heap.size := by obtain ⟨m, hm⟩ := k0; exact DataW.trod_lt m _ _ _ hm
 have oq50 := (zfy (enc := enc) (W := W) (f := fun x : S50 => (x.f0, x.f1, x.f2)) (fun x => ⟨x.1, x.2.1, x.2.2⟩) (fun _ => rfl) Tryz.underlying50 (by kernel_rfl) (zd2 rfl (by kernel_rfl) (fun _ => zg7 Tryz.underlying3) (zd2 rfl (by kernel_rfl) (fun _ => zg7 Tryz.underlying3) (zgn rfl (by kernel_rfl) (fun _ => zg7 Tryz.underlying3)))))
 have oq44 := (zfy (enc := enc) (W := W) (f := fun x : S44 => (x.f0, x.f1, x.f2)) (fun x => ⟨x.1, x.2.1, x.2.2⟩) (fun _ => rfl) Tryz.underlying44 (by kernel_rfl) (zd2 rfl (by kernel_rfl) (fun _ => zg7 Tryz.underlying3) (zd2 rfl (by kernel_rfl) (fun _ => zgm Tryz.underlying9) (zgn rfl (by kernel_rfl) (fun _ => zgm Tryz.underlying9)))))
 have oq42 := (zfy (enc := enc) (W := W) (f := fun x : S42 => (x.f0, x.f1, x.f2)) (fun x => ⟨x.1, x.2.1, x.2.2⟩) (fun _ => rfl) Tryz.underlying42 (by kernel_rfl) (zd2 rfl (by kernel_rfl) (fun _ => zg7 Tryz.underlying3) (zd2 rfl (by kernel_rfl) (zfk (b := 40) (e' := 44) Tryz.underlying40 (by kernel_rfl) (by kernel_rfl) oq44) (zgn rfl (by kernel_rfl) (fun _ => zg7 Tryz.underlying3)))))
 have oq25 := (zfy (enc := enc) (W := W) (f := fun x : S25 => (x.f0, x.f1, x.f2)) (fun x => ⟨x.1, x.2.1, x.2.2⟩) (fun _ => rfl) Tryz.underlying25 (by kernel_rfl) (zd2 rfl (by kernel_rfl) (zfk (b := 16) (e' := 9) Tryz.underlying22 (by kernel_rfl) (by kernel_rfl) (fun _ => zgm Tryz.underlying9)) (zd2 rfl (by kernel_rfl) (zfk (b := 16) (e' := 9) Tryz.underlying22 (by kernel_rfl) (by kernel_rfl) (fun _ => zgm Tryz.underlying9)) (zgn rfl (by kernel_rfl) (zfk (b := 40) (e' := 42) Tryz.underlying23 (by kernel_rfl) (by kernel_rfl) oq42)))))
 have o0 := op_arg (j := 0) oq25 h0 hsz rfl rfl
 obtain ⟨cs0, rfl, _⟩ := okWide_struct Tryz.underlying25 (hval 0 25 v0 rfl rfl)
 obtain ⟨s0, hK0, w0⟩ := o0
 obtain ⟨_, _, e0, ⟨A0_0, c0_0, rfl, hc0_0, hr0_0⟩, ⟨_, _, rfl, ⟨A0_1, c0_1, rfl, hc0_1, hr0_1⟩, ⟨A0_2, c0_2, rfl, hc0_2, hr0_2⟩⟩⟩ := hK0
 obtain rfl : cs0 = #[.slice A0_0 s0.f0.length c0_0, .slice A0_1 s0.f1.length c0_1, .slice A0_2 s0.f2.length c0_2] := by
  apply Array.toList_inj.1
  simpa [Value.cells] using e0
 have k1 := h1
 have lt1 : ∀ x ∈ p1, x.block < W.heap.size := by obtain ⟨m, hm⟩ := k1; exact DataW.trod_lt m _ _ _ hm
 have o1 := op_arg (j := 1) (zfk (b := 24) (e' := 50) Tryz.underlying45 (by kernel_rfl) (by kernel_rfl) oq50) h1 hsz rfl rfl
 obtain ⟨l1, ⟨A1, c1, e1, hc1, hr1⟩, w1⟩ := o1
 obtain ⟨a1_, len1_, cap1_, rfl⟩ := okWide_slice Tryz.underlying45 (hval 1 45 v1 rfl rfl)
 obtain ⟨rfl, rfl, rfl⟩ : a1_ = A1 ∧ len1_ = l1.length ∧ cap1_ = c1 := by simpa [Value.cells] using e1
 obtain ⟨a2, rfl, rfl, rfl, w2⟩ := open_int Tryz.underlying3 (hval 2 3 v2 rfl rfl) h2
 clear hA0 hval0 hsz0 hsz
 obtain ⟨k, hk⟩ := Go.Proofs.ZZ.Pure.ItemTells s0 l1 a2 w0 w1 w2
 refine (zal.calls k _ _ s0.f0 _ _ s0.f1 _ _ s0.f2 _ _ l1 a2 true W hr0_0 hc0_0 hr0_1 hc0_1 hr0_2 hc0_2 hr1 hc1 hk rfl).mono ?_
 rintro e W' ⟨rfl, bel0⟩
 have bel : Below W.heap.size W W' := bel0
 exact ⟨_, rfl, _, _, _, [], _, [], hW', trodAll_mk1 (shut_bool Tryz.underlying4 _), (trodAll_cons_mk (Below.trod laidOut (by kernel_rfl) (of_decide_eq_true (by kernel_rfl)) k0 bel lt0) (trodAll_cons_mk (Below.trod laidOut (by kernel_rfl) (of_decide_eq_true (by kernel_rfl)) k1 bel lt1) (trodAll_cons_mk (shut_int Tryz.underlying3 w2) trodAll_mk0))), rfl, bel.frame _, fun h => by cases h⟩
theorem over : Rows.itemTellsRow.holds Tryz.pinned (OpenSpec.ofChange Rows.itemTellsSpec) :=
 OpenClaim.holds_of_wide 5 Tryz.f5 rfl rfl rfl rfl rfl rfl rfl ⟨rfl, rfl, rfl, rfl, rfl⟩ rfl rfl rfl rfl rfl (by kernel_rfl) Tryz.func5 (by kernel_rfl)
  (of_decide_eq_true (by kernel_rfl)) (by unfold Func.isWrapper; first | (rw [if_pos (by decide +kernel)]; kernel_rfl) | (rw [if_neg (by decide +kernel)]; exact ⟨rfl, rfl⟩))
  (fun os started H enc _ => lifted os started H enc)
theorem proved : Rows.ItemTellsSaid := over
end Go.Proofs.YtgdmjpehofdnpaaGreat.itemTells
namespace Go.Proofs.YtgdmjpehofdnpaaGreat
theorem itemTells_holds : Rows.ItemTellsSaid := itemTells.proved
end Go.Proofs.YtgdmjpehofdnpaaGreat
end
