import Derived.ChangeArms
import Derived.DataReads
import Derived.DataElems
import Derived.SizedLaws
import Derived.Carry
import Derived.WideShapes
import Derived.Test.YtgdmjpehofdnpaaGreatRows
import Derived.WalkKit
import Derived.ProofKit
import Derived.OpenShut
import Derived.ShutString
import Derived.ChangeOld
import Derived.Below
import Derived.Test.YtgdmjpehofdnpaaGreatPackItemPrefixes5
namespace Go.Proofs.YtgdmjpehofdnpaaGreat.LSets
end Go.Proofs.YtgdmjpehofdnpaaGreat.LSets
section
namespace Go.Proofs.YtgdmjpehofdnpaaGreat.LReach
open Go Go.RowKit Go.Proofs.YtgdmjpehofdnpaaGreatW.PrintWords Go.Proofs.YtgdmjpehofdnpaaGreat.Fl Go.Proofs.YtgdmjpehofdnpaaGreat.Deri Go.Proofs.YtgdmjpehofdnpaaGreat.LrK Go.Proofs.YtgdmjpehofdnpaaGreat.LLex Go.Proofs.YtgdmjpehofdnpaaGreat.LFlat Go.Proofs.YtgdmjpehofdnpaaGreat.LLooks Go.Proofs.YtgdmjpehofdnpaaGreat.LClos Go.Proofs.YtgdmjpehofdnpaaGreat.LStep Go.Proofs.YtgdmjpehofdnpaaGreat.LAll
set_option linter.unusedVariables false
variable {n0 : Nat} {ps : List P} {em : List Bool} {Ss : List (List Int)}
def nxtV (n0 : Nat) (ps : List P) (em : List Bool) (Ss : List (List Int)) (x : Lr) : List Lr :=
 match nextV n0 ps x with
 | none => []
 | some s => if s < n0 then [] else rowsV ps s (looksV em Ss x.2.2 ((rightV n0 ps x.1).drop (x.2.1.toNat + 1)))
theorem push_eq (S : List Lr) (x : Lr) : pushV n0 ps em Ss S x = if newV n0 ps S x = true then nxtV n0 ps em Ss x else [] := rfl
theorem nodup_le {α : Type} [DecidableEq α] : ∀ (S F : List α), S.Nodup → (∀ x ∈ S, x ∈ F) → S.length ≤ F.length
 | [], _, _, _ => Nat.zero_le _
 | a :: t, F, h, hs => by
  obtain ⟨h1, h2⟩ := List.nodup_cons.1 h
  have ha := hs a (by simp)
  have := nodup_le t (F.erase a) h2 (fun x hx => (List.mem_erase_of_ne (fun e => h1 (by subst e; exact hx))).2 (hs x (by simp [hx])))
  rw [List.length_erase_of_mem ha] at this
  have := List.length_pos_of_mem ha
  rw [List.length_cons]
  omega
def boxV (a b c : Nat) : List Lr := (List.range a).flatMap fun (i : Nat) => (List.range b).flatMap fun (j : Nat) => (List.range c).map fun (k : Nat) => ((i : Int) - 1, (j : Int), (k : Int))
theorem flatMap_len {α β : Type} (f : α → List β) (n : Nat) : ∀ l : List α, (∀ x ∈ l, (f x).length = n) → (l.flatMap f).length = l.length * n
 | [], _ => by simp
 | x :: t, h => by rw [List.flatMap_cons, List.length_append, h x (by simp), flatMap_len f n t (fun y hy => h y (by simp [hy])), List.length_cons, Nat.add_mul, Nat.one_mul]; omega
theorem box_len (a b c : Nat) : (boxV a b c).length = a * (b * c) := by
 unfold boxV
 rw [flatMap_len _ (b * c), List.length_range]
 intro i _
 rw [flatMap_len _ c, List.length_range]
 intro j _
 simp
theorem rightV_len {B : Nat} (hB : 1 ≤ B) (hps : ∀ p ∈ ps, p.2.1.length ≤ B) (i : Int) : (rightV n0 ps i).length ≤ B := by
 unfold rightV
 split
 ·simpa using hB
 ·rw [List.getD_eq_getElem?_getD]
  cases e : ps[i.toNat]? with
  | none => exact Nat.zero_le _
  | some p => exact hps p (List.mem_of_getElem? e)
theorem fit_box {B : Nat} (hB : 1 ≤ B) (hps : ∀ p ∈ ps, p.2.1.length ≤ B) {x : Lr} (h : fitV n0 ps x = true) : x ∈ boxV (ps.length + 1) (B + 1) (n0 + 1) := by
 obtain ⟨h1, h2, h3, h4, h5, h6⟩ := zb8.1 h
 have := rightV_len (n0 := n0) hB hps x.1
 simp only [boxV, List.mem_flatMap, List.mem_map, List.mem_range]
 refine ⟨(x.1 + 1).toNat, by omega, x.2.1.toNat, by omega, x.2.2.toNat, by omega, ?_⟩
 obtain ⟨a, b, c⟩ := x
 simp only at h1 h3 h5 ⊢
 rw [show ((a + 1).toNat : Int) - 1 = a by omega, show ((b.toNat : Nat) : Int) = b by omega, show ((c.toNat : Nat) : Int) = c by omega]
theorem looks_len {L : Nat} (hL : ∀ i, (Ss.getD i []).length ≤ L) (lk : Int) : ∀ l : List I, (looksV em Ss lk l).length ≤ l.length * L + 1
 | [] => by simp [looksV]
 | i :: t => by
  have h1 := hL i.1.toNat
  have h2 := looks_len hL lk t
  simp only [looksV, List.length_append, List.length_cons, Nat.add_mul, Nat.one_mul]
  split
  ·omega
  ·rw [List.length_nil]; omega
theorem ofF_len (s : Int) : ∀ (i : Nat) (l : List P), (ofF s i l).length ≤ l.length
 | _, [] => by simp [ofF]
 | i, p :: t => by
  have := ofF_len s (i + 1) t
  unfold ofF
  split <;> simp <;> omega
theorem nxt_len {B L : Nat} (hB : 1 ≤ B) (hps : ∀ p ∈ ps, p.2.1.length ≤ B) (hL : ∀ i, (Ss.getD i []).length ≤ L) (x : Lr) : (nxtV n0 ps em Ss x).length ≤ (B * L + 1) * ps.length := by
 unfold nxtV
 split
 ·exact Nat.zero_le _
 ·split
  ·exact Nat.zero_le _
  ·rename_i s _ _
   unfold rowsV
   rw [flatMap_len _ (ofV ps s).length _ (fun t _ => List.length_map _)]
   refine Nat.mul_le_mul ?_ (ofF_len s 0 ps)
   refine Nat.le_trans (looks_len hL _ _) (Nat.add_le_add_right (Nat.mul_le_mul_right _ ?_) 1)
   have := rightV_len (n0 := n0) hB hps x.1
   rw [List.length_drop]
   omega
theorem putS_nodup {S : List Lr} (h : S.Nodup) (x : Lr) : (putS n0 ps S x).Nodup := by
 unfold putS
 split
 ·rename_i c
  simp only [newV, Bool.and_eq_true, Bool.not_eq_true', decide_eq_false_iff_not] at c
  exact List.nodup_append.2 ⟨h, by simp, fun a ha b hb => by rw [List.mem_singleton] at hb; subst hb; exact fun e => c.1 (e ▸ ha)⟩
 ·exact h
theorem putS_fit {S : List Lr} (h : ∀ y ∈ S, fitV n0 ps y = true) (x : Lr) : ∀ y ∈ putS n0 ps S x, fitV n0 ps y = true := by
 unfold putS
 split
 ·rename_i c
  simp only [newV, Bool.and_eq_true] at c
  intro y hy
  rcases List.mem_append.1 hy with hy | hy
  ·exact h y hy
  ·rw [List.mem_singleton] at hy; subst hy; exact c.2
 ·exact h
theorem clos_ends {B C : Nat} (hB : 1 ≤ B) (hps : ∀ p ∈ ps, p.2.1.length ≤ B) (hC : ∀ x, (nxtV n0 ps em Ss x).length ≤ C) : ∀ (d : Nat) (S T : List Lr), S.Nodup → (∀ x ∈ S, fitV n0 ps x = true) →
  ((boxV (ps.length + 1) (B + 1) (n0 + 1)).length - S.length) * (C + 1) + T.length < d → ((boxV (ps.length + 1) (B + 1) (n0 + 1)).length - S.length) * (C + 1) + (T.length + S.length) ≤ 1000000000 → ∃ r, closV n0 ps em Ss d S T = some r
 | 0, _, _, _, _, h, _ => absurd h (Nat.not_lt_zero _)
 | d + 1, S, T, hn, hf, hd, hm => by
  have hb := nodup_le S _ hn (fun x hx => fit_box hB hps (hf x hx))
  rcases snoc T with rfl | ⟨T0, x, rfl⟩
  ·exact ⟨S, by simp only [closV]; rw [if_pos (by simp at hm ⊢; omega)]; rfl⟩
  ·have e : closV n0 ps em Ss (d + 1) S (T0 ++ [x]) = closV n0 ps em Ss d (putS n0 ps S x) (T0 ++ pushV n0 ps em Ss S x) := by
    rw [closV, if_pos (by omega)]
    simp only [List.getLast?_concat, List.dropLast_concat]
   rw [e]
   have hn' := putS_nodup (n0 := n0) (ps := ps) hn x
   have hf' := putS_fit hf x
   have hb' := nodup_le _ _ hn' (fun x hx => fit_box hB hps (hf' x hx))
   have hx := hC x
   refine clos_ends hB hps hC d _ _ hn' hf' ?_ ?_ <;> generalize (boxV (ps.length + 1) (B + 1) (n0 + 1)).length = b at * <;> rw [push_eq] <;> unfold putS at hb' ⊢ <;> rw [List.length_append, List.length_singleton] at hd hm <;> split
   ·rename_i c
    rw [if_pos c, List.length_append, List.length_singleton] at hb'
    obtain ⟨m, hm'⟩ : ∃ m, b - S.length = m + 1 := ⟨b - S.length - 1, by omega⟩
    rw [hm', Nat.add_mul, Nat.one_mul] at hd
    rw [List.length_append, List.length_singleton, List.length_append, show b - (S.length + 1) = m by omega]
    generalize m * (C + 1) = q at *
    omega
   ·simp only [List.append_nil]
    omega
   ·rename_i c
    rw [if_pos c, List.length_append, List.length_singleton] at hb'
    obtain ⟨m, hm'⟩ : ∃ m, b - S.length = m + 1 := ⟨b - S.length - 1, by omega⟩
    rw [hm', Nat.add_mul, Nat.one_mul] at hm
    rw [List.length_append, List.length_append, List.length_singleton, show b - (S.length + 1) = m by omega]
    generalize m * (C + 1) = q at *
    omega
   ·simp only [List.append_nil]
    omega
inductive Rch (n0 : Nat) (ps : List P) (em : List Bool) (Ss : List (List Int)) (T : List Lr) : Lr → Prop
 | base (x : Lr) : x ∈ T → fitV n0 ps x = true → Rch n0 ps em Ss T x
 | step (x y : Lr) : Rch n0 ps em Ss T x → y ∈ nxtV n0 ps em Ss x → fitV n0 ps y = true → Rch n0 ps em Ss T y
theorem Rch.fit {T : List Lr} {x : Lr} (h : Rch n0 ps em Ss T x) : fitV n0 ps x = true := by
 cases h with
 | base _ _ h => exact h
 | step _ _ _ _ h => exact h
theorem Rch.mono {T U : List Lr} (hs : ∀ x ∈ T, x ∈ U) {x : Lr} (h : Rch n0 ps em Ss T x) : Rch n0 ps em Ss U x := by
 induction h with
 | base x h1 h2 => exact .base x (hs x h1) h2
 | step x y _ h2 h3 ih => exact .step x y ih h2 h3
theorem mem_putS {S : List Lr} {x y : Lr} : y ∈ putS n0 ps S x ↔ y ∈ S ∨ (y = x ∧ fitV n0 ps x = true) := by
 unfold putS
 split
 ·rename_i c
  simp only [newV, Bool.and_eq_true, Bool.not_eq_true', decide_eq_false_iff_not] at c
  rw [List.mem_append, List.mem_singleton]
  exact ⟨fun h => h.imp id fun h => ⟨h, c.2⟩, fun h => h.imp id (·.1)⟩
 ·rename_i c
  refine ⟨.inl, fun h => h.elim id fun ⟨h1, h2⟩ => ?_⟩
  subst h1
  simp only [newV, Bool.and_eq_true, Bool.not_eq_true', decide_eq_false_iff_not] at c
  exact Decidable.not_not.1 fun g => c ⟨g, h2⟩
theorem clos_spec : ∀ (k : Nat) (S T r : List Lr), closV n0 ps em Ss k S T = some r → S.Nodup → (∀ x ∈ S, ∀ y ∈ nxtV n0 ps em Ss x, fitV n0 ps y = true → y ∈ S ∨ y ∈ T) →
  r.Nodup ∧ (∀ x ∈ S, x ∈ r) ∧ (∀ x ∈ T, fitV n0 ps x = true → x ∈ r) ∧ (∀ x ∈ r, ∀ y ∈ nxtV n0 ps em Ss x, fitV n0 ps y = true → y ∈ r) ∧
  (∀ Q : Lr → Prop, (∀ x ∈ S, Q x) → (∀ x ∈ T, fitV n0 ps x = true → Q x) → (∀ x y, Q x → y ∈ nxtV n0 ps em Ss x → fitV n0 ps y = true → Q y) → ∀ x ∈ r, Q x)
 | k, S, T, r, h, hn, hc => by
  rcases snoc T with rfl | ⟨T0, x, rfl⟩
  ·obtain ⟨rfl, _⟩ := closV_nil h
   exact ⟨hn, fun x hx => hx, fun x hx => (nomatch hx), fun x hx y hy hf => (hc x hx y hy hf).elim id (fun h => nomatch h), fun Q h1 _ _ => h1⟩
  ·obtain ⟨m, rfl, _, h'⟩ := closV_step h
   have hc' : ∀ z ∈ putS n0 ps S x, ∀ y ∈ nxtV n0 ps em Ss z, fitV n0 ps y = true → y ∈ putS n0 ps S x ∨ y ∈ T0 ++ pushV n0 ps em Ss S x := by
    intro z hz y hy hf
    by_cases hzS : z ∈ S
    ·rcases hc z hzS y hy hf with g | g
     ·exact .inl (mem_putS.2 (.inl g))
     ·rcases List.mem_append.1 g with g | g
      ·exact .inr (List.mem_append.2 (.inl g))
      ·rw [List.mem_singleton] at g
       subst g
       exact .inl (mem_putS.2 (.inr ⟨rfl, hf⟩))
    ·rcases mem_putS.1 hz with g | ⟨g, g2⟩
     ·exact absurd g hzS
     ·subst g
      refine .inr (List.mem_append.2 (.inr ?_))
      rw [push_eq, if_pos (by simp only [newV, Bool.and_eq_true, Bool.not_eq_true', decide_eq_false_iff_not]; exact ⟨hzS, g2⟩)]
      exact hy
   obtain ⟨q1, q2, q3, q4, q5⟩ := clos_spec m _ _ r h' (putS_nodup hn x) hc'
   refine ⟨q1, fun y hy => q2 y (mem_putS.2 (.inl hy)), fun y hy hf => ?_, q4, fun Q h1 h2 h3 => q5 Q ?_ ?_ h3⟩
   ·rcases List.mem_append.1 hy with hy | hy
    ·exact q3 y (List.mem_append.2 (.inl hy)) hf
    ·rw [List.mem_singleton] at hy
     subst hy
     exact q2 y (mem_putS.2 (.inr ⟨rfl, hf⟩))
   ·intro y hy
    rcases mem_putS.1 hy with g | ⟨rfl, g⟩
    ·exact h1 y g
    ·exact h2 y (by simp) g
   ·intro y hy hf
    rcases List.mem_append.1 hy with hy | hy
    ·exact h2 y (by simp [hy]) hf
    ·rw [push_eq] at hy
     split at hy
     ·rename_i c
      simp only [newV, Bool.and_eq_true] at c
      exact h3 x y (h2 x (by simp) c.2) hy hf
     ·exact nomatch hy
def IsClos (n0 : Nat) (ps : List P) (em : List Bool) (Ss : List (List Int)) (T c : List Lr) : Prop := RisesL c ∧ ∀ x, x ∈ c ↔ Rch n0 ps em Ss T x
theorem clos_is {k : Nat} {T r : List Lr} (h : closV n0 ps em Ss k [] T = some r) : IsClos n0 ps em Ss T (srtL r) := by
 obtain ⟨q1, _, q3, q4, q5⟩ := clos_spec k [] T r h List.nodup_nil (fun _ hx => nomatch hx)
 refine ⟨srtL_rises q1, fun x => ?_⟩
 rw [srtL_mem]
 constructor
 ·exact q5 (Rch n0 ps em Ss T) (fun _ hx => nomatch hx) (fun x hx hf => .base x hx hf) (fun x y hx hy hf => .step x y hx hy hf) x
 ·intro hx
  induction hx with
  | base x h1 h2 => exact q3 x h1 h2
  | step x y _ h2 h3 ih => exact q4 x ih y h2 h3
theorem IsClos.one {T U c d : List Lr} (h1 : IsClos n0 ps em Ss T c) (h2 : IsClos n0 ps em Ss U d) (h : ∀ x, Rch n0 ps em Ss T x ↔ Rch n0 ps em Ss U x) : c = d :=
 risesL_one h1.1 h2.1 fun x => by rw [h1.2, h2.2, h]
theorem rises_nodup {c : List Lr} (h : RisesL c) : c.Nodup := List.Pairwise.imp (fun {a b} h e => by subst e; exact bef_irrefl _ h) h
theorem IsClos.len {B : Nat} (hB : 1 ≤ B) (hps : ∀ p ∈ ps, p.2.1.length ≤ B) {T c : List Lr} (h : IsClos n0 ps em Ss T c) : c.length ≤ (ps.length + 1) * ((B + 1) * (n0 + 1)) := by
 have := nodup_le c _ (rises_nodup h.1) (fun x hx => fit_box hB hps ((h.2 x).1 hx).fit)
 rwa [box_len] at this
end Go.Proofs.YtgdmjpehofdnpaaGreat.LReach
end
section
namespace Go.Proofs.YtgdmjpehofdnpaaGreat.Pure
set_option linter.unusedVariables false
set_option linter.unusedSimpArgs false
open Go.RowKit Go.Proofs.YtgdmjpehofdnpaaGreat.PItemPrefixes Go.Proofs.YtgdmjpehofdnpaaGreatW.PrintWords Go.Proofs.YtgdmjpehofdnpaaGreatW.PrintLast Go.Proofs.YtgdmjpehofdnpaaGreatW.PrintMore
theorem w64 {x : Int} (h1 : -9223372036854775808 ≤ x) (h2 : x ≤ 9223372036854775807) : wrap64 x = x := by
 unfold wrap64
 omega
theorem evAt {α : Type} {g : Nat → Option α} {r : α} (h : ∀ k, g (k + 1) = some r) : Ev g r := ⟨1, fun k hk => by obtain ⟨m, rfl⟩ : ∃ m, k = m + 1 := ⟨k - 1, by omega⟩; exact h m⟩
section
open Go.Proofs.YtgdmjpehofdnpaaGreat.Grow Go.Proofs.YtgdmjpehofdnpaaGreat.Deri Go.Proofs.YtgdmjpehofdnpaaGreat.Begin Go.Proofs.YtgdmjpehofdnpaaGreat.Begun Go.Proofs.YtgdmjpehofdnpaaGreat.MSet Go.Proofs.YtgdmjpehofdnpaaGreat.LInv
variable {σ : Type} {step : σ → Fl.P → σ × Bool}
structure Steps (step : σ → Fl.P → σ × Bool) (ps : List Fl.P) (I : σ → Prop) (m : σ → Nat) (M : Nat) : Prop where
 keep : ∀ s p, p ∈ ps → I s → I (step s p).1
 up : ∀ s p, p ∈ ps → I s → (step s p).2 = true → m s < m (step s p).1
 no : ∀ s p, p ∈ ps → I s → (step s p).2 = false → (step s p).1 = s
 bound : ∀ s, I s → m s ≤ M
theorem rounds_go {ps : List Fl.P} {I : σ → Prop} {m : σ → Nat} {M : Nat} (h : Steps step ps I m M) : ∀ (qs : List Fl.P), (∀ p ∈ qs, p ∈ ps) → ∀ (s : σ) (b : Bool), I s →
  I (qs.foldl (roundV step) (s, b)).1 ∧ m s ≤ m (qs.foldl (roundV step) (s, b)).1 ∧ ((qs.foldl (roundV step) (s, b)).2 = true → b = true ∨ m s < m (qs.foldl (roundV step) (s, b)).1) ∧
  ((qs.foldl (roundV step) (s, b)).2 = false → (qs.foldl (roundV step) (s, b)).1 = s ∧ b = false ∧ ∀ p ∈ qs, (step s p).2 = false) ∧
  (∀ Q : σ → Prop, (∀ t p, p ∈ ps → I t → Q t → Q (step t p).1) → Q s → Q (qs.foldl (roundV step) (s, b)).1)
 | [], _, s, b, hs => ⟨hs, Nat.le_refl _, fun h => .inl h, fun h => ⟨rfl, h, fun _ hp => nomatch hp⟩, fun _ _ hq => hq⟩
 | p :: t, hq, s, b, hs => by
  have hp := hq p (by simp)
  have e : (p :: t).foldl (roundV step) (s, b) = t.foldl (roundV step) ((step s p).1, b || (step s p).2) := rfl
  rw [e]
  obtain ⟨h1, h2, h3, h4, h5⟩ := rounds_go h t (fun q hq' => hq q (by simp [hq'])) (step s p).1 (b || (step s p).2) (h.keep s p hp hs)
  have hle : m s ≤ m (step s p).1 := by
   cases c : (step s p).2 with
   | true => exact Nat.le_of_lt (h.up s p hp hs c)
   | false => rw [h.no s p hp hs c]; exact Nat.le_refl _
  refine ⟨h1, Nat.le_trans hle h2, fun hb => ?_, fun hb => ?_, fun Q hQ hs' => h5 Q hQ (hQ s p hp hs hs')⟩
  ·rcases h3 hb with h6 | h6
   ·cases c : (step s p).2 with
    | true => exact .inr (Nat.lt_of_lt_of_le (h.up s p hp hs c) (by rw [c] at h2; exact h2))
    | false => rw [c, Bool.or_false] at h6; exact .inl h6
   ·exact .inr (Nat.lt_of_le_of_lt hle h6)
  ·obtain ⟨h6, h7, h8⟩ := h4 hb
   obtain ⟨h9, h10⟩ := Bool.or_eq_false_iff.1 h7
   have h11 := h.no s p hp hs h10
   rw [h11] at h6 h8
   rw [h11]
   refine ⟨h6, h9, fun q hq' => ?_⟩
   rcases List.mem_cons.1 hq' with rfl | hq'
   ·exact h10
   ·exact h8 q hq'
theorem grow_ends {ps : List Fl.P} {I : σ → Prop} {m : σ → Nat} {M : Nat} (h : Steps step ps I m M) : ∀ (d : Nat) (s : σ), I s → M - m s < d → ∃ r, growV step ps d s = some r ∧ I r ∧ (∀ p ∈ ps, (step r p).2 = false) ∧ (∀ Q : σ → Prop, (∀ t p, p ∈ ps → I t → Q t → Q (step t p).1) → Q s → Q r)
 | 0, _, _, hd => absurd hd (Nat.not_lt_zero _)
 | d + 1, s, hs, hd => by
  obtain ⟨h1, h2, h3, h4, h5⟩ := rounds_go h ps (fun p hp => hp) s false hs
  simp only [growV]
  show ∃ r, (if (ps.foldl (roundV step) (s, false)).2 = true then _ else some (ps.foldl (roundV step) (s, false)).1) = some r ∧ _
  split
  ·rename_i hb
   rcases h3 hb with h6 | h6
   ·cases h6
   ·have := h.bound _ h1
    obtain ⟨r, g1, g2, g3, g4⟩ := grow_ends h d _ h1 (by omega)
    exact ⟨r, g1, g2, g3, fun Q hQ hs' => g4 Q hQ (h5 Q hQ hs')⟩
  ·rename_i hb
   obtain ⟨h6, _, h8⟩ := h4 (by simpa using hb)
   exact ⟨_, rfl, h1, by rw [h6]; exact h8, h5⟩
theorem grow_up {ps : List Fl.P} : ∀ (k : Nat) (s r : σ), growV step ps k s = some r → growV step ps (k + 1) s = some r
 | 0, _, _, h => by simp [growV] at h
 | k + 1, s, r, h => by
  have e : ∀ k, growV step ps (k + 1) s = if (roundsV step ps s).2 = true then growV step ps k (roundsV step ps s).1 else some (roundsV step ps s).1 := fun _ => rfl
  rw [e] at h ⊢
  split
  ·rename_i c
   rw [if_pos c] at h
   exact grow_up k _ _ h
  ·rename_i c
   rw [if_neg c] at h
   exact h
theorem grow_Ev {ps : List Fl.P} {d : Nat} {s r : σ} (h : growV step ps d s = some r) : Ev (fun k => growV step ps k s) r := Ev.of (fun k => (fun r h => grow_up k s r h)) h
theorem cnt_set : ∀ (bs : List Bool) (i : Nat), i < bs.length → bs.getD i false = false → (bs.set i true).count true = bs.count true + 1
 | [], i, h, _ => by simp at h
 | b :: t, 0, _, hb => by
  have : b = false := hb
  subst this
  simp
 | b :: t, i + 1, h, hb => by
  have := cnt_set t i (by simpa using h) hb
  simp only [Y3, List.count_cons, this]
  omega
theorem steps_D {N : Nat} {ps : List Fl.P} (hps : ∀ p ∈ ps, PrOk N p) : Steps stepD ps (fun bs => bs.length = N) (fun bs => bs.count true) N := by
 refine ⟨fun s p _ hs => ?_, fun s p hp hs h => ?_, fun s p _ _ h => ?_, fun s hs => by rw [← hs]; exact List.count_le_length⟩
 ·unfold stepD
  split
  ·exact hs
  ·rw [List.length_set]; exact hs
 ·have h1 := (hps p hp).1
  have h2 := (hps p hp).2.1
  unfold stepD at h ⊢
  split at h
  ·cases h
  ·rename_i c
   rw [if_neg c]
   rw [Bool.not_eq_true, Bool.or_eq_false_iff] at c
   show _ < (s.set _ true).count true
   rw [cnt_set s p.1.toNat (by omega) c.1]
   omega
 ·unfold stepD at h ⊢
  split
  ·rfl
  ·rename_i c
   rw [if_neg c] at h
   cases h
def szs (FS : List (List Int)) : Nat := (FS.map List.length).sum
theorem szs_set : ∀ (FS : List (List Int)) (i : Nat) (X : List Int), i < FS.length → szs (FS.set i X) + (FS.getD i []).length = szs FS + X.length
 | [], i, _, h => by simp at h
 | S :: t, 0, X, _ => by simp [szs]; omega
 | S :: t, i + 1, X, h => by
  have := szs_set t i X (by simpa using h)
  simp only [szs, Y3, List.map_cons, List.sum_cons, List.getD_cons_succ] at *
  omega
theorem szs_le : ∀ (FS : List (List Int)), (∀ S ∈ FS, S.length ≤ 1000000) → szs FS ≤ FS.length * 1000000
 | [], _ => by simp [szs]
 | S :: t, h => by
  have h1 := h S (by simp)
  have h2 := szs_le t (fun T hT => h T (by simp [hT]))
  simp only [szs, List.map_cons, List.sum_cons, List.length_cons] at *
  omega
theorem inv_szs {N : Nat} {FS : List (List Int)} (h : Inv N FS) : szs FS ≤ N * 1000000 := by
 have := szs_le FS (fun S hS => by
  obtain ⟨i, hi, rfl⟩ := List.mem_iff_getElem.1 hS
  have := h.len i
  rwa [List.getD_eq_getElem?_getD, List.getElem?_eq_getElem hi] at this)
 rwa [h.l] at this
theorem putV_grow (x : Int) : ∀ l : List Int, putV l x = l ∨ (putV l x).length = l.length + 1
 | [] => .inr rfl
 | a :: t => by
  simp only [putV]
  split
  ·exact .inr rfl
  ·split
   ·exact .inl rfl
   ·rcases putV_grow x t with h | h
    ·exact .inl (by rw [h])
    ·exact .inr (by simp [h])
theorem unionV_ge : ∀ (xs l : List Int), l.length ≤ (unionV l xs).length
 | [], l => Nat.le_refl _
 | x :: t, l => by
  have h1 := unionV_ge t (putV l x)
  have h2 : l.length ≤ (putV l x).length := by rcases putV_grow x l with h | h <;> rw [h] <;> omega
  exact Nat.le_trans h2 h1
theorem unionV_id : ∀ (xs l : List Int), (unionV l xs).length ≤ l.length → unionV l xs = l
 | [], l, _ => rfl
 | x :: t, l, h => by
  have e : unionV l (x :: t) = unionV (putV l x) t := rfl
  rw [e] at h ⊢
  have h1 := unionV_ge t (putV l x)
  rcases putV_grow x l with h2 | h2
  ·rw [h2] at h ⊢
   exact unionV_id t l h
  ·omega
theorem set_getD (FS : List (List Int)) (i : Nat) : FS.set i (FS.getD i []) = FS := by
 by_cases h : i < FS.length
 ·rw [List.getD_eq_getElem?_getD, List.getElem?_eq_getElem h]
  exact List.set_getElem_self _
 ·exact List.set_eq_of_length_le (by omega)
theorem steps_F {N : Nat} {em : List Bool} {ps : List Fl.P} (hps : ∀ p ∈ ps, PrOk N p) : Steps (stepF N em) ps (Inv N) szs (N * 1000000) := by
 refine ⟨fun s p _ hs => Inv.stepF hs, fun s p hp hs h => ?_, fun s p _ _ h => ?_, fun s hs => inv_szs hs⟩
 ·have h1 := (hps p hp).1
  have h2 := (hps p hp).2.1
  have h3 := szs_set s p.1.toNat (unionV (s.getD p.1.toNat []) (ahV N em s p.2.1 [])) (by rw [hs.l]; omega)
  have h4 := of_decide_eq_true h
  show szs s < szs (s.set _ _)
  omega
 ·have h4 := of_decide_eq_false h
  have h5 := unionV_id (ahV N em s p.2.1 []) (s.getD p.1.toNat []) (by omega)
  show s.set _ _ = s
  rw [h5, set_getD]
end
theorem rd40_drop (l : List S42) (i : Nat) (h : i < l.length) : l.drop i = zae l (i : Int) :: l.drop (i + 1) := by
 rw [List.drop_eq_getElem_cons h]
 congr 1
 show _ = l.getD ((i : Int)).toNat z42
 rw [Int.toNat_natCast, List.getD_eq_getElem?_getD, List.getElem?_eq_getElem h]
 rfl
theorem rd48_drop (l : List S44) (i : Nat) (h : i < l.length) : l.drop i = zba l (i : Int) :: l.drop (i + 1) := by
 rw [List.drop_eq_getElem_cons h]
 congr 1
 show _ = l.getD ((i : Int)).toNat z44
 rw [Int.toNat_natCast, List.getD_eq_getElem?_getD, List.getElem?_eq_getElem h]
 rfl
theorem rd40_mem (l : List S42) (i : Nat) (h : i < l.length) : zae l (i : Int) ∈ l := by
 have := rd40_drop l i h
 exact List.mem_of_mem_drop (i := i) (by rw [this]; simp)
theorem rd48_mem (l : List S44) (i : Nat) (h : i < l.length) : zba l (i : Int) ∈ l := by
 have := rd48_drop l i h
 exact List.mem_of_mem_drop (i := i) (by rw [this]; simp)
theorem light_Ev (t n : List ByteArray) (l : List S42) (hl : l.length ≤ 100000000000000) : ∃ b, Ev (fun k => za4.f k t n l) b := by
 have go : ∀ (d i : Nat) (x : Int), i + d = l.length → ∃ b, Ev (fun k => za4.l0 k x (i : Int) t n l) b := by
  intro d
  induction d with
  | zero =>
   intro i x hi
   exact ⟨_, evAt fun k => by simp only [za4.l0]; rw [if_neg (by omega)]⟩
  | succ d ih =>
   intro i x hi
   by_cases hx : x ≥ 0
   ·obtain ⟨b, e⟩ := ih (i + 1) (wrap64 ((wrap64 (x - 1)) - (((zae l i).f1).length : Int))) (by omega)
    refine ⟨b, Ev.step (fun k => ?_) e⟩
    simp only [za4.l0]
    rw [if_pos (by omega), if_pos hx, if_pos (by omega), w64 (x := (i : Int) + 1) (by omega) (by omega)]
    rfl
   ·exact ⟨_, evAt fun k => by simp only [za4.l0]; rw [if_pos (by omega), if_neg hx]⟩
 exact go l.length 0 _ (by omega)
theorem titles_Ev (l : List ByteArray) (hl : l.length ≤ 100000000000000) : ∃ b, Ev (fun k => zau.f k l) b := by
 have go : ∀ (d i : Nat), i + d = l.length → ∃ b, Ev (fun k => zau.l0 k l (i : Int)) b := by
  intro d
  induction d with
  | zero =>
   intro i hi
   exact ⟨_, evAt fun k => by simp only [zau.l0]; rw [if_neg (by omega)]⟩
  | succ d ih =>
   intro i hi
   by_cases h1 : (rdOf ByteArray.empty l (i : Int)).toList = ([] : List UInt8)
   ·exact ⟨_, evAt fun k => by simp only [zau.l0]; rw [if_pos (by omega), if_pos (by omega), if_pos h1]⟩
   ·by_cases h2 : ((rdOf ByteArray.empty l (i : Int)).size : Int) > 80
    ·exact ⟨_, evAt fun k => by simp only [zau.l0]; rw [if_pos (by omega), if_pos (by omega), if_neg h1, if_pos h2]⟩
    ·obtain ⟨b, e⟩ := ih (i + 1) (by omega)
     refine ⟨b, Ev.step (fun k => ?_) e⟩
     simp only [zau.l0]
     rw [if_pos (by omega), if_pos (by omega), if_neg h1, if_neg h2, w64 (x := (i : Int) + 1) (by omega) (by omega)]
     rfl
 exact go l.length 0 (by omega)
theorem letter_some (a : Int) : ∃ b, zby.f a = some b := by
 unfold zby.f
 repeat' split
 all_goals exact ⟨_, rfl⟩
theorem digit_some (a : Int) : ∃ b, zbz.f a = some b := by
 unfold zbz.f
 repeat' split
 all_goals exact ⟨_, rfl⟩
theorem name7_Ev (s : ByteArray) (hs : s.size ≤ 1000000000000000) : ∃ b, Ev (fun k => zaz.f k s) b := by
 have go : ∀ (d i : Nat), i + d = s.size → ∃ b, Ev (fun k => zaz.l0 k s (i : Int)) b := by
  intro d
  induction d with
  | zero =>
   intro i hi
   by_cases h : s.toList = ([] : List UInt8)
   ·exact ⟨_, evAt fun k => by simp only [zaz.l0]; rw [if_neg (by omega), if_pos h]⟩
   ·exact ⟨_, evAt fun k => by simp only [zaz.l0]; rw [if_neg (by omega), if_neg h]⟩
  | succ d ih =>
   intro i hi
   obtain ⟨b, e⟩ := ih (i + 1) (by omega)
   have hw := w64 (x := (i : Int) + 1) (by omega) (by omega)
   obtain ⟨c, hc⟩ := letter_some (bt s (i : Int))
   obtain ⟨c2, hc2⟩ := digit_some (bt s (i : Int))
   cases c with
   | true =>
    refine ⟨b, Ev.step (fun k => ?_) e⟩
    simp only [zaz.l0]
    rw [if_pos (by omega), if_pos (by omega), hc, hw]
    rfl
   | false =>
    by_cases h0 : (i : Int) = 0
    ·refine ⟨false, evAt fun k => ?_⟩
     simp only [zaz.l0]
     rw [if_pos (by omega), if_pos (by omega), hc]
     simp only [Option.bind_some, Bool.false_eq_true, if_false]
     rw [if_pos h0]
    ·cases c2 with
     | true =>
      refine ⟨b, Ev.step (fun k => ?_) e⟩
      simp only [zaz.l0]
      rw [if_pos (by omega), if_pos (by omega), hc, hw]
      simp only [Option.bind_some, Bool.false_eq_true, if_false]
      rw [if_neg h0, hc2]
      rfl
     | false =>
      refine ⟨false, evAt fun k => ?_⟩
      simp only [zaz.l0]
      rw [if_pos (by omega), if_pos (by omega), hc]
      simp only [Option.bind_some, Bool.false_eq_true, if_false]
      rw [if_neg h0, hc2]
      rfl
 exact go s.size 0 (by omega)
theorem name9_Ev (s : ByteArray) (hs : s.size ≤ 1000000000000000) : ∃ b, Ev (fun k => za1.f k s) b := by
 unfold za1.f
 by_cases h : s.toList = ([] : List UInt8)
 ·exact ⟨true, by simp only [if_pos h]; exact Ev.now _⟩
 ·obtain ⟨b, e⟩ := name7_Ev s hs
  exact ⟨b, by simp only [if_neg h]; exact Ev.bind e (Ev.now _)⟩
def prFit (t : Nat) (n : Int) (p : S42) : Prop := (t : Int) ≤ p.f0 ∧ p.f0 < n ∧ p.f1.length ≤ 64 ∧ ∀ x ∈ p.f1, 0 ≤ x.f0 ∧ x.f0 < n
theorem fit_items (t n : List ByteArray) (l : List S42) (x3 : Int) (i : Nat) (p : S42) (hp : p.f1.length ≤ 100000000000000) (hok : ∀ x ∈ p.f1, x.f1.size ≤ 1000000000000000 ∧ x.f2.size ≤ 1000000000000000) (hi : i ≤ 100000000000000)
  (Pr : Prop) (hn : ∃ b, Ev (fun k => zan.l0 k x3 ((i + 1 : Nat) : Int) t n l) b ∧ (b = true → Pr)) :
  ∀ (d j : Nat), j + d = p.f1.length → ∃ b, Ev (fun k => zan.l1 k x3 (i : Int) (j : Int) t n l p.f0 p.f1 p.f2) b ∧ (b = true → Pr ∧ ∀ x ∈ p.f1.drop j, 0 ≤ x.f0 ∧ x.f0 < x3) := by
 intro d
 induction d with
 | zero =>
  intro j hj
  obtain ⟨b, e, g⟩ := hn
  refine ⟨b, Ev.step (fun k => ?_) e, fun hb => ⟨g hb, fun x hx => ?_⟩⟩
  ·simp only [zan.l1]
   rw [if_neg (by omega), w64 (x := (i : Int) + 1) (by omega) (by omega)]
   rfl
  ·rw [List.drop_of_length_le (by omega)] at hx
   exact nomatch hx
 | succ d ih =>
  intro j hj
  have hx := hok _ (rd48_mem p.f1 j (by omega))
  by_cases h1 : (zba p.f1 (j : Int)).f0 < 0
  ·exact ⟨false, evAt fun k => by simp only [zan.l1]; rw [if_pos (by omega), if_pos (by omega), if_pos h1], fun h => nomatch h⟩
  by_cases h2 : (zba p.f1 (j : Int)).f0 ≥ x3
  ·exact ⟨false, evAt fun k => by simp only [zan.l1]; rw [if_pos (by omega), if_pos (by omega), if_neg h1, if_pos h2], fun h => nomatch h⟩
  obtain ⟨b1, e1⟩ := name9_Ev _ hx.1
  obtain ⟨b2, e2⟩ := name9_Ev _ hx.2
  obtain ⟨b, e, g⟩ := ih (j + 1) (by omega)
  have hs : ∀ k, zan.l1 (k + 1) x3 (i : Int) (j : Int) t n l p.f0 p.f1 p.f2 = (za1.f k (zba p.f1 (j : Int)).f1).bind fun t114 => (if t114 = true then ((za1.f k (zba p.f1 (j : Int)).f2).bind fun t115 => (if t115 = true then zan.l1 k x3 (i : Int) ((j + 1 : Nat) : Int) t n l p.f0 p.f1 p.f2 else some false)) else some false) := fun k => by
   simp only [zan.l1]
   rw [if_pos (by omega), if_pos (by omega), if_neg h1, if_neg h2, w64 (x := (j : Int) + 1) (by omega) (by omega)]
   rfl
  cases b1 with
  | false => exact ⟨false, Ev.step hs (Ev.bind e1 (by simp only [Bool.false_eq_true, if_false]; exact Ev.now _)), fun h => nomatch h⟩
  | true =>
   cases b2 with
   | false => exact ⟨false, Ev.step hs (Ev.bind e1 (by simp only [if_true]; exact Ev.bind e2 (by simp only [Bool.false_eq_true, if_false]; exact Ev.now _))), fun h => nomatch h⟩
   | true =>
    refine ⟨b, Ev.step hs (Ev.bind e1 (by simp only [if_true]; exact Ev.bind e2 (by simp only [if_true]; exact e))), fun hb => ?_⟩
    obtain ⟨g1, g2⟩ := g hb
    refine ⟨g1, fun x hx' => ?_⟩
    rw [rd48_drop p.f1 j (by omega)] at hx'
    rcases List.mem_cons.1 hx' with rfl | hx'
    ·exact ⟨by omega, by omega⟩
    ·exact g2 x hx'
theorem fit_prods (t n : List ByteArray) (l : List S42) (x3 : Int) (hl : l.length ≤ 100000000000000) (hok : ∀ p ∈ l, p.f1.length ≤ 100000000000000 ∧ ∀ x ∈ p.f1, x.f1.size ≤ 1000000000000000 ∧ x.f2.size ≤ 1000000000000000) :
  ∀ (d i : Nat), i + d = l.length → ∃ b, Ev (fun k => zan.l0 k x3 (i : Int) t n l) b ∧ (b = true → ∀ p ∈ l.drop i, prFit t.length x3 p) := by
 intro d
 induction d with
 | zero =>
  intro i hi
  refine ⟨true, evAt fun k => by simp only [zan.l0]; rw [if_neg (by omega)], fun _ p hp => ?_⟩
  rw [List.drop_of_length_le (by omega)] at hp
  exact nomatch hp
 | succ d ih =>
  intro i hi
  have hp := hok _ (rd40_mem l i (by omega))
  have hd := rd40_drop l i (by omega)
  generalize hpe : zae l (i : Int) = p at hp hd
  have bad : ∀ k, zan.j2 (k + 1) x3 (i : Int) true t n l p.f0 p.f1 p.f2 = some false := fun k => by simp only [zan.j2]; rw [if_pos trivial]
  have step : ∀ b, (∀ k, zan.l0 (k + 1) x3 (i : Int) t n l = zan.j2 k x3 (i : Int) b t n l p.f0 p.f1 p.f2) → (b = false → (t.length : Int) ≤ p.f0 ∧ p.f0 < x3 ∧ p.f1.length ≤ 64) →
    ∃ b, Ev (fun k => zan.l0 k x3 (i : Int) t n l) b ∧ (b = true → ∀ p ∈ l.drop i, prFit t.length x3 p) := by
   intro b hk hb
   cases b with
   | true => exact ⟨false, Ev.step hk (evAt bad), fun h => nomatch h⟩
   | false =>
    obtain ⟨q1, q2, q3⟩ := hb rfl
    obtain ⟨b, e, g⟩ := fit_items t n l x3 i p hp.1 hp.2 (by omega) _ (ih (i + 1) (by omega)) p.f1.length 0 (by omega)
    refine ⟨b, Ev.step hk (Ev.step (fun k => ?_) e), fun hb' q hq => ?_⟩
    ·simp only [zan.j2]
     rw [if_neg (by decide)]
     rfl
    ·obtain ⟨g1, g2⟩ := g hb'
     rw [hd] at hq
     rcases List.mem_cons.1 hq with rfl | hq
     ·exact ⟨q1, q2, q3, fun x hx => g2 x (by rw [List.drop_zero]; exact hx)⟩
     ·exact g1 q hq
  by_cases c1 : p.f0 < (t.length : Int)
  ·exact step true (fun k => by simp only [zan.l0]; rw [hpe, if_pos (by omega), if_pos (by omega), if_pos c1]) (fun h => nomatch h)
  by_cases c2 : p.f0 ≥ x3
  ·exact step true (fun k => by simp only [zan.l0]; rw [hpe, if_pos (by omega), if_pos (by omega), if_neg c1, if_pos c2]) (fun h => nomatch h)
  by_cases c3 : (i : Int) > 0
  ·have hw := w64 (x := (i : Int) - 1) (by omega) (by omega)
   by_cases c4 : (zae l ((i : Int) - 1)).f0 > p.f0
   ·exact step true (fun k => by simp only [zan.l0]; rw [hpe, hw, if_pos (by omega), if_pos (by omega), if_neg c1, if_neg c2, if_pos c3, if_pos (by omega), if_pos (by omega), if_pos c4]) (fun h => nomatch h)
   by_cases c5 : (p.f1.length : Int) > 64
   ·exact step true (fun k => by simp only [zan.l0]; rw [hpe, hw, if_pos (by omega), if_pos (by omega), if_neg c1, if_neg c2, if_pos c3, if_pos (by omega), if_pos (by omega), if_neg c4, if_pos c5]) (fun h => nomatch h)
   by_cases c6 : p.f2 < -10000
   ·exact step true (fun k => by simp only [zan.l0]; rw [hpe, hw, if_pos (by omega), if_pos (by omega), if_neg c1, if_neg c2, if_pos c3, if_pos (by omega), if_pos (by omega), if_neg c4, if_neg c5, if_pos c6]) (fun h => nomatch h)
   ·exact step (decide (p.f2 > 10000)) (fun k => by simp only [zan.l0]; rw [hpe, hw, if_pos (by omega), if_pos (by omega), if_neg c1, if_neg c2, if_pos c3, if_pos (by omega), if_pos (by omega), if_neg c4, if_neg c5, if_neg c6]) (fun _ => ⟨by omega, by omega, by omega⟩)
  ·by_cases c5 : (p.f1.length : Int) > 64
   ·exact step true (fun k => by simp only [zan.l0]; rw [hpe, if_pos (by omega), if_pos (by omega), if_neg c1, if_neg c2, if_neg c3, if_pos c5]) (fun h => nomatch h)
   by_cases c6 : p.f2 < -10000
   ·exact step true (fun k => by simp only [zan.l0]; rw [hpe, if_pos (by omega), if_pos (by omega), if_neg c1, if_neg c2, if_neg c3, if_neg c5, if_pos c6]) (fun h => nomatch h)
   ·exact step (decide (p.f2 > 10000)) (fun k => by simp only [zan.l0]; rw [hpe, if_pos (by omega), if_pos (by omega), if_neg c1, if_neg c2, if_neg c3, if_neg c5, if_neg c6]) (fun _ => ⟨by omega, by omega, by omega⟩)
theorem fit_Ev (t n : List ByteArray) (l : List S42) (ht : t.length ≤ 100000000000000) (hn : n.length ≤ 100000000000000) (hl : l.length ≤ 100000000000000) (hok : ∀ p ∈ l, p.f1.length ≤ 100000000000000 ∧ ∀ x ∈ p.f1, x.f1.size ≤ 1000000000000000 ∧ x.f2.size ≤ 1000000000000000) :
  ∃ b, Ev (fun k => zan.f k t n l) b ∧ (b = true → 1 ≤ n.length ∧ t.length + n.length ≤ 600 ∧ l.length ≤ 400 ∧ ∀ p ∈ l, prFit t.length ((t.length + n.length : Nat) : Int) p) := by
 have hw := w64 (x := (t.length : Int) + (n.length : Int)) (by omega) (by omega)
 have bad : ∀ (g : Nat → Option Bool), (∀ k, g k = zan.j0 k ((t.length : Int) + (n.length : Int)) true t n l) → Ev g false := fun g hg => Ev.congr hg (evAt fun k => by simp only [zan.j0]; rw [if_pos trivial])
 by_cases c1 : (n.length : Int) = 0
 ·exact ⟨false, bad _ (fun k => by unfold zan.f; rw [hw, if_pos c1]), fun h => nomatch h⟩
 by_cases c2 : (t.length : Int) + (n.length : Int) > 600
 ·exact ⟨false, bad _ (fun k => by unfold zan.f; rw [hw, if_neg c1, if_pos c2]), fun h => nomatch h⟩
 by_cases c3 : (l.length : Int) > 400
 ·exact ⟨false, bad _ (fun k => by unfold zan.f; rw [hw, if_neg c1, if_neg c2, if_pos c3]), fun h => nomatch h⟩
 obtain ⟨b1, e1⟩ := titles_Ev t ht
 obtain ⟨b2, e2⟩ := titles_Ev n hn
 have hf : ∀ k, zan.f k t n l = (zau.f k t).bind fun t107 => (if t107 = true then ((zau.f k n).bind fun t108 => (zan.j0 k ((t.length : Int) + (n.length : Int)) (!t108) t n l)) else (zan.j0 k ((t.length : Int) + (n.length : Int)) true t n l)) := fun k => by unfold zan.f; rw [hw, if_neg c1, if_neg c2, if_neg c3]
 cases b1 with
 | false => exact ⟨false, Ev.congr hf (Ev.bind e1 (by simp only [Bool.false_eq_true, if_false]; exact bad _ (fun k => rfl))), fun h => nomatch h⟩
 | true =>
  cases b2 with
  | false => exact ⟨false, Ev.congr hf (Ev.bind e1 (by simp only [if_true]; exact Ev.bind e2 (bad _ (fun k => rfl)))), fun h => nomatch h⟩
  | true =>
   obtain ⟨b, e, g⟩ := fit_prods t n l ((t.length : Int) + (n.length : Int)) hl hok l.length 0 (by omega)
   have e3 : Ev (fun k => zan.j0 k ((t.length : Int) + (n.length : Int)) (!true) t n l) b := Ev.step (f := fun k => zan.l0 k ((t.length : Int) + (n.length : Int)) 0 t n l) (fun k => by simp only [zan.j0]; rw [if_neg (by decide)]) e
   refine ⟨b, Ev.congr hf (Ev.bind e1 (by simp only [if_true]; exact Ev.bind e2 e3)), fun hb => ⟨by omega, by omega, by omega, fun p hp => ?_⟩⟩
   ·have := g hb p (by rw [List.drop_zero]; exact hp)
    rwa [Int.natCast_add]
section
open Go.Proofs.YtgdmjpehofdnpaaGreat.Grow Go.Proofs.YtgdmjpehofdnpaaGreat.Deri
theorem stepD_len (bs : List Bool) (p : Fl.P) : (stepD bs p).1.length = bs.length := by
 unfold stepD
 split
 ·rfl
 ·exact List.length_set
theorem roundD (bs : List Bool) (ch : Bool) (p : S42) : roundV stepD (bs, ch) (prE p) = if (!at_ bs p.f0 && p.f1.all (fun x => at_ bs x.f0)) = true then (bs.set p.f0.toNat true, true) else (bs, ch) := by
 have e : (at_ bs p.f0 || (p.f1.map itE).any (fun x => !at_ bs x.1)) = !(!at_ bs p.f0 && p.f1.all (fun x => at_ bs x.f0)) := by
  rw [Bool.not_and, Bool.not_not, List.any_map, List.not_all_eq_any_not]
  rfl
 unfold roundV stepD
 show ((if (at_ bs p.f0 || (p.f1.map itE).any (fun x => !at_ bs x.1)) = true then (bs, false) else (bs.set p.f0.toNat true, true)).1, ch || (if (at_ bs p.f0 || (p.f1.map itE).any (fun x => !at_ bs x.1)) = true then (bs, false) else (bs.set p.f0.toNat true, true)).2) = _
 rw [e]
 cases (!at_ bs p.f0 && p.f1.all (fun x => at_ bs x.f0)) <;> simp
theorem roundsD_len : ∀ (qs : List Fl.P) (s : List Bool × Bool), (qs.foldl (roundV stepD) s).1.length = s.1.length
 | [], _ => rfl
 | p :: t, s => by
  have := roundsD_len t (roundV stepD s p)
  rw [List.foldl_cons, this]
  exact stepD_len s.1 p
end
section
open Go.Proofs.YtgdmjpehofdnpaaGreat.Grow Go.Proofs.YtgdmjpehofdnpaaGreat.Deri
theorem useful_items (t n : List ByteArray) (l : List S42) (ch : Bool) (i : Nat) (p : S42) (bs : List Bool) (hi : i ≤ 100000000000000) (h0 : 0 ≤ p.f0) (h1 : p.f0 < (bs.length : Int)) (hl : p.f1.length ≤ 100000000000000) (hx : ∀ x ∈ p.f1, 0 ≤ x.f0 ∧ x.f0 < (bs.length : Int)) (r : List Bool) (fin : Bool)
  (hT : fin = true → Ev (fun k => zao.l2 k (bs.set p.f0.toNat true) true ((i + 1 : Nat) : Int) t n l) r) (hF : fin = false → Ev (fun k => zao.l2 k bs ch ((i + 1 : Nat) : Int) t n l) r) :
  ∀ (d j : Nat) (al : Bool), j + d = p.f1.length → (al && (p.f1.drop j).all (fun x => at_ bs x.f0)) = fin → Ev (fun k => zao.l3 k bs ch (i : Int) al (j : Int) t n l p.f0 p.f1 p.f2) r := by
 intro d
 induction d with
 | zero =>
  intro j al hj hf
  have hw := w64 (x := (i : Int) + 1) (by omega) (by omega)
  rw [List.drop_of_length_le (by omega), List.all_nil, Bool.and_true] at hf
  cases al with
  | true =>
   refine Ev.step (fun k => ?_) (hT hf.symm)
   simp only [zao.l3]
   rw [if_neg (by omega), if_pos trivial, if_pos h0, if_pos h1, hw]
   rfl
  | false =>
   refine Ev.step (fun k => ?_) (hF hf.symm)
   simp only [zao.l3]
   rw [if_neg (by omega), if_neg (by decide), hw]
   rfl
 | succ d ih =>
  intro j al hj hf
  have hxj := hx _ (rd48_mem p.f1 j (by omega))
  rw [rd48_drop p.f1 j (by omega), List.all_cons] at hf
  have hw := w64 (x := (j : Int) + 1) (by omega) (by omega)
  cases al with
  | true =>
   refine Ev.step (fun k => ?_) (ih (j + 1) (at_ bs (zba p.f1 (j : Int)).f0) (by omega) (by simpa using hf))
   simp only [zao.l3]
   rw [if_pos (by omega), if_pos trivial, if_pos (by omega), if_pos hxj.1, if_pos hxj.2, hw]
   rfl
  | false =>
   refine Ev.step (fun k => ?_) (ih (j + 1) false (by omega) (by simpa using hf))
   simp only [zao.l3]
   rw [if_pos (by omega), if_neg (by decide), hw]
   rfl
theorem useful_prods (t n : List ByteArray) (l : List S42) (N : Nat) (hl : l.length ≤ 1000000000) (hok : ∀ p ∈ l, 0 ≤ p.f0 ∧ p.f0 < (N : Int) ∧ p.f1.length ≤ 100000000000000 ∧ ∀ x ∈ p.f1, 0 ≤ x.f0 ∧ x.f0 < (N : Int)) (r : List Bool) :
  ∀ (d i : Nat) (bs : List Bool) (ch : Bool), i + d = l.length → bs.length = N → Ev (fun k => zao.l1 k (((l.drop i).map prE).foldl (roundV stepD) (bs, ch)).1 (((l.drop i).map prE).foldl (roundV stepD) (bs, ch)).2 t n l) r → Ev (fun k => zao.l2 k bs ch (i : Int) t n l) r := by
 intro d
 induction d with
 | zero =>
  intro i bs ch hi hb h
  rw [List.drop_of_length_le (by omega)] at h
  refine Ev.step (fun k => ?_) h
  simp only [zao.l2]
  rw [if_neg (by omega)]
  rfl
 | succ d ih =>
  intro i bs ch hi hb h
  have hp := hok _ (rd40_mem l i (by omega))
  rw [rd40_drop l i (by omega), List.map_cons, List.foldl_cons, roundD] at h
  generalize hpe : zae l (i : Int) = p at hp h
  have hT : (!at_ bs p.f0 && p.f1.all (fun x => at_ bs x.f0)) = true → Ev (fun k => zao.l2 k (bs.set p.f0.toNat true) true ((i + 1 : Nat) : Int) t n l) r := fun c => by
   rw [if_pos c] at h
   exact ih (i + 1) _ _ (by omega) (by rw [List.length_set]; exact hb) h
  have hF : (!at_ bs p.f0 && p.f1.all (fun x => at_ bs x.f0)) = false → Ev (fun k => zao.l2 k bs ch ((i + 1 : Nat) : Int) t n l) r := fun c => by
   rw [if_neg (by rw [c]; decide)] at h
   exact ih (i + 1) _ _ (by omega) hb h
  have e := useful_items t n l ch i p bs (by omega) hp.1 (by rw [hb]; exact hp.2.1) hp.2.2.1 (by rw [hb]; exact hp.2.2.2) r _ hT hF p.f1.length 0 (!at_ bs p.f0) (by omega) (by rw [List.drop_zero])
  refine Ev.step (fun k => ?_) e
  simp only [zao.l2]
  rw [hpe, if_pos (by omega), if_pos (by omega), if_pos hp.1, if_pos (by rw [hb]; exact hp.2.1)]
  rfl
theorem useful_outer (t n : List ByteArray) (l : List S42) (N : Nat) (hl : l.length ≤ 1000000000) (hok : ∀ p ∈ l, 0 ≤ p.f0 ∧ p.f0 < (N : Int) ∧ p.f1.length ≤ 100000000000000 ∧ ∀ x ∈ p.f1, 0 ≤ x.f0 ∧ x.f0 < (N : Int)) (r : List Bool) :
  ∀ (m : Nat) (bs : List Bool), bs.length = N → growV stepD (l.map prE) m bs = some r → Ev (fun k => zao.l1 k bs true t n l) r
 | 0, _, _, h => by simp [growV] at h
 | m + 1, bs, hb, h => by
  have e : growV stepD (l.map prE) (m + 1) bs = if (roundsV stepD (l.map prE) bs).2 = true then growV stepD (l.map prE) m (roundsV stepD (l.map prE) bs).1 else some (roundsV stepD (l.map prE) bs).1 := rfl
  rw [e] at h
  have hlen : (roundsV stepD (l.map prE) bs).1.length = N := (roundsD_len _ (bs, false)).trans hb
  have hn : Ev (fun k => zao.l1 k (roundsV stepD (l.map prE) bs).1 (roundsV stepD (l.map prE) bs).2 t n l) r := by
   cases c : (roundsV stepD (l.map prE) bs).2 with
   | true =>
    rw [if_pos c] at h
    exact useful_outer t n l N hl hok r m _ hlen h
   | false =>
    rw [if_neg (by rw [c]; decide)] at h
    cases h
    exact evAt fun k => by simp only [zao.l1]; rw [if_neg (by decide)]
  refine Ev.step (fun k => ?_) (useful_prods t n l N hl hok r l.length 0 bs false (by omega) hb (by rw [List.drop_zero]; exact hn))
  simp only [zao.l1]
  rw [if_pos trivial]
  rfl
end
section
open Go.Proofs.YtgdmjpehofdnpaaGreat.Grow Go.Proofs.YtgdmjpehofdnpaaGreat.Deri
theorem size_eq (t n : List ByteArray) (l : List S42) (h : t.length + n.length ≤ 1000000) : zcd.f t n l = some ((t.length + n.length : Nat) : Int) := by
 unfold zcd.f
 rw [w64 (by omega) (by omega), Int.natCast_add]
theorem useful_init (t n : List ByteArray) (l : List S42) (N : Nat) (hN : t.length ≤ N) (hN' : N ≤ 1000000) (r : List Bool) (hn : Ev (fun k => zao.l1 k (ups N t.length) true t n l) r) :
  ∀ (d j : Nat), j + d = t.length → Ev (fun k => zao.l0 k (ups N j) (j : Int) t n l) r := by
 intro d
 induction d with
 | zero =>
  intro j hj
  obtain rfl : j = t.length := by omega
  refine Ev.step (fun k => ?_) hn
  simp only [zao.l0]
  rw [if_neg (by omega)]
 | succ d ih =>
  intro j hj
  have hul : (ups N j).length = N := by unfold ups; simp; omega
  refine Ev.step (fun k => ?_) (ih (j + 1) (by omega))
  simp only [zao.l0]
  rw [if_pos (by omega), if_pos (by omega), if_pos (by rw [hul]; omega), w64 (x := (j : Int) + 1) (by omega) (by omega), Int.toNat_natCast, ups_set N j (by omega)]
  rfl
theorem ruseful_Ev (t n : List ByteArray) (l : List S42) (hN : t.length + n.length ≤ 1000000) (hl : l.length ≤ 1000000000) (hok : ∀ p ∈ l, 0 ≤ p.f0 ∧ p.f0 < ((t.length + n.length : Nat) : Int) ∧ p.f1.length ≤ 100000000000000 ∧ ∀ x ∈ p.f1, 0 ≤ x.f0 ∧ x.f0 < ((t.length + n.length : Nat) : Int)) (m : Nat) (r : List Bool) (h : growV stepD (l.map prE) m (ups (t.length + n.length) t.length) = some r) :
  Ev (fun k => zao.f k t n l) r := by
 unfold zao.f
 simp only [size_eq t n l hN, Option.bind_some]
 simp only [if_pos (show (0 : Int) ≤ ((t.length + n.length : Nat) : Int) by omega), if_pos (show (((t.length + n.length : Nat) : Int)).toNat ≤ 281474976710656 by omega)]
 have hul : (ups (t.length + n.length) t.length).length = t.length + n.length := by unfold ups; simp
 exact useful_init t n l (t.length + n.length) (by omega) hN r (useful_outer t n l _ hl hok r m _ hul h) t.length 0 (by omega)
end
section
open Go.Proofs.YtgdmjpehofdnpaaGreat.Grow Go.Proofs.YtgdmjpehofdnpaaGreat.Deri Go.Proofs.YtgdmjpehofdnpaaGreat.Begin Go.Proofs.YtgdmjpehofdnpaaGreat.Begun Go.Proofs.YtgdmjpehofdnpaaGreat.MSet Go.Proofs.YtgdmjpehofdnpaaGreat.LInv Go.Proofs.YtgdmjpehofdnpaaGreat.LrK Go.Proofs.YtgdmjpehofdnpaaGreat.LFlat Go.Proofs.YtgdmjpehofdnpaaGreat.LClos Go.Proofs.YtgdmjpehofdnpaaGreat.LReach
theorem ok_bounds {t n : List ByteArray} {l : List S42} (h : ok25 ⟨t, n, l⟩) : t.length ≤ 100000000000000 ∧ n.length ≤ 100000000000000 ∧ l.length ≤ 100000000000000 ∧ ∀ p ∈ l, p.f1.length ≤ 100000000000000 ∧ ∀ x ∈ p.f1, x.f1.size ≤ 1000000000000000 ∧ x.f2.size ≤ 1000000000000000 := by
 obtain ⟨⟨h1, _⟩, ⟨h2, _⟩, h3, h4⟩ := h
 simp only at h1 h2 h3
 refine ⟨by omega, by omega, by omega, fun p hp => ?_⟩
 obtain ⟨_, ⟨h5, h6⟩, _⟩ := h4 p hp
 refine ⟨by omega, fun x hx => ?_⟩
 obtain ⟨_, h7, h8⟩ := h6 x hx
 exact ⟨by omega, by omega⟩
theorem items_l0 (l : List S42) (hl : l.length ≤ 16) (hp : ∀ p ∈ l, p.f1.length ≤ 64) (d : Nat) : ∀ (i : Nat) (acc : Int), i + d = l.length → 0 ≤ acc → acc ≤ 64 * i →
  ∃ v : Int, Ev (fun k => za5.l0 k acc l (l.length : Int) (i : Int)) v ∧ acc ≤ v ∧ ∀ p ∈ l.drop i, (p.f1.length : Int) ≤ v := by
 induction d with
 | zero =>
  intro i acc hi h0 h1
  refine ⟨acc, evAt fun k => ?_, Int.le_refl _, fun p hp => ?_⟩
  ·simp only [za5.l0]
   rw [if_neg (by omega)]
  ·rw [List.drop_of_length_le (by omega)] at hp
   exact nomatch hp
 | succ d ih =>
  intro i acc hi h0 h1
  have hq := hp _ (rd40_mem l i (by omega))
  obtain ⟨v, e, g1, g2⟩ := ih (i + 1) (acc + ((zae l (i : Int)).f1.length : Int)) (by omega) (by omega) (by omega)
  refine ⟨v, Ev.step (fun k => ?_) e, by omega, fun p hp' => ?_⟩
  ·simp only [za5.l0]
   rw [if_pos (by omega), if_pos (by omega), if_pos (by omega), w64 (x := acc + _) (by omega) (by omega), w64 (x := (i : Int) + 1) (by omega) (by omega)]
   rfl
  ·rw [rd40_drop l i (by omega)] at hp'
   rcases List.mem_cons.1 hp' with rfl | hp'
   ·omega
   ·exact g2 p hp'
theorem few_Ev {t n : List ByteArray} {l : List S42} (h : ok25 ⟨t, n, l⟩) : ∃ b, Ev (fun k => zbf.f k t n l) b ∧ (b = true → 1 ≤ n.length ∧ t.length + n.length ≤ 16 ∧ l.length ≤ 16 ∧ (∀ p ∈ l, p.f1.length ≤ 60) ∧ ∀ p ∈ l, prFit t.length ((t.length + n.length : Nat) : Int) p) := by
 obtain ⟨h1, h2, h3, h4⟩ := ok_bounds h
 obtain ⟨b1, e1⟩ := light_Ev t n l h3
 unfold zbf.f
 cases b1 with
 | false => exact ⟨false, Ev.bind e1 (by simp only [Bool.false_eq_true, if_false]; exact Ev.now _), fun h => nomatch h⟩
 | true =>
  obtain ⟨b2, e2, g2⟩ := fit_Ev t n l h1 h2 h3 h4
  cases b2 with
  | false => exact ⟨false, Ev.bind e1 (by simp only [if_true]; exact Ev.bind e2 (by simp only [Bool.false_eq_true, if_false]; exact Ev.now _)), fun h => nomatch h⟩
  | true =>
   obtain ⟨q1, q2, q3, q4⟩ := g2 rfl
   have hw := w64 (x := (t.length : Int) + (n.length : Int)) (by omega) (by omega)
   by_cases c : (t.length : Int) + (n.length : Int) ≤ 16
   ·by_cases c2 : (l.length : Int) ≤ 16
    ·obtain ⟨v, e3, g3, g4⟩ := items_l0 l (by omega) (fun p hp => (q4 p hp).2.2.1) l.length 0 0 (by omega) (by omega) (by omega)
     refine ⟨decide (v ≤ 60), Ev.bind e1 (by simp only [if_true]; exact Ev.bind e2 (by simp only [if_true, hw, if_pos c, if_pos c2]; exact Ev.bind (f := fun _ v => some (decide (v ≤ 60))) e3 (Ev.now _))), fun hb => ⟨q1, by omega, by omega, fun p hp => ?_, q4⟩⟩
     have := of_decide_eq_true hb
     have := g4 p hp
     omega
    ·exact ⟨false, Ev.bind e1 (by simp only [if_true]; exact Ev.bind e2 (by simp only [if_true, hw, if_pos c, if_neg c2]; exact Ev.now _)), fun h => nomatch h⟩
   ·exact ⟨false, Ev.bind e1 (by simp only [if_true]; exact Ev.bind e2 (by simp only [if_true, hw, if_neg c]; exact Ev.now _)), fun h => nomatch h⟩
theorem flOk_of {t n : List ByteArray} {l : List S42} (h1 : 1 ≤ n.length) (h2 : t.length + n.length ≤ 999999) (h3 : ∀ p ∈ l, prFit t.length ((t.length + n.length : Nat) : Int) p) : flOk (t.length + n.length) n.length (l.map prE) = true := by
 simp only [flOk, Bool.and_eq_true, decide_eq_true_eq, List.all_eq_true]
 refine ⟨⟨h2, h1⟩, fun q hq => ?_⟩
 obtain ⟨p, hp, rfl⟩ := List.mem_map.1 hq
 obtain ⟨g1, g2, g3, g4⟩ := h3 p hp
 refine ⟨⟨⟨show 0 ≤ p.f0 by omega, g2⟩, ?_⟩, fun i hi => ?_⟩
 ·show (p.f1.map itE).length ≤ 1000
  rw [List.length_map]
  omega
 ·obtain ⟨x, hx, rfl⟩ := List.mem_map.1 hi
  exact g4 x hx
def Under (M : Int) (FS : List (List Int)) : Prop := ∀ S ∈ FS, ∀ x ∈ S, 0 ≤ x ∧ x < M
theorem Under.at {M : Int} {FS : List (List Int)} (h : Under M FS) (i : Nat) : ∀ x ∈ FS.getD i [], 0 ≤ x ∧ x < M := by
 rcases getD_mem (FS := FS) (i := i) with e | e
 ·rw [e]; exact fun _ h => nomatch h
 ·exact h _ e
theorem Under.set {M : Int} {FS : List (List Int)} (h : Under M FS) (i : Nat) {X : List Int} (hX : ∀ x ∈ X, 0 ≤ x ∧ x < M) : Under M (FS.set i X) := fun S hS => by
 rcases List.mem_or_eq_of_mem_set hS with hS | rfl
 ·exact h S hS
 ·exact hX
theorem rises_few : ∀ {S : List Int} (lo M : Int), Rises S → (∀ x ∈ S, lo ≤ x ∧ x < M) → lo ≤ M → (S.length : Int) ≤ M - lo
 | [], lo, M, _, _, h => by simp; omega
 | a :: t, lo, M, h, hb, _ => by
  obtain ⟨h1, h2⟩ := List.pairwise_cons.1 h
  have ha := hb a (by simp)
  have := rises_few (S := t) (a + 1) M h2 (fun x hx => ⟨by have := h1 x hx; omega, (hb x (by simp [hx])).2⟩) (by omega)
  rw [List.length_cons]
  omega
theorem ahV_und {N : Nat} {M : Int} {em : List Bool} {Ss : List (List Int)} {B : List Int} (l : List Fl.I) (hS : Under M Ss) (hB : ∀ x ∈ B, 0 ≤ x ∧ x < M) : ∀ x ∈ ahV N em Ss l B, 0 ≤ x ∧ x < M := fun x hx => by
 rcases ahV_sub N em Ss B x l hx with h | ⟨S, h1, h2⟩
 ·exact hB x h
 ·exact hS S h1 x h2
theorem unionV_und {M : Int} {A B : List Int} (hA : ∀ x ∈ A, 0 ≤ x ∧ x < M) (hB : ∀ x ∈ B, 0 ≤ x ∧ x < M) : ∀ x ∈ unionV A B, 0 ≤ x ∧ x < M := fun x hx => ((zck x _ _).1 hx).elim (hB x) (hA x)
structure Rdys (t n : List ByteArray) (l : List S42) (em : List Bool) (Ss : List (List Int)) : Prop where
 n1 : 1 ≤ n.length
 nn : t.length + n.length ≤ 16
 pl : l.length ≤ 16
 p60 : ∀ p ∈ l.map prE, p.2.1.length ≤ 60
 ok : flOk (t.length + n.length) n.length (l.map prE) = true
 eE : Ev (fun k => growV stepD (l.map prE) k (List.replicate (t.length + n.length) false)) em
 eF : Ev (fun k => growV (stepF (t.length + n.length) em) (l.map prE) k (initV (t.length + n.length) t.length)) Ss
 len : ∀ i, (Ss.getD i []).length ≤ 17
 und : Under ((t.length : Int) + 1) Ss
 lE : em.length = t.length + n.length
 cE : ∀ p ∈ l.map prE, (stepD em p).2 = false
 cF : ∀ p ∈ l.map prE, (stepF (t.length + n.length) em Ss p).2 = false
 iF : Inv (t.length + n.length) Ss
 qE : ∀ Q : List Bool → Prop, (∀ s p, p ∈ l.map prE → s.length = t.length + n.length → Q s → Q (stepD s p).1) → Q (List.replicate (t.length + n.length) false) → Q em
 qF : ∀ Q : List (List Int) → Prop, (∀ s p, p ∈ l.map prE → Inv (t.length + n.length) s → Q s → Q (stepF (t.length + n.length) em s p).1) → Q (initV (t.length + n.length) t.length) → Q Ss
theorem rdys {t n : List ByteArray} {l : List S42} (h1 : 1 ≤ n.length) (h2 : t.length + n.length ≤ 16) (h3 : l.length ≤ 16) (h4 : ∀ p ∈ l, p.f1.length ≤ 60) (h5 : ∀ p ∈ l, prFit t.length ((t.length + n.length : Nat) : Int) p) : ∃ em Ss, Rdys t n l em Ss := by
 have hk := flOk_of h1 (by omega) h5
 have ok : ∀ p ∈ l.map prE, PrOk (t.length + n.length) p := fun p hp => (flOk_ps hk p hp).1
 obtain ⟨em, a1, a2, a3, a4⟩ := grow_ends (steps_D ok) _ (List.replicate (t.length + n.length) false) (by simp) (Nat.lt_succ_self _)
 obtain ⟨Ss, c1, c2, c3, c4⟩ := grow_ends (steps_F (em := em) ok) _ (initV (t.length + n.length) t.length) (Inv.init (by omega)) (Nat.lt_succ_self _)
 have hU : Under ((t.length : Int) + 1) Ss := c4 (Under ((t.length : Int) + 1)) (fun s p _ _ h => h.set _ (unionV_und (h.at _) (ahV_und _ h (fun _ h => nomatch h)))) (fun S hS x hx => by
  obtain ⟨q, hq, e⟩ := List.mem_iff_getElem.1 hS
  have := initV_get (S := S) (by rw [List.getElem?_eq_getElem hq, e])
  subst this
  split at hx
  ·rw [List.mem_singleton] at hx; omega
  ·exact nomatch hx)
 refine ⟨em, Ss, h1, h2, h3, fun p hp => ?_, hk, grow_Ev a1, grow_Ev c1, fun i => ?_, hU, a2, a3, c3, c2, a4, c4⟩
 ·obtain ⟨q, hq, rfl⟩ := List.mem_map.1 hp
  show (q.f1.map itE).length ≤ 60
  rw [List.length_map]
  exact h4 q hq
 ·have := rises_few 0 _ (c2.rise i) (hU.at i) (by omega)
  omega
theorem Rdys.ev {t n : List ByteArray} {l : List S42} {em : List Bool} {Ss : List (List Int)} (H : Rdys t n l em Ss) : Ev (fun k => rdyV k t.length n.length (l.map prE)) (em, Ss) := Ev.bind H.eE (Ev.bind H.eF (Ev.now _))
theorem Rdys.nxt {t n : List ByteArray} {l : List S42} {em : List Bool} {Ss : List (List Int)} (H : Rdys t n l em Ss) (x : Lr) : (nxtV t.length (l.map prE) em Ss x).length ≤ 16336 := by
 refine Nat.le_trans (nxt_len (B := 60) (L := 17) (by omega) H.p60 H.len x) ?_
 rw [List.length_map]
 have := H.pl
 omega
theorem Rdys.wf {t n : List ByteArray} {l : List S42} {em : List Bool} {Ss : List (List Int)} (H : Rdys t n l em Ss) {x : Lr} (h : fitV t.length (l.map prE) x = true) : lrOk x := by
 obtain ⟨h1, h2, h3, h4, h5, h6⟩ := zb8.1 h
 have h7 := rightV_len (n0 := t.length) (B := 60) (by omega) H.p60 x.1
 have h8 := H.nn
 have h9 := H.pl
 rw [List.length_map] at h2
 have wf : ∀ z : Int, -1 ≤ z → z ≤ 1000 → (Lit.int .i64 z).wf = true := fun z a b => by
  simp only [Lit.wf, Bool.and_eq_true, decide_eq_true_eq]
  have e1 : IntKind.i64.min = -9223372036854775808 := rfl
  have e2 : IntKind.i64.max = 9223372036854775807 := rfl
  omega
 exact ⟨wf _ (by omega) (by omega), wf _ (by omega) (by omega), wf _ (by omega) (by omega)⟩
theorem lrTS (c : List Lr) : (c.map lrS).map lrT = c := by
 rw [List.map_map, show lrT ∘ lrS = id from rfl, List.map_id]
end
section
open Go.Proofs.YtgdmjpehofdnpaaGreat.Grow Go.Proofs.YtgdmjpehofdnpaaGreat.Deri Go.Proofs.YtgdmjpehofdnpaaGreat.Begin Go.Proofs.YtgdmjpehofdnpaaGreat.Begun Go.Proofs.YtgdmjpehofdnpaaGreat.MSet Go.Proofs.YtgdmjpehofdnpaaGreat.LInv Go.Proofs.YtgdmjpehofdnpaaGreat.LrK Go.Proofs.YtgdmjpehofdnpaaGreat.LLex Go.Proofs.YtgdmjpehofdnpaaGreat.LFlat Go.Proofs.YtgdmjpehofdnpaaGreat.LClos Go.Proofs.YtgdmjpehofdnpaaGreat.LStep Go.Proofs.YtgdmjpehofdnpaaGreat.LAll Go.Proofs.YtgdmjpehofdnpaaGreat.LReach
def far : Nat := 400000000
theorem Rdys.closAt {t n : List ByteArray} {l : List S42} {em : List Bool} {Ss : List (List Int)} (H : Rdys t n l em Ss) (T : List Lr) (hT : T.length ≤ 100000) (k : Nat) (hk : far ≤ k) : ∃ r, closV t.length (l.map prE) em Ss k [] T = some r := by
 have h1 := H.nn
 have h2 := H.pl
 have hb : (boxV ((l.map prE).length + 1) (60 + 1) (t.length + 1)).length ≤ 17629 := by
  rw [box_len, List.length_map]
  refine Nat.le_trans (Nat.mul_le_mul (show l.length + 1 ≤ 17 by omega) (Nat.mul_le_mul (Nat.le_refl (60 + 1)) (show t.length + 1 ≤ 17 by omega))) (by decide)
 have hk' : 400000000 ≤ k := hk
 refine clos_ends (n0 := t.length) (ps := l.map prE) (em := em) (Ss := Ss) (B := 60) (C := 16336) (by omega) H.p60 H.nxt k [] T List.nodup_nil (fun _ h => nomatch h) ?_ ?_ <;> generalize (boxV ((l.map prE).length + 1) (60 + 1) (t.length + 1)).length = b at * <;> simp only [List.length_nil] <;> omega
theorem closV_le {n0 : Nat} {ps : List Fl.P} {em : List Bool} {Ss : List (List Int)} {T r : List Lr} {k m : Nat} (h : closV n0 ps em Ss k [] T = some r) (hm : k ≤ m) : closV n0 ps em Ss m [] T = some r := by
 obtain ⟨d, rfl⟩ : ∃ d, m = k + d := ⟨m - k, by omega⟩
 clear hm
 induction d with
 | zero => exact h
 | succ d ih => exact LGiv.closV_mono _ _ _ _ ih
def goV (t n : List ByteArray) (l : List S42) (em : List Bool) (Ss : List (List Int)) (row : List Lr) (s : Int) : List Lr := (gotoV t.length (l.map prE) em Ss far row s).getD []
theorem stepV_len (n0 : Nat) (ps : List Fl.P) (s : Int) : ∀ row : List Lr, (stepV n0 ps s row).length ≤ row.length
 | [] => Nat.le_refl _
 | x :: t => by
  have := stepV_len n0 ps s t
  unfold stepV
  split <;> simp <;> omega
theorem Rdys.go {t n : List ByteArray} {l : List S42} {em : List Bool} {Ss : List (List Int)} (H : Rdys t n l em Ss) {row : List Lr} (hr : row.length ≤ 100000) (s : Int) : (∀ k, far ≤ k → gotoV t.length (l.map prE) em Ss k row s = some (goV t n l em Ss row s)) ∧ IsClos t.length (l.map prE) em Ss (stepV t.length (l.map prE) s row) (goV t n l em Ss row s) ∧ (goV t n l em Ss row s).length ≤ 20000 := by
 have hl := Nat.le_trans (stepV_len t.length (l.map prE) s row) hr
 obtain ⟨r, e⟩ := H.closAt _ hl far (Nat.le_refl _)
 have hg : goV t n l em Ss row s = srtL r := by unfold goV gotoV; rw [e]; rfl
 rw [hg]
 refine ⟨fun k hk => by unfold gotoV; rw [closV_le e hk]; rfl, clos_is e, ?_⟩
 have := (clos_is e).len (B := 60) (by omega) H.p60
 have h1 := H.nn
 have h2 := H.pl
 rw [List.length_map] at this
 exact Nat.le_trans this (Nat.le_trans (Nat.mul_le_mul (show l.length + 1 ≤ 17 by omega) (Nat.mul_le_mul (Nat.le_refl (60 + 1)) (show t.length + 1 ≤ 17 by omega))) (by decide))
def stV (t n : List ByteArray) (l : List S42) (em : List Bool) (Ss : List (List Int)) : List Lr := (startV t.length (l.map prE) em Ss far).getD []
theorem Rdys.st {t n : List ByteArray} {l : List S42} {em : List Bool} {Ss : List (List Int)} (H : Rdys t n l em Ss) : (∀ k, far ≤ k → startV t.length (l.map prE) em Ss k = some (stV t n l em Ss)) ∧ IsClos t.length (l.map prE) em Ss [(-1, 0, (t.length : Int))] (stV t n l em Ss) ∧ (stV t n l em Ss).length ≤ 20000 ∧ stV t n l em Ss ≠ [] := by
 obtain ⟨r, e⟩ := H.closAt [(-1, 0, (t.length : Int))] (by simp) far (Nat.le_refl _)
 have hg : stV t n l em Ss = srtL r := by unfold stV startV; rw [e]; rfl
 rw [hg]
 refine ⟨fun k hk => by unfold startV; rw [closV_le e hk]; rfl, clos_is e, ?_, fun h0 => ?_⟩
 ·have := (clos_is e).len (B := 60) (by omega) H.p60
  have h1 := H.nn
  have h2 := H.pl
  rw [List.length_map] at this
  exact Nat.le_trans this (Nat.le_trans (Nat.mul_le_mul (show l.length + 1 ≤ 17 by omega) (Nat.mul_le_mul (Nat.le_refl (60 + 1)) (show t.length + 1 ≤ 17 by omega))) (by decide))
 ·have := ((clos_is e).2 (-1, 0, (t.length : Int))).2 (.base _ (by simp) (zb8.2 ⟨Int.le_refl _, by show (-1 : Int) < _; omega, Int.le_refl _, by show (0 : Int) ≤ _; omega, by show (0 : Int) ≤ (t.length : Int); omega, Int.le_refl _⟩))
  rw [h0] at this
  exact nomatch this
end
section
open Go.Proofs.YtgdmjpehofdnpaaGreat.Grow Go.Proofs.YtgdmjpehofdnpaaGreat.Deri Go.Proofs.YtgdmjpehofdnpaaGreat.Begin Go.Proofs.YtgdmjpehofdnpaaGreat.Begun Go.Proofs.YtgdmjpehofdnpaaGreat.MSet Go.Proofs.YtgdmjpehofdnpaaGreat.LInv Go.Proofs.YtgdmjpehofdnpaaGreat.LrK Go.Proofs.YtgdmjpehofdnpaaGreat.LLex Go.Proofs.YtgdmjpehofdnpaaGreat.LFlat Go.Proofs.YtgdmjpehofdnpaaGreat.LClos Go.Proofs.YtgdmjpehofdnpaaGreat.LStep Go.Proofs.YtgdmjpehofdnpaaGreat.LAll Go.Proofs.YtgdmjpehofdnpaaGreat.LReach Go.Proofs.YtgdmjpehofdnpaaGreat.LSets
theorem Rdys.goto {t n : List ByteArray} {l : List S42} {em : List Bool} {Ss : List (List Int)} (H : Rdys t n l em Ss) (row : List Lr) (hr : row.length ≤ 100000) (s : Int) : Ev (fun k => zbr.f k t n l (row.map lrS) s) ((goV t n l em Ss row s).map lrS) := by
 unfold zbr.f
 simp only [if_pos (show flOk (t.length + n.length) n.length (l.map prE) = true ∧ l.length ≤ 1000000 ∧ (row.map lrS).length ≤ 1000000000 from ⟨H.ok, by have := H.pl; omega, by rw [List.length_map]; omega⟩), lrTS]
 refine Ev.bind H.ev (Ev.bind (a := goV t n l em Ss row s) ⟨far, fun k hk => (H.go hr s).1 k hk⟩ (Ev.now _))
theorem Rdys.first {t n : List ByteArray} {l : List S42} {em : List Bool} {Ss : List (List Int)} (H : Rdys t n l em Ss) : Ev (fun k => zbp.f k t n l) ((stV t n l em Ss).map lrS) := by
 unfold zbp.f
 simp only [if_pos (show flOk (t.length + n.length) n.length (l.map prE) = true ∧ l.length ≤ 1000000 from ⟨H.ok, by have := H.pl; omega⟩)]
 refine Ev.bind H.ev (Ev.bind (a := stV t n l em Ss) ⟨far, fun k hk => H.st.1 k hk⟩ (Ev.now _))
end
section
open Go.Proofs.YtgdmjpehofdnpaaGreat.Grow Go.Proofs.YtgdmjpehofdnpaaGreat.Deri Go.Proofs.YtgdmjpehofdnpaaGreat.Begin Go.Proofs.YtgdmjpehofdnpaaGreat.Begun Go.Proofs.YtgdmjpehofdnpaaGreat.MSet Go.Proofs.YtgdmjpehofdnpaaGreat.LInv Go.Proofs.YtgdmjpehofdnpaaGreat.LrK Go.Proofs.YtgdmjpehofdnpaaGreat.LLex Go.Proofs.YtgdmjpehofdnpaaGreat.LFlat Go.Proofs.YtgdmjpehofdnpaaGreat.LLooks Go.Proofs.YtgdmjpehofdnpaaGreat.LClos Go.Proofs.YtgdmjpehofdnpaaGreat.LStep Go.Proofs.YtgdmjpehofdnpaaGreat.LAll Go.Proofs.YtgdmjpehofdnpaaGreat.LReach
theorem unionV_sub {A B : List Int} (h : unionV A B = A) : ∀ x ∈ B, x ∈ A := fun x hx => by
 rw [← h]
 exact (zck x _ _).2 (.inl hx)
theorem stepF_sub {N : Nat} {em : List Bool} {Ss : List (List Int)} {p : Fl.P} (h : (stepF N em Ss p).2 = false) : ∀ x ∈ ahV N em Ss p.2.1 [], x ∈ Ss.getD p.1.toNat [] := by
 have h4 := of_decide_eq_false h
 exact unionV_sub (unionV_id _ _ (by omega))
theorem ahV_pre {N : Nat} {em : List Bool} {Ss : List (List Int)} {B : List Int} (x : Fl.I) (t : List Fl.I) (y : Int) (hx : 0 ≤ x.1 ∧ x.1 < (N : Int)) (hy : y ∈ Ss.getD x.1.toNat []) : ∀ (pre : List Fl.I), ItOk N pre → (∀ i ∈ pre, at_ em i.1 = true) → y ∈ ahV N em Ss (pre ++ x :: t) B
 | [], _, _ => by
  simp only [List.nil_append, ahV]
  rw [if_pos hx]
  split
  ·exact (zck y _ _).2 (.inl hy)
  ·exact hy
 | i :: pre, ho, he => by
  simp only [List.cons_append, ahV]
  rw [if_pos (ho i (by simp)), if_pos (he i (by simp))]
  exact (zck y _ _).2 (.inr (ahV_pre x t y hx hy pre (fun j hj => ho j (by simp [hj])) (fun j hj => he j (by simp [hj]))))
theorem all_or {em : List Bool} {Ss : List (List Int)} : ∀ (r : List Fl.I), (∀ i ∈ r, Ss.getD i.1.toNat [] ≠ [] ∨ at_ em i.1 = true) → (∀ i ∈ r, at_ em i.1 = true) ∨ ∃ pre x rest, r = pre ++ x :: rest ∧ (∀ i ∈ pre, at_ em i.1 = true) ∧ Ss.getD x.1.toNat [] ≠ []
 | [], _ => .inl fun _ h => nomatch h
 | i :: t, h => by
  by_cases c : Ss.getD i.1.toNat [] = []
  ·have he := (h i (by simp)).resolve_left (fun g => g c)
   rcases all_or t (fun j hj => h j (by simp [hj])) with g | ⟨pre, x, rest, g1, g2, g3⟩
   ·refine .inl fun j hj => ?_
    rcases List.mem_cons.1 hj with rfl | hj
    ·exact he
    ·exact g j hj
   ·refine .inr ⟨i :: pre, x, rest, by rw [g1]; rfl, fun j hj => ?_, g3⟩
    rcases List.mem_cons.1 hj with rfl | hj
    ·exact he
    ·exact g2 j hj
  ·exact .inr ⟨[], i, t, rfl, (fun _ h => nomatch h), c⟩
def Live (n0 : Nat) (ps : List Fl.P) (em : List Bool) (Ss : List (List Int)) (i : Nat) : Prop := (Ss.getD i [] ≠ [] ∨ em.getD i false = true) ∧ (i < n0 ∨ ∃ p ∈ ps, p.1 = (i : Int))
theorem Rdys.begins {t n : List ByteArray} {l : List S42} {em : List Bool} {Ss : List (List Int)} (H : Rdys t n l em Ss) : ∀ i, i < t.length → Ss.getD i [] ≠ [] := by
 refine H.qF (fun s => ∀ i, i < t.length → s.getD i [] ≠ []) (fun s p hp hI hq i hi => ?_) (fun i hi h => ?_)
 ·show (s.set p.1.toNat _).getD i [] ≠ []
  have h0 := hq i hi
  rw [List.getD_eq_getElem?_getD, List.getElem?_set]
  split
  ·rename_i e
   subst e
   split
   ·rename_i hl
    intro h
    have := unionV_ge (ahV (t.length + n.length) em s p.2.1 []) (s.getD p.1.toNat [])
    rw [show unionV (s.getD p.1.toNat []) (ahV (t.length + n.length) em s p.2.1 []) = [] from h] at this
    exact h0 (List.eq_nil_of_length_eq_zero (by simpa using this))
   ·rename_i hl
    exfalso
    apply h0
    rw [List.getD_eq_getElem?_getD, List.getElem?_eq_none (by omega)]
    rfl
  ·rw [← List.getD_eq_getElem?_getD]
   exact h0
 ·have hl : (initV (t.length + n.length) t.length).length = t.length + n.length := (Inv.init (N := t.length + n.length) (n0 := t.length) (by have := H.nn; omega)).l
  have hi' : i < (initV (t.length + n.length) t.length).length := by rw [hl]; omega
  have := initV_get (List.getElem?_eq_getElem hi')
  rw [List.getD_eq_getElem?_getD, List.getElem?_eq_getElem hi', this, if_pos hi] at h
  exact nomatch h
theorem Rdys.uses {t n : List ByteArray} {l : List S42} {em : List Bool} {Ss : List (List Int)} (H : Rdys t n l em Ss) : ∃ m us, growV stepD (l.map prE) m (ups (t.length + n.length) t.length) = some us ∧ us.length = t.length + n.length ∧ ∀ i : Nat, us.getD i false = true → Live t.length (l.map prE) em Ss i := by
 have ok : ∀ p ∈ l.map prE, PrOk (t.length + n.length) p := fun p hp => (flOk_ps H.ok p hp).1
 obtain ⟨us, b1, b2, b3, b4⟩ := grow_ends (steps_D ok) _ (ups (t.length + n.length) t.length) (by unfold ups; simp) (Nat.lt_succ_self _)
 refine ⟨_, us, b1, b2, b4 (fun us => ∀ i : Nat, us.getD i false = true → Live t.length (l.map prE) em Ss i) (fun s p hp hs hq i hi => ?_) (fun i hi => ?_)⟩
 ·unfold stepD at hi
  split at hi
  ·exact hq i hi
  ·rename_i c
   rw [Bool.not_eq_true, Bool.or_eq_false_iff] at c
   by_cases e : i = p.1.toNat
   ·obtain ⟨h1, h2, h3⟩ := ok p hp
    refine ⟨?_, .inr ⟨p, hp, by omega⟩⟩
    have hall : ∀ j ∈ p.2.1, Ss.getD j.1.toNat [] ≠ [] ∨ at_ em j.1 = true := fun j hj => (hq j.1.toNat (by
     have := List.any_eq_false.1 c.2 j hj
     simpa [at_] using this)).1
    rw [e]
    rcases all_or p.2.1 hall with g | ⟨pre, x, rest, g1, g2, g3⟩
    ·right
     have := H.cE p hp
     unfold stepD at this
     split at this
     ·rename_i c2
      rcases Bool.or_eq_true _ _ |>.mp c2 with c2 | c2
      ·exact c2
      ·obtain ⟨j, hj, hj2⟩ := List.any_eq_true.1 c2
       rw [g j hj] at hj2
       exact nomatch hj2
     ·exact nomatch this
    ·left
     obtain ⟨y, ys, hy⟩ := List.exists_cons_of_ne_nil g3
     have hx := h3 x (by rw [g1]; simp)
     have := ahV_pre (N := t.length + n.length) (em := em) (Ss := Ss) (B := []) x rest y hx (by rw [hy]; simp) pre (fun j hj => h3 j (by rw [g1]; simp [hj])) g2
     rw [← g1] at this
     have := stepF_sub (H.cF p hp) y this
     intro h
     rw [h] at this
     exact nomatch this
   ·refine hq i ?_
    show s.getD i false = true
    have hi2 : (s.set p.1.toNat true).getD i false = true := hi
    rw [List.getD_eq_getElem?_getD, List.getElem?_set_ne (fun h => e h.symm)] at hi2
    rw [List.getD_eq_getElem?_getD]
    exact hi2
 ·have hlt : i < t.length := by
   apply Nat.lt_of_not_le
   intro hge
   unfold ups at hi
   rw [List.getD_eq_getElem?_getD, List.getElem?_append_right (by simpa using hge)] at hi
   cases e : (List.replicate (t.length + n.length - t.length) false)[i - (List.replicate t.length true).length]? with
   | none => rw [e] at hi; exact nomatch hi
   | some b => rw [e] at hi; have := List.eq_of_mem_replicate (List.mem_of_getElem? e); subst this; exact nomatch hi
  exact ⟨.inl (H.begins i hlt), .inl hlt⟩
theorem looks_some {em : List Bool} {Ss : List (List Int)} {n0 : Nat} (hU : Under ((n0 : Int) + 1) Ss) {lk : Int} (h0 : 0 ≤ lk) (h1 : lk ≤ n0) : ∀ (r : List Fl.I), (∀ i ∈ r, Ss.getD i.1.toNat [] ≠ [] ∨ at_ em i.1 = true) → ∃ x ∈ looksV em Ss lk r, 0 ≤ x ∧ x ≤ (n0 : Int)
 | [], _ => ⟨lk, by simp [looksV], h0, h1⟩
 | i :: t, h => by
  simp only [looksV]
  by_cases c : Ss.getD i.1.toNat [] = []
  ·obtain ⟨x, hx, g⟩ := looks_some hU h0 h1 t (fun j hj => h j (by simp [hj]))
   refine ⟨x, List.mem_append.2 (.inr ?_), g⟩
   rw [if_pos ((h i (by simp)).resolve_left (fun g => g c))]
   exact hx
  ·obtain ⟨y, ys, hy⟩ := List.exists_cons_of_ne_nil c
   have := hU.at i.1.toNat y (by rw [hy]; simp)
   exact ⟨y, List.mem_append.2 (.inl (by rw [hy]; simp)), this.1, by omega⟩
theorem ofF_mem {s : Int} : ∀ (ps : List Fl.P) (i : Nat) (j : Nat), (∃ p, ps[j]? = some p ∧ p.1 = s) → ((i + j : Nat) : Int) ∈ ofF s i ps
 | [], _, _, ⟨_, h, _⟩ => nomatch h
 | p :: t, i, 0, ⟨q, h, h2⟩ => by
  obtain rfl := Option.some.inj h
  simp only [ofF]
  rw [if_pos h2]
  simp
 | p :: t, i, j + 1, ⟨q, h, h2⟩ => by
  have := ofF_mem (s := s) t (i + 1) j ⟨q, h, h2⟩
  rw [show i + 1 + j = i + (j + 1) by omega] at this
  simp only [ofF]
  split
  ·exact List.mem_cons_of_mem _ this
  ·exact this
theorem ofF_get {s : Int} : ∀ (ps : List Fl.P) (i : Nat) (x : Int), x ∈ ofF s i ps → ∃ j : Nat, x = ((i + j : Nat) : Int) ∧ ∃ p, ps[j]? = some p ∧ p.1 = s
 | [], _, _, h => nomatch h
 | p :: t, i, x, h => by
  simp only [ofF] at h
  have tl : x ∈ ofF s (i + 1) t → ∃ j : Nat, x = ((i + j : Nat) : Int) ∧ ∃ q, (p :: t)[j]? = some q ∧ q.1 = s := fun h => by
   obtain ⟨j, e, q, h1, h2⟩ := ofF_get t (i + 1) x h
   exact ⟨j + 1, by rw [e]; congr 1; omega, q, h1, h2⟩
  split at h
  ·rename_i c
   rcases List.mem_cons.1 h with rfl | h
   ·exact ⟨0, by simp, p, rfl, c⟩
   ·exact tl h
  ·exact tl h
theorem step_mem {n0 : Nat} {ps : List Fl.P} {s : Int} {x : Lr} : ∀ {row : List Lr}, x ∈ row → nextV n0 ps x = some s → (x.1, x.2.1 + 1, x.2.2) ∈ stepV n0 ps s row
 | [], h, _ => nomatch h
 | y :: t, h, hx => by
  simp only [stepV]
  rcases List.mem_cons.1 h with rfl | h
  ·rw [if_pos hx]; simp
  ·have := step_mem h hx
   split
   ·exact List.mem_cons_of_mem _ this
   ·exact this
def Full (t n : List ByteArray) (l : List S42) (em : List Bool) (Ss : List (List Int)) (I : List Lr) : Prop := I.length ≤ 20000 ∧ ∃ T, IsClos t.length (l.map prE) em Ss T I
def Via (t n : List ByteArray) (l : List S42) (em : List Bool) (Ss : List (List Int)) : List Lr → List Int → Prop
 | _, [] => True
 | I, s :: row => (∃ x ∈ I, nextV t.length (l.map prE) x = some s) ∧ Via t n l em Ss (goV t n l em Ss I s) row
variable {t n : List ByteArray} {l : List S42} {em : List Bool} {Ss : List (List Int)}
theorem Rdys.full (H : Rdys t n l em Ss) {I : List Lr} (h : I.length ≤ 20000) (s : Int) : Full t n l em Ss (goV t n l em Ss I s) := ⟨(H.go (show I.length ≤ 100000 by omega) s).2.2, _, (H.go (show I.length ≤ 100000 by omega) s).2.1⟩
theorem Rdys.on (H : Rdys t n l em Ss) {I : List Lr} (h : I.length ≤ 20000) {s : Int} {x : Lr} (hx : x ∈ I) (hn : nextV t.length (l.map prE) x = some s) : (x.1, x.2.1 + 1, x.2.2) ∈ goV t n l em Ss I s := by
 refine ((H.go (show I.length ≤ 100000 by omega) s).2.1.2 _).2 (.base _ (step_mem hx hn) ?_)
 unfold nextV at hn
 split at hn
 ·rename_i hf
  obtain ⟨q, hq, _⟩ := Option.map_eq_some_iff.1 hn
  have := (List.getElem?_eq_some_iff.1 hq).1
  obtain ⟨h1, h2, h3, h4, h5, h6⟩ := zb8.1 hf
  exact zb8.2 ⟨h1, h2, by show 0 ≤ x.2.1 + 1; omega, by show x.2.1 + 1 ≤ ((rightV t.length (l.map prE) x.1).length : Int); omega, h5, h6⟩
 ·exact nomatch hn
theorem via_app (H : Rdys t n l em Ss) : ∀ (a b : List Int) (I : List Lr), Via t n l em Ss I (a ++ b) ↔ Via t n l em Ss I a ∧ Via t n l em Ss (a.foldl (goV t n l em Ss) I) b
 | [], b, I => by simp [Via]
 | s :: a, b, I => by
  simp only [List.cons_append, Via, List.foldl_cons, via_app H a b, and_assoc]
theorem fold_full (H : Rdys t n l em Ss) : ∀ (a : List Int) {I : List Lr}, Full t n l em Ss I → Full t n l em Ss (a.foldl (goV t n l em Ss) I)
 | [], _, h => h
 | s :: a, _, h => fold_full H a (H.full h.1 s)
theorem next_at {p : Fl.P} {j : Nat} (hj : (l.map prE)[j]? = some p) {k : Nat} {i : Fl.I} (hk : p.2.1[k]? = some i) {lk : Int} (h0 : 0 ≤ lk) (h1 : lk ≤ t.length) : nextV t.length (l.map prE) ((j : Int), (k : Int), lk) = some i.1 := by
 have hr : rightV t.length (l.map prE) (j : Int) = p.2.1 := by
  unfold rightV
  rw [if_neg (by omega), Int.toNat_natCast, List.getD_eq_getElem?_getD, hj]
  rfl
 have h2 := (List.getElem?_eq_some_iff.1 hj).1
 have h3 := (List.getElem?_eq_some_iff.1 hk).1
 unfold nextV
 rw [if_pos (zb8.2 ⟨by show (-1 : Int) ≤ (j : Int); omega, by show (j : Int) < _; omega, by show (0 : Int) ≤ (k : Int); omega, by show (k : Int) ≤ ((rightV t.length (l.map prE) (j : Int)).length : Int); rw [hr]; omega, h0, h1⟩)]
 show ((rightV t.length (l.map prE) (j : Int))[((k : Int)).toNat]?).map (·.1) = some i.1
 rw [hr, Int.toNat_natCast, hk]
 rfl
theorem items_via (H : Rdys t n l em Ss) {p : Fl.P} {j : Nat} (hj : (l.map prE)[j]? = some p) {lk : Int} (h0 : 0 ≤ lk) (h1 : lk ≤ t.length) : ∀ (d k : Nat) (I : List Lr), k + d = p.2.1.length → I.length ≤ 20000 → ((j : Int), (k : Int), lk) ∈ I → Via t n l em Ss I ((p.2.1.drop k).map (·.1))
 | 0, k, I, hk, _, _ => by rw [List.drop_of_length_le (by omega)]; trivial
 | d + 1, k, I, hk, hI, hm => by
  have hk' : k < p.2.1.length := by omega
  rw [List.drop_eq_getElem_cons hk', List.map_cons]
  have hn := next_at (t := t) hj (List.getElem?_eq_getElem hk') h0 h1
  have := items_via H hj h0 h1 d (k + 1) _ (by omega) (H.full hI _).1 (H.on hI hm hn)
  exact ⟨⟨_, hm, hn⟩, this⟩
theorem via_put (H : Rdys t n l em Ss) {a b : List Int} {s : Int} {I : List Lr} (hI : Full t n l em Ss I) (hv : Via t n l em Ss I (a ++ s :: b)) (hs : ¬ s < t.length) {p : Fl.P} {j : Nat} (hj : (l.map prE)[j]? = some p) (hp : p.1 = s)
  (hlive : ∀ i : Nat, i < t.length + n.length → Live t.length (l.map prE) em Ss i) : Via t n l em Ss I (a ++ p.2.1.map (·.1)) := by
 obtain ⟨v1, ⟨x, hx, hn⟩, _⟩ := (via_app H a (s :: b) I).1 hv
 refine (via_app H a _ I).2 ⟨v1, ?_⟩
 have hF := fold_full H a hI
 generalize a.foldl (goV t n l em Ss) I = I' at *
 obtain ⟨hl, T, hc⟩ := hF
 have hfx := ((hc.2 x).1 hx).fit
 have hx6 := zb8.1 hfx
 have hrest : ∀ i ∈ (rightV t.length (l.map prE) x.1).drop (x.2.1.toNat + 1), Ss.getD i.1.toNat [] ≠ [] ∨ at_ em i.1 = true := fun i hi => by
  have hi := List.mem_of_mem_drop hi
  unfold rightV at hi
  split at hi
  ·rename_i c
   rw [List.mem_singleton] at hi
   subst hi
   exact (hlive t.length (by have := H.n1; omega)).1
  ·rw [List.getD_eq_getElem?_getD] at hi
   cases e : (l.map prE)[x.1.toNat]? with
   | none => rw [e] at hi; exact nomatch hi
   | some q =>
    rw [e] at hi
    have := (flOk_ps H.ok q (List.mem_of_getElem? e)).1.2.2 i hi
    exact (hlive i.1.toNat (by omega)).1
 obtain ⟨lk, hlk, g0, g1⟩ := looks_some H.und hx6.2.2.2.2.1 hx6.2.2.2.2.2 _ hrest
 have hjl := (List.getElem?_eq_some_iff.1 hj).1
 have hmem : ((j : Int), ((0 : Nat) : Int), lk) ∈ I' := by
  refine (hc.2 _).2 (.step x _ ((hc.2 x).1 hx) ?_ (zb8.2 ⟨by show (-1 : Int) ≤ (j : Int); omega, by show (j : Int) < _; omega, Int.le_refl _, by show ((0 : Nat) : Int) ≤ _; omega, g0, g1⟩))
  unfold nxtV
  rw [hn]
  show _ ∈ (if s < (t.length : Int) then [] else _)
  rw [if_neg hs]
  unfold rowsV
  refine List.mem_flatMap.2 ⟨lk, hlk, List.mem_map.2 ⟨(j : Int), ?_, rfl⟩⟩
  have := ofF_mem (s := s) (l.map prE) 0 j ⟨p, hj, hp⟩
  rw [Nat.zero_add] at this
  exact this
 have := items_via H hj g0 g1 p.2.1.length 0 I' (by omega) hl hmem
 rwa [List.drop_zero] at this
theorem via_first (H : Rdys t n l em Ss) : Full t n l em Ss (stV t n l em Ss) ∧ Via t n l em Ss (stV t n l em Ss) [(t.length : Int)] := by
 obtain ⟨_, h1, h2, _⟩ := H.st
 refine ⟨⟨h2, _, h1⟩, ⟨(-1, 0, (t.length : Int)), (h1.2 _).2 (.base _ (by simp) ?_), ?_⟩, trivial⟩
 ·exact zb8.2 ⟨Int.le_refl _, by show (-1 : Int) < _; omega, Int.le_refl _, by show (0 : Int) ≤ _; omega, by show (0 : Int) ≤ (t.length : Int); omega, Int.le_refl _⟩
 ·unfold nextV
  rw [if_pos (zb8.2 ⟨Int.le_refl _, by show (-1 : Int) < _; omega, Int.le_refl _, by show (0 : Int) ≤ _; omega, by show (0 : Int) ≤ (t.length : Int); omega, Int.le_refl _⟩)]
  rfl
end
section
open Go.Proofs.YtgdmjpehofdnpaaGreat.Grow Go.Proofs.YtgdmjpehofdnpaaGreat.Deri Go.Proofs.YtgdmjpehofdnpaaGreat.LrK Go.Proofs.YtgdmjpehofdnpaaGreat.LFlat Go.Proofs.YtgdmjpehofdnpaaGreat.LReach
theorem ofF_snoc (s : Int) (p : Fl.P) : ∀ (l : List Fl.P) (i : Nat), ofF s i (l ++ [p]) = ofF s i l ++ (if p.1 = s then [((i + l.length : Nat) : Int)] else [])
 | [], i => by simp [ofF]
 | q :: t, i => by
  have := ofF_snoc s p t (i + 1)
  simp only [List.cons_append, ofF, this, List.length_cons, show i + 1 + t.length = i + (t.length + 1) by omega]
  split <;> rfl
theorem of_l0 (t n : List ByteArray) (l : List S42) (s : Int) (hl : l.length ≤ 1000000) (d : Nat) : ∀ i : Nat, i + d = l.length → Ev (fun k => za0.l0 k s (ofF s 0 ((l.take i).map prE)) (i : Int) t n l) (ofV (l.map prE) s) := by
 induction d with
 | zero =>
  intro i hi
  refine evAt fun k => ?_
  simp only [za0.l0]
  rw [if_neg (by omega), List.take_of_length_le (by omega)]
  rfl
 | succ d ih =>
  intro i hi
  have hi' : i < l.length := by omega
  have hr : zae l (i : Int) = l[i] := by
   have := rd40_drop l i hi'
   rw [List.drop_eq_getElem_cons hi'] at this
   exact (List.cons.inj this).1.symm
  refine Ev.step (fun k => ?_) (ih (i + 1) (by omega))
  have e : ((l.take (i + 1)).map prE) = (l.take i).map prE ++ [prE l[i]] := by rw [List.take_succ_eq_append_getElem hi', List.map_append]; rfl
  have hlen : (ofF s 0 ((l.take i).map prE)).length ≤ 1000000 := by
   have := LReach.ofF_len s 0 ((l.take i).map prE)
   rw [List.length_map, List.length_take] at this
   omega
  simp only [za0.l0]
  rw [if_pos (by omega), if_pos (by omega), hr, w64 (x := (i : Int) + 1) (by omega) (by omega), e, ofF_snoc, List.length_map, List.length_take, Nat.min_eq_left (by omega), Nat.zero_add]
  by_cases c : l[i].f0 = s
  ·rw [if_pos c, if_pos (by omega), if_pos (show (prE l[i]).1 = s from c)]
   rfl
  ·rw [if_neg c, if_neg (show ¬ (prE l[i]).1 = s from c), List.append_nil]
   rfl
theorem of_Ev (t n : List ByteArray) (l : List S42) (s : Int) (hl : l.length ≤ 1000000) : Ev (fun k => za0.f k t n l s) (ofV (l.map prE) s) := by
 unfold za0.f
 exact of_l0 t n l s hl l.length 0 (by omega)
theorem rdI (l : List Int) (i : Nat) (h : i < l.length) : rd l (i : Int) = l[i] := by
 unfold rd
 rw [Int.toNat_natCast, List.getD_eq_getElem?_getD, List.getElem?_eq_getElem h]
 rfl
theorem wrapU (x : Int) : IntKind.u64.wrap x = x % 18446744073709551616 := by
 unfold IntKind.wrap
 rfl
theorem modAt (x : Int) (m : Nat) (h0 : 0 < m) (h1 : m ≤ 1000000) : ∃ a : Nat, a < m ∧ wrap64 (Int.tmod (IntKind.u64.wrap x) (IntKind.u64.wrap (m : Int))) = (a : Int) ∧ ¬ IntKind.u64.wrap (m : Int) = 0 := by
 have e1 : IntKind.u64.wrap (m : Int) = (m : Int) := by rw [wrapU]; omega
 have e2 : 0 ≤ IntKind.u64.wrap x := by rw [wrapU]; omega
 rw [e1, Int.tmod_eq_emod_of_nonneg e2]
 have h2 := Int.emod_nonneg (IntKind.u64.wrap x) (show (m : Int) ≠ 0 by omega)
 have h3 := Int.emod_lt_of_pos (IntKind.u64.wrap x) (show 0 < (m : Int) by omega)
 refine ⟨(IntKind.u64.wrap x % (m : Int)).toNat, by omega, ?_, by omega⟩
 rw [w64 (by omega) (by omega)]
 omega
variable {t n : List ByteArray} {l : List S42} {em : List Bool} {Ss : List (List Int)}
theorem pre_l3 (H : Rdys t n l em Ss) (row : List Int) (hr : row.length ≤ 1000000) : ∀ (d j : Nat) (I : List Lr), j + d = row.length → Full t n l em Ss I → Via t n l em Ss I (row.drop j) → Ev (fun k => zad.l3 k (I.map lrS) row (row.length : Int) (j : Int) t n l) true
 | 0, j, I, hj, _, _ => evAt fun k => by
  simp only [zad.l3]
  rw [if_neg (by omega)]
  rfl
 | d + 1, j, I, hj, hI, hv => by
  have hj' : j < row.length := by omega
  rw [List.drop_eq_getElem_cons hj'] at hv
  obtain ⟨⟨x, hx, hn⟩, hv⟩ := hv
  refine Ev.step (fun k => by simp only [zad.l3]; rw [if_pos (by omega), if_pos (by omega), if_pos (by omega), rdI row j hj', w64 (x := (j : Int) + 1) (by omega) (by omega)]) ?_
  refine Ev.bind (H.goto I (by have := hI.1; omega) _) ?_
  have hm := H.on hI.1 hx hn
  have hne : ¬ ((((goV t n l em Ss I row[j]).map lrS).length : Int) = 0) := by
   rw [List.length_map]
   have := List.length_pos_of_mem hm
   omega
  simp only [if_neg hne]
  exact pre_l3 H row hr d (j + 1) _ (by omega) (H.full hI.1 _) hv
theorem pre_end (H : Rdys t n l em Ss) (picks row : List Int) (i : Int) (hr : row.length ≤ 1000000) (hv : Via t n l em Ss (stV t n l em Ss) row) : Ev (fun k => zad.j3 k picks row i false t n l) true := by
 by_cases c : (row.length : Int) > 40
 ·exact evAt fun k => by simp only [zad.j3, Bool.false_eq_true, if_false]; rw [if_pos c]; rfl
 ·refine Ev.step (fun k => by simp only [zad.j3, Bool.false_eq_true, if_false]; rw [if_neg c]) ?_
  exact Ev.bind H.first (pre_l3 H row hr row.length 0 _ (by omega) (via_first H).1 (by rw [List.drop_zero]; exact hv))
theorem pre_l2 (picks : List Int) (i : Nat) (hi : i ≤ 12) (right : List S44) (d : Nat) : ∀ (j : Nat) (acc : List Int), j + d = right.length → right.length ≤ 1000 → acc.length + d ≤ 1000000 → Ev (fun k => zad.l1 k picks (acc ++ (right.drop j).map (·.f0)) ((i + 2 : Nat) : Int) t n l) true → Ev (fun k => zad.l2 k picks (i : Int) acc right (right.length : Int) (j : Int) t n l) true := by
 induction d with
 | zero =>
  intro j acc hj hr ha he
  rw [List.drop_of_length_le (by omega), List.map_nil, List.append_nil] at he
  refine Ev.step (fun k => ?_) he
  simp only [zad.l2]
  rw [if_neg (by omega), w64 (x := (i : Int) + 2) (by omega) (by omega)]
  rfl
 | succ d ih =>
  intro j acc hj hr ha he
  have hj' : j < right.length := by omega
  have hrd : zba right (j : Int) = right[j] := by
   have := rd48_drop right j hj'
   rw [List.drop_eq_getElem_cons hj'] at this
   exact (List.cons.inj this).1.symm
  rw [List.drop_eq_getElem_cons hj', List.map_cons] at he
  refine Ev.step (fun k => ?_) (ih (j + 1) (acc ++ [right[j].f0]) (by omega) hr (by rw [List.length_append, List.length_singleton]; omega) (by rw [List.append_assoc]; exact he))
  simp only [zad.l2]
  rw [if_pos (by omega), if_pos (by omega), if_pos (by omega), if_pos (by omega), hrd, w64 (x := (j : Int) + 1) (by omega) (by omega)]
  rfl
theorem pre_l1 (H : Rdys t n l em Ss) (hlive : ∀ i : Nat, i < t.length + n.length → Live t.length (l.map prE) em Ss i) (picks : List Int) (hp : picks.length ≤ 100) (d : Nat) : ∀ (i : Nat) (row : List Int), i + 2 * d = 12 → (∀ s ∈ row, 0 ≤ s ∧ s < ((t.length + n.length : Nat) : Int)) → Via t n l em Ss (stV t n l em Ss) row → row.length ≤ 1 + 60 * i →
  Ev (fun k => zad.l1 k picks row (i : Int) t n l) true := by
 induction d with
 | zero =>
  intro i row hi hs hv hl
  refine Ev.step (fun k => ?_) (pre_end H picks row (i : Int) (by omega) hv)
  simp only [zad.l1]
  split
  ·rw [if_neg (by omega)]
  ·rfl
 | succ d ih =>
  intro i row hi hs hv hl
  have hend := pre_end H picks row (i : Int) (by omega) hv
  by_cases c1 : (i : Int) + 1 < (picks.length : Int)
  rotate_left
  ·refine Ev.step (fun k => ?_) hend
   simp only [zad.l1]
   rw [w64 (x := (i : Int) + 1) (by omega) (by omega), if_neg c1]
  by_cases c2 : row.length = 0
  ·refine Ev.step (fun k => ?_) hend
   simp only [zad.l1]
   rw [w64 (x := (i : Int) + 1) (by omega) (by omega), if_pos c1, if_pos (by omega), decide_eq_false (by omega)]
  refine Ev.step (f := fun k => zad.j3 k picks row (i : Int) true t n l) (fun k => by
   simp only [zad.l1]
   rw [w64 (x := (i : Int) + 1) (by omega) (by omega), if_pos c1, if_pos (by omega), decide_eq_true (by omega)]) ?_
  obtain ⟨a, ha, ea, na⟩ := modAt (rd picks (i : Int)) row.length (by omega) (by omega)
  have hsa := hs row[a] (List.getElem_mem ha)
  by_cases c3 : row[a] < (t.length : Int)
  ·refine Ev.step (fun k => ?_) (ih (i + 2) row (by omega) hs hv (by omega))
   simp only [zad.j3, if_true]
   rw [if_pos (by omega), if_pos (by omega), if_neg na, ea, if_pos (by omega), if_pos (by omega), rdI row a ha, if_pos c3, w64 (x := (i : Int) + 2) (by omega) (by omega)]
   rfl
  have hpl := H.pl
  refine Ev.step (fun k => by
   simp only [zad.j3, if_true]
   rw [if_pos (by omega), if_pos (by omega), if_neg na, ea, if_pos (by omega), if_pos (by omega), rdI row a ha, if_neg c3]) ?_
  refine Ev.bind (of_Ev t n l row[a] (by omega)) (Ev.bind (Ev.now _) ?_)
  simp only [if_pos (show (a : Int) ≤ (row.length : Int) by omega)]
  refine Ev.bind (Ev.now _) ?_
  have hal : (row.take ((a : Int)).toNat).length = a := by rw [Int.toNat_natCast, List.length_take]; omega
  have hoflen : (ofV (l.map prE) row[a]).length ≤ 16 := by
   have := LReach.ofF_len row[a] 0 (l.map prE)
   rw [List.length_map] at this
   show (ofF row[a] 0 (l.map prE)).length ≤ 16
   omega
  have hofpos : 0 < (ofV (l.map prE) row[a]).length := by
   rcases (hlive row[a].toNat (by omega)).2 with h | ⟨p, hp, e⟩
   ·omega
   ·obtain ⟨j, hj, e2⟩ := List.mem_iff_getElem.1 hp
    have := ofF_mem (s := row[a]) (l.map prE) 0 j ⟨p, by rw [List.getElem?_eq_getElem hj, e2], by omega⟩
    exact List.length_pos_of_mem this
  obtain ⟨b, hb, eb, nb⟩ := modAt (rd picks ((i : Int) + 1)) (ofV (l.map prE) row[a]).length hofpos (by omega)
  obtain ⟨j, hj, p, hpj, hps⟩ := ofF_get (s := row[a]) (l.map prE) 0 _ (List.getElem_mem hb)
  rw [Nat.zero_add] at hj
  have hjl : j < l.length := by have := (List.getElem?_eq_some_iff.1 hpj).1; rwa [List.length_map] at this
  have hrj : zae l (j : Int) = l[j] := by
   have := rd40_drop l j hjl
   rw [List.drop_eq_getElem_cons hjl] at this
   exact (List.cons.inj this).1.symm
  obtain rfl : p = prE l[j] := by
   rw [List.getElem?_map, List.getElem?_eq_getElem hjl] at hpj
   exact (Option.some.inj hpj).symm
  have hjo : (ofV (l.map prE) row[a])[b] = (j : Int) := hj
  simp only [w64 (x := (i : Int) + 1) (by omega) (by omega), hal, List.length_nil, if_pos (show 0 + a < 17592186044416 by omega), if_pos (show (0 : Int) ≤ (i : Int) + 1 by omega), if_pos c1, if_neg nb, eb, if_pos (show (0 : Int) ≤ (b : Int) by omega), if_pos (show (b : Int) < ((ofV (l.map prE) row[a]).length : Int) by omega), rdI _ b hb, hjo, if_pos (show (0 : Int) ≤ (j : Int) by omega), if_pos (show (j : Int) < (l.length : Int) by omega), hrj]
  have h60 : l[j].f1.length ≤ 60 := by
   have := H.p60 (prE l[j]) (List.mem_map.2 ⟨_, List.getElem_mem hjl, rfl⟩)
   rwa [show (prE l[j]).2.1 = l[j].f1.map itE from rfl, List.length_map] at this
  refine pre_l2 picks i (by omega) l[j].f1 l[j].f1.length 0 _ (by omega) (by omega) (by rw [List.nil_append, hal]; omega) ?_
  rw [List.drop_zero, List.nil_append, Int.toNat_natCast]
  have hsplit : row = row.take a ++ row[a] :: row.drop (a + 1) := by rw [← List.drop_eq_getElem_cons ha, List.take_append_drop]
  refine ih (i + 2) _ (by omega) (fun s hs' => ?_) ?_ (by rw [List.length_append, List.length_map, List.length_take]; omega)
  ·rcases List.mem_append.1 hs' with h | h
   ·exact hs s (List.mem_of_mem_take h)
   ·obtain ⟨x, hx, rfl⟩ := List.mem_map.1 h
    have := (flOk_ps H.ok (prE l[j]) (List.mem_map.2 ⟨_, List.getElem_mem hjl, rfl⟩)).1.2.2 (itE x) (List.mem_map.2 ⟨x, hx, rfl⟩)
    exact this
  ·rw [hsplit] at hv
   have := via_put H (via_first H).1 hv (by omega) (by rw [List.getElem?_map, List.getElem?_eq_getElem hjl]; rfl) hps hlive
   rw [show (prE l[j]).2.1.map (·.1) = l[j].f1.map (·.f0) by rw [show (prE l[j]).2.1 = l[j].f1.map itE from rfl, List.map_map]; rfl] at this
   exact this
theorem pre_l0 (picks : List Int) (us : List Bool) (hu : us.length ≤ 1000000) (hn : (∀ i, i < us.length → us.getD i false = true) → Ev (fun k => zad.l1 k picks [(t.length : Int)] 0 t n l) true) (d : Nat) : ∀ j : Nat, j + d = us.length → (∀ i, i < j → us.getD i false = true) → Ev (fun k => zad.l0 k picks us (us.length : Int) (j : Int) t n l) true := by
 induction d with
 | zero =>
  intro j hj h
  refine Ev.step (fun k => ?_) (hn (fun i hi => h i (by omega)))
  simp only [zad.l0]
  rw [if_neg (by omega)]
 | succ d ih =>
  intro j hj h
  have hr : rdOf false us (j : Int) = us.getD j false := by unfold rdOf; rw [Int.toNat_natCast]
  by_cases c : us.getD j false = true
  ·refine Ev.step (fun k => ?_) (ih (j + 1) (by omega) (fun i hi => by
    by_cases e : i = j
    ·rw [e]; exact c
    ·exact h i (by omega)))
   simp only [zad.l0]
   rw [if_pos (by omega), if_pos (by omega), if_pos (by omega), hr, if_pos c, w64 (x := (j : Int) + 1) (by omega) (by omega)]
   rfl
  ·refine evAt fun k => ?_
   simp only [zad.l0]
   rw [if_pos (by omega), if_pos (by omega), if_pos (by omega), hr, if_neg c]
   rfl
theorem ItemPrefixes : zad.Pure := by
 intro s0 l1 h0 h1
 obtain ⟨t, n, l⟩ := s0
 suffices Ev (fun k => zad.f k t n l l1) true by
  obtain ⟨K, h⟩ := this
  exact ⟨K, h K (Nat.le_refl _)⟩
 have awk : Ev (fun k => zad.j0 k l1 true t n l) true := evAt fun k => by simp only [zad.j0]; rfl
 unfold zad.f
 obtain ⟨c, ec, gc⟩ := few_Ev h0
 refine Ev.bind ec ?_
 cases c with
 | false => simp only [Bool.false_eq_true, if_false]; exact awk
 | true =>
  simp only [if_true]
  by_cases c1 : (l1.length : Int) > 100
  ·simp only [decide_eq_true c1]; exact awk
  simp only [decide_eq_false c1]
  obtain ⟨g1, g2, g3, g4, g5⟩ := gc rfl
  obtain ⟨em, Ss, H⟩ := rdys g1 g2 g3 g4 g5
  obtain ⟨m, us, e1, e2, e3⟩ := H.uses
  refine Ev.step (fun k => by simp only [zad.j0, Bool.false_eq_true, if_false]; exact rfl) ?_
  refine Ev.bind (ruseful_Ev t n l (by omega) (by omega) (fun p hp => ⟨by have := (g5 p hp).1; omega, (g5 p hp).2.1, by have := g4 p hp; omega, (g5 p hp).2.2.2⟩) m us e1) ?_
  refine pre_l0 l1 us (by omega) (fun hall => ?_) us.length 0 (by omega) (fun i hi => absurd hi (Nat.not_lt_zero _))
  exact pre_l1 H (fun i hi => e3 i (hall i (by omega))) l1 (by omega) 6 0 _ rfl (fun s hs => by rw [List.mem_singleton] at hs; subst hs; omega) (via_first H).2 (by simp)
end
end Go.Proofs.YtgdmjpehofdnpaaGreat.Pure
end
section
set_option linter.unusedVariables false
set_option linter.unusedSimpArgs false
namespace Go.Proofs.YtgdmjpehofdnpaaGreat.Opening
open Go.RowKit Go.Proofs.YtgdmjpehofdnpaaGreatW.PrintWords
section
variable {H : Type} {enc : TypeId × Value → H} {P : Program} {W : World}
def Op {α : Type} (enc : TypeId × Value → H) (P : Program) (W : World) (n : Nat) (t : TypeId) (d : Kd α) (B : α → Prop) : Prop :=
 ∀ fuel, fuel ≤ n → ∀ cs y, DataW.trod enc P W 0 (fun _ => true) true fuel t cs = some y → (DataW.weights P t y.1).all (· ≤ reachBytes) = true → ∃ x, d.K W x cs ∧ B x
theorem Op.mono {α : Type} {n m : Nat} {t : TypeId} {d : Kd α} {B : α → Prop} (h : Op enc P W n t d B) (hm : m ≤ n) : Op enc P W m t d B :=
 fun fuel hf => h fuel (Nat.le_trans hf hm)
theorem Op.imp {α : Type} {n : Nat} {t : TypeId} {d : Kd α} {B B' : α → Prop} (h : Op enc P W n t d B) (hB : ∀ x, B x → B' x) : Op enc P W n t d B' := fun fuel hf cs y hy hw =>
 let ⟨x, hx, hb⟩ := h fuel hf cs y hy hw
 ⟨x, hx, hB x hb⟩
theorem Op.zero {α : Type} {t : TypeId} {d : Kd α} {B : α → Prop} : Op enc P W 0 t d B := by
 intro fuel hf cs y hy
 obtain rfl : fuel = 0 := by omega
 simp [DataW.trod] at hy
theorem op_int {n : Nat} {t : TypeId} {k : IntKind} (hu : P.underlying t = some (.int k)) : Op enc P W n t (Kd.int k) (fun x => (Lit.int k x).wf = true) := by
 intro fuel _ cs y hy _
 obtain ⟨m, rfl, _, hw⟩ := DataW.trod_int hu hy
 exact ⟨m, rfl, hw⟩
theorem op_string {n : Nat} {t : TypeId} (hu : P.underlying t = some .string) : Op enc P W n t Kd.string (fun s => s.size ≤ 140737488351232) := by
 intro fuel _ cs y hy hw
 obtain ⟨s, rfl, rfl, _⟩ := DataW.trod_string hu hy
 refine ⟨s, rfl, ?_⟩
 simp only [DataW.weights, List.all_cons, List.all_nil, Bool.and_true, decide_eq_true_eq, Array.length_toList] at hw
 exact hw
theorem weights_all {e : TypeId} : ∀ {ds : List (DataW H)}, (DataW.weightsAll P e ds).all (· ≤ reachBytes) = true → ∀ d ∈ ds, (DataW.weights P e d).all (· ≤ reachBytes) = true
 | [], _, d, hd => by cases hd
 | x :: r, h, d, hd => by
  rw [DataW.weightsAll, List.all_append, Bool.and_eq_true] at h
  rcases List.mem_cons.1 hd with rfl | hd
  ·exact h.1
  ·exact weights_all h.2 d hd
theorem choose_list {α : Type} {Q : Nat → α → Prop} : ∀ n : Nat, (∀ i, i < n → ∃ x, Q i x) → ∃ xs : List α, xs.length = n ∧ ∀ i x, xs[i]? = some x → Q i x
 | 0, _ => ⟨[], rfl, by simp⟩
 | n + 1, h => by
  obtain ⟨xs, hl, hq⟩ := choose_list n (fun i hi => h i (by omega))
  obtain ⟨x, hx⟩ := h n (by omega)
  refine ⟨xs ++ [x], by simp [hl], fun i y hy => ?_⟩
  by_cases hi : i < n
  ·rw [List.getElem?_append_left (by omega)] at hy
   exact hq i y hy
  ·rw [List.getElem?_append_right (by omega)] at hy
   have : i - xs.length = 0 := by
    by_cases h0 : i - xs.length = 0
    ·exact h0
    ·rw [List.getElem?_eq_none (by simp; omega)] at hy
     cases hy
   rw [this] at hy
   obtain rfl : x = y := by simpa using hy
   obtain rfl : i = n := by omega
   exact hx
theorem op_slice {α : Type} {n : Nat} {t e e' b : TypeId} {d : Kd α} {B : α → Prop} (hu : P.underlying t = some (.slice e)) (hc : P.cellsOf e = d.sz) (hb : P.bytesOf e = b) (h : Op enc P W n e d B) :
  Op enc P W (n + 1) t (Kd.slice e' d) (fun xs => xs.length * b ≤ 140737488351232 ∧ ∀ x ∈ xs, B x) := by
 intro fuel hf cs y hy hw
 rcases DataW.trod_slice hu hy with ⟨rfl, rfl⟩ | ⟨a, len, cap, elems, rest, m, rfl, rfl, rfl, _, hlc, hcap, hel, hget, _, _⟩
 ·exact ⟨[], ⟨none, 0, rfl, Nat.le_refl _, rfl, by simp, fun h0 => absurd h0 (by simp)⟩, by simp⟩
 ·rw [DataW.weights, hu] at hw
  simp only [List.all_cons, List.all_append, Bool.and_eq_true, decide_eq_true_eq, List.length_map] at hw
  obtain ⟨hw0, hw1, _⟩ := hw
  have hall := weights_all hw1
  have key : ∀ i, i < len → ∃ x : α, (∃ c, c.length = d.sz ∧ d.K W x c ∧ ∀ j u, c[j]? = some u → W.cell? (a.add (i * d.sz + j)) = some u) ∧ B x := by
   intro i hi
   have hg := hget i hi
   rw [List.getElem?_eq_getElem (by omega)] at hg
   obtain ⟨c, hc1, hc2⟩ := Option.bind_eq_some_iff.1 hg
   obtain ⟨_, hl, hcell⟩ := World.cells?_some hc1
   obtain ⟨x, hx, hB⟩ := h m (by omega) c _ hc2 (hall _ (List.mem_map.2 ⟨_, List.getElem_mem _, rfl⟩))
   refine ⟨x, ⟨c, by rw [hl, hc], hx, fun j u hu' => ?_⟩, hB⟩
   have hj : j < P.cellsOf e := by
    have := (List.getElem?_eq_some_iff.1 hu').1
    omega
   have := hcell j hj
   rw [Addr.add_add, hc] at this
   rw [this, hu']
  obtain ⟨xs, hl, hxs⟩ := choose_list len key
  refine ⟨xs, ⟨some a, cap, by rw [hl], by omega, rfl, ?_, fun _ => ⟨a, rfl, fun j p hj => (hxs j p hj).1⟩⟩, ?_, ?_⟩
  ·have : maxLen = 9223372036854775807 := rfl
   omega
  ·rw [hb] at hw0
   have e1 : reachBytes = 140737488351232 := rfl
   have : xs.length * b ≤ (elems.length + rest.length) * b := Nat.mul_le_mul_right _ (by omega)
   omega
  ·intro x hx
   obtain ⟨i, hi, rfl⟩ := List.mem_iff_getElem.1 hx
   exact (hxs i _ (List.getElem?_eq_getElem hi)).2
def OpFs {α : Type} (enc : TypeId × Value → H) (P : Program) (W : World) (n : Nat) (fs : List Field) (off : Nat) (d : Kd α) (B : α → Prop) : Prop :=
 ∀ fuel, fuel ≤ n → ∀ (cs : List Value) (ys : List (DataW H × List MemPlace)), ys.length = fs.length → (∀ (i : Nat) (f : Field), fs[i]? = some f → DataW.trod enc P W 0 (fun _ => true) true fuel f.type ((cs.drop f.offset).take (P.cellsOf f.type)) = ys[i]?) →
  cs.length = off + d.sz → (DataW.weightsEach P (fs.map (·.type)) (ys.map (·.1))).all (· ≤ reachBytes) = true → ∃ x, d.K W x (cs.drop off) ∧ B x
theorem opf_last {α : Type} {n off : Nat} {f : Field} {d : Kd α} {B : α → Prop} (ho : f.offset = off) (hc : P.cellsOf f.type = d.sz) (h : Op enc P W n f.type d B) : OpFs enc P W n [f] off d B := by
 intro fuel hf cs ys hl hget hlen hw
 match ys, hl with
 | [y], _ =>
  have hg := hget 0 f rfl
  simp only [List.map_cons, List.map_nil, DataW.weightsEach, List.append_nil] at hw
  rw [ho, hc, List.take_of_length_le (by rw [List.length_drop]; omega)] at hg
  exact h fuel hf _ y hg hw
theorem opf_cons {α β : Type} {n off : Nat} {f : Field} {fs : List Field} {a : Kd α} {b : Kd β} {Ba : α → Prop} {Bb : β → Prop} (ho : f.offset = off) (hc : P.cellsOf f.type = a.sz) (h : Op enc P W n f.type a Ba) (hr : OpFs enc P W n fs (off + a.sz) b Bb) :
  OpFs enc P W n (f :: fs) off (Kd.pair a b) (fun x => Ba x.1 ∧ Bb x.2) := by
 intro fuel hf cs ys hl hget hlen hw
 have hlen' : cs.length = off + (a.sz + b.sz) := hlen
 match ys, hl with
 | y :: ys, hl =>
  have hg := hget 0 f rfl
  simp only [List.map_cons, DataW.weightsEach, List.all_append, Bool.and_eq_true] at hw
  rw [ho, hc] at hg
  obtain ⟨x, hx, hB⟩ := h fuel hf _ y hg hw.1
  obtain ⟨z, hz, hB'⟩ := hr fuel hf cs ys (by simpa using hl) (fun i g hi => hget (i + 1) g hi) (by omega) hw.2
  refine ⟨(x, z), ⟨_, _, ?_, hx, hz⟩, hB, hB'⟩
  have e : cs.drop (off + a.sz) = (cs.drop off).drop a.sz := by simp [List.drop_drop, Nat.add_comm]
  rw [e, List.take_append_drop]
theorem op_struct {α β : Type} {n : Nat} {t : TypeId} {fs : Array Field} {d : Kd α} {B : α → Prop} {f : β → α} (g : α → β) (hfg : ∀ x, f (g x) = x) (hu : P.underlying t = some (.struct fs)) (hc : P.cellsOf t = d.sz) (h : OpFs enc P W n fs.toList 0 d B) :
  Op enc P W (n + 1) t (Kd.iso d f) (fun s => B (f s)) := by
 intro fuel hf cs y hy hw
 obtain ⟨xs, m, rfl, rfl, hl, hlen, hget⟩ := DataW.trod_struct hu hy
 rw [DataW.weights, hu] at hw
 obtain ⟨x, hx, hB⟩ := h m (by omega) cs xs (by simpa using hlen) (fun i f hi => hget i f (by simpa using hi)) (by omega) hw
 refine ⟨g x, ?_, by show B (f (g x)); rw [hfg]; exact hB⟩
 show d.K W (f (g x)) cs
 rw [hfg]
 exact hx
theorem ops_slice {α : Type} {t e e' b : TypeId} {d : Kd α} {B : α → Prop} (hu : P.underlying t = some (.slice e)) (hc : P.cellsOf e = d.sz) (hb : P.bytesOf e = b) (h : ∀ n, Op enc P W n e d B) :
  ∀ n, Op enc P W n t (Kd.slice e' d) (fun xs => xs.length * b ≤ 140737488351232 ∧ ∀ x ∈ xs, B x) := fun n => (op_slice hu hc hb (h n)).mono (Nat.le_succ n)
theorem ops_struct {α β : Type} {t : TypeId} {fs : Array Field} {d : Kd α} {B : α → Prop} {f : β → α} (g : α → β) (hfg : ∀ x, f (g x) = x) (hu : P.underlying t = some (.struct fs)) (hc : P.cellsOf t = d.sz) (h : ∀ n, OpFs enc P W n fs.toList 0 d B) :
  ∀ n, Op enc P W n t (Kd.iso d f) (fun s => B (f s)) := fun n => (op_struct g hfg hu hc (h n)).mono (Nat.le_succ n)
theorem opsf_last {α : Type} {off : Nat} {f : Field} {d : Kd α} {B : α → Prop} (ho : f.offset = off) (hc : P.cellsOf f.type = d.sz) (h : ∀ n, Op enc P W n f.type d B) : ∀ n, OpFs enc P W n [f] off d B := fun n => opf_last ho hc (h n)
theorem opsf_cons {α β : Type} {off : Nat} {f : Field} {fs : List Field} {a : Kd α} {b : Kd β} {Ba : α → Prop} {Bb : β → Prop} (ho : f.offset = off) (hc : P.cellsOf f.type = a.sz) (h : ∀ n, Op enc P W n f.type a Ba) (hr : ∀ n, OpFs enc P W n fs (off + a.sz) b Bb) :
  ∀ n, OpFs enc P W n (f :: fs) off (Kd.pair a b) (fun x => Ba x.1 ∧ Bb x.2) := fun n => opf_cons ho hc (h n) (hr n)
theorem op_arg {α : Type} {t : TypeId} {d : Kd α} {B : α → Prop} (h : ∀ n, Op enc P W n t d B) {v : Value} {y : DataW H} {ps : List MemPlace} (ht : DataW.Trod enc P W 0 (fun _ => true) true t v y ps) {ts : List TypeId} {ds : List (DataW H)} {j : Nat}
  (hsz : (DataW.weightsEach P ts ds).all (· ≤ reachBytes) = true) (hj : ts[j]? = some t) (hd : ds[j]? = some y) : ∃ x, d.K W x v.cells.toList ∧ B x := by
 obtain ⟨fuel, hf⟩ := ht
 refine h fuel fuel (Nat.le_refl _) _ _ hf ?_
 rw [List.all_eq_true] at hsz ⊢
 intro n hn
 exact hsz n (DataW.weights_mem_each hj hd n hn)
end
end Go.Proofs.YtgdmjpehofdnpaaGreat.Opening
end
section
namespace Go.Proofs.YtgdmjpehofdnpaaGreat.itemPrefixes
open Go.ChangeShapes Go.WideShapes Go.ChangeAt Go.RowKit Go.Proofs.YtgdmjpehofdnpaaGreatW.PrintWords Go.Proofs.YtgdmjpehofdnpaaGreat.Opening Go.Proofs.YtgdmjpehofdnpaaGreat.PItemPrefixes
open Go.ChangeMaps (open_string shut_string)
set_option linter.unusedVariables false
theorem own : ownKnob Tryz.prog.godebug = none := by kernel_rfl
theorem laidOut : laidOutB Tryz.prog = true := by kernel_rfl
set_option maxRecDepth 100000 in
set_option maxHeartbeats 2000000 in
theorem lifted (os : Os) (started : os.Started) (H : Type) (enc : TypeId × Value → H) :
  ReturnsInHanded {} Tryz.checked os 4 .any (Rows.itemPrefixesSpec.pre6 enc Tryz.prog Tryz.f4 Rows.itemPrefixesRow.domain false) (Rows.itemPrefixesSpec.post enc Tryz.prog Tryz.f4 false true false false) := by
 refine returnsInHanded_of_change_sized (C := Tryz.checked) own started (by kernel_rfl) Tryz.func4
  (ChangeSpec.witness6 (enc := enc) (C := Tryz.checked) false ⟨#[], #[.agg #[.slice none 0 0, .slice none 0 0, .slice none 0 0], .slice none 0 0], []⟩ 8 (by kernel_rfl) (by kernel_rfl) (by kernel_rfl) (by kernel_rfl)) ?_
 intro W base args ds gs before hval0 hW hcnd hsz0 _
 have hsz : (DataW.weightsEach Tryz.prog (Tryz.f4.params.toList ++ Rows.itemPrefixesSpec.plain.varTypes Tryz.prog) (ds ++ gs)).all (· ≤ reachBytes) = true := hsz0
 have hval : ∀ (j : Nat) t v, Tryz.f4.params[j]? = some t → args[j]? = some v → Value.okWide Tryz.prog W .any base t v := hval0
 have hW' := hW
 obtain ⟨p, q, hA0, hV, rfl, hfz, hnd⟩ := hW
 have hA : DataW.TrodAll enc Tryz.prog W 0 (fun _ => true) true Tryz.f4.params.toList args.toList ds p := hA0
 rw [Tryz.params4] at hA hval hsz
 obtain ⟨v0, vs0, d0, ds0, p0, q0, hargs, rfl, rfl, h0, r0⟩ := trodAll_cons hA
 obtain ⟨v1, vs1, d1, ds1, p1, q1, rfl, rfl, rfl, h1, r1⟩ := trodAll_cons r0
 obtain ⟨rfl, rfl, rfl⟩ := trodAll_nil r1
 obtain rfl : args = #[v0, v1] := by cases args; simp_all
 obtain ⟨rfl, rfl⟩ := trodVars_none hV
 have k0 := h0
 have lt0 : ∀ x ∈ p0, x.block < W.heap.size := by obtain ⟨m, hm⟩ := k0; exact DataW.trod_lt m _ _ _ hm
 have oq44 := (ops_struct (enc := enc) (W := W) (f := fun x : S44 => (x.f0, x.f1, x.f2)) (fun x => ⟨x.1, x.2.1, x.2.2⟩) (fun _ => rfl) Tryz.underlying44 (by kernel_rfl) (opsf_cons rfl (by kernel_rfl) (fun _ => op_int Tryz.underlying3) (opsf_cons rfl (by kernel_rfl) (fun _ => op_string Tryz.underlying9) (opsf_last rfl (by kernel_rfl) (fun _ => op_string Tryz.underlying9)))))
 have oq42 := (ops_struct (enc := enc) (W := W) (f := fun x : S42 => (x.f0, x.f1, x.f2)) (fun x => ⟨x.1, x.2.1, x.2.2⟩) (fun _ => rfl) Tryz.underlying42 (by kernel_rfl) (opsf_cons rfl (by kernel_rfl) (fun _ => op_int Tryz.underlying3) (opsf_cons rfl (by kernel_rfl) (ops_slice (b := 40) (e' := 44) Tryz.underlying40 (by kernel_rfl) (by kernel_rfl) oq44) (opsf_last rfl (by kernel_rfl) (fun _ => op_int Tryz.underlying3)))))
 have oq25 := (ops_struct (enc := enc) (W := W) (f := fun x : S25 => (x.f0, x.f1, x.f2)) (fun x => ⟨x.1, x.2.1, x.2.2⟩) (fun _ => rfl) Tryz.underlying25 (by kernel_rfl) (opsf_cons rfl (by kernel_rfl) (ops_slice (b := 16) (e' := 9) Tryz.underlying22 (by kernel_rfl) (by kernel_rfl) (fun _ => op_string Tryz.underlying9)) (opsf_cons rfl (by kernel_rfl) (ops_slice (b := 16) (e' := 9) Tryz.underlying22 (by kernel_rfl) (by kernel_rfl) (fun _ => op_string Tryz.underlying9)) (opsf_last rfl (by kernel_rfl) (ops_slice (b := 40) (e' := 42) Tryz.underlying23 (by kernel_rfl) (by kernel_rfl) oq42)))))
 have o0 := op_arg (j := 0) oq25 h0 hsz rfl rfl
 obtain ⟨cs0, rfl, _⟩ := okWide_struct Tryz.underlying25 (hval 0 25 v0 rfl rfl)
 obtain ⟨s0, hK0, w0⟩ := o0
 obtain ⟨_, _, e0, ⟨A0_0, c0_0, rfl, hc0_0, hr0_0⟩, ⟨_, _, rfl, ⟨A0_1, c0_1, rfl, hc0_1, hr0_1⟩, ⟨A0_2, c0_2, rfl, hc0_2, hr0_2⟩⟩⟩ := hK0
 obtain rfl : cs0 = #[.slice A0_0 s0.f0.length c0_0, .slice A0_1 s0.f1.length c0_1, .slice A0_2 s0.f2.length c0_2] := by
  apply Array.toList_inj.1
  simpa [Value.cells] using e0
 have k1 := h1
 have lt1 : ∀ x ∈ p1, x.block < W.heap.size := by obtain ⟨m, hm⟩ := k1; exact DataW.trod_lt m _ _ _ hm
 have o1 := op_arg (j := 1) (ops_slice (b := 8) (e' := 3) Tryz.underlying35 (by kernel_rfl) (by kernel_rfl) (fun _ => op_int Tryz.underlying3)) h1 hsz rfl rfl
 obtain ⟨l1, ⟨A1, c1, e1, hc1, hr1⟩, w1⟩ := o1
 obtain ⟨a1_, len1_, cap1_, rfl⟩ := okWide_slice Tryz.underlying35 (hval 1 35 v1 rfl rfl)
 obtain ⟨rfl, rfl, rfl⟩ : a1_ = A1 ∧ len1_ = l1.length ∧ cap1_ = c1 := by simpa [Value.cells] using e1
 clear hA0 hval0 hsz0 hsz
 obtain ⟨k, hk⟩ := Pure.ItemPrefixes s0 l1 w0 w1
 refine (zad.calls k _ _ s0.f0 _ _ s0.f1 _ _ s0.f2 _ _ l1 true W hr0_0 hc0_0 hr0_1 hc0_1 hr0_2 hc0_2 hr1 hc1 hk).mono ?_
 rintro e W' ⟨rfl, bel0⟩
 have bel : Below W.heap.size W W' := bel0
 exact ⟨_, rfl, _, _, _, [], _, [], hW', trodAll_mk1 (shut_bool Tryz.underlying4 _), (trodAll_cons_mk (Below.trod laidOut (by kernel_rfl) (of_decide_eq_true (by kernel_rfl)) k0 bel lt0) (trodAll_cons_mk (Below.trod laidOut (by kernel_rfl) (of_decide_eq_true (by kernel_rfl)) k1 bel lt1) trodAll_mk0)), rfl, bel.frame _, fun h => by cases h⟩
theorem over : Rows.itemPrefixesRow.holds Tryz.pinned (OpenSpec.ofChange Rows.itemPrefixesSpec) :=
 OpenClaim.holds_of_wide 4 Tryz.f4 rfl rfl rfl rfl rfl rfl rfl ⟨rfl, rfl, rfl, rfl, rfl⟩ rfl rfl rfl rfl rfl (by kernel_rfl) Tryz.func4 (by kernel_rfl)
  (of_decide_eq_true (by kernel_rfl)) (by unfold Func.isWrapper; first | (rw [if_pos (by decide +kernel)]; kernel_rfl) | (rw [if_neg (by decide +kernel)]; exact ⟨rfl, rfl⟩))
  (fun os started H enc _ => lifted os started H enc)
theorem proved : Rows.ItemPrefixesSaid := over
end Go.Proofs.YtgdmjpehofdnpaaGreat.itemPrefixes
namespace Go.Proofs.YtgdmjpehofdnpaaGreat
theorem itemPrefixes_holds : Rows.ItemPrefixesSaid := itemPrefixes.proved
end Go.Proofs.YtgdmjpehofdnpaaGreat
end
