import Derived.ChangeArms
import Derived.DataReads
import Derived.DataElems
import Derived.SizedLaws
import Derived.Carry
import Derived.WideShapes
import Derived.Test.YtkfjhkkbbcpjjaaRows
import Derived.WalkKit
import Derived.ProofKit
import Derived.OpenShut
import Derived.ShutString
import Derived.ChangeOld
import Derived.Below
import Derived.Test.YtkfjhkkbbcpjjaaPackGssMerges3
set_option linter.unusedVariables false
set_option linter.unusedSimpArgs false
set_option maxRecDepth 100000
set_option maxHeartbeats 8000000
section
namespace Go.Proofs.ZZ.Pure
open Go.RowKit Go.Proofs.ZZ.PGssMerges Go.Proofs.ZW.PrintWords Go.Proofs.ZW.PrintLast Go.Proofs.ZW.PrintMore
theorem w64 {x : Int} (h1 : -9223372036854775808 ≤ x) (h2 : x ≤ 9223372036854775807) : wrap64 x = x := by
 unfold wrap64
 omega
theorem evAt {α : Type} {g : Nat → Option α} {r : α} (h : ∀ k, g (k + 1) = some r) : Ev g r := ⟨1, fun k hk => by obtain ⟨m, rfl⟩ : ∃ m, k = m + 1 := ⟨k - 1, by omega⟩; exact h m⟩
open Go.Proofs.ZZ.G16 in
theorem zc9 (a : Int) : za8.f a = some (decide (0 ≤ a ∧ a ≤ 65535)) := by
 unfold za8.f
 by_cases h : 0 ≤ a
 ·rw [if_pos h]
  congr 1
  simp [h]
 ·rw [if_neg (by omega)]
  congr 1
  simp [h]
open Go.Proofs.ZZ.G16 in
theorem before_eq (x y : S38) : zbb.f x.f0 x.f1 x.f2 y.f0 y.f1 y.f2 = some (decide (x.f1 < y.f1 ∨ x.f1 = y.f1 ∧ x.f0 < y.f0)) := by
 unfold zbb.f
 by_cases h : x.f1 < y.f1
 ·rw [if_pos h]; simp [h]
 ·rw [if_neg h]
  by_cases h2 : x.f1 = y.f1
  ·rw [if_pos h2]; simp [h2]
  ·rw [if_neg h2]; simp [h, h2]
theorem rd38 (l : List S38) (i : Nat) (h : i < l.length) : zaa l (i : Int) = l[i] := by
 show l.getD ((i : Int)).toNat z38 = _
 rw [Int.toNat_natCast, List.getD_eq_getElem?_getD, List.getElem?_eq_getElem h]
 rfl
theorem rdI (l : List Int) (i : Nat) (h : i < l.length) : rd l (i : Int) = l[i] := by
 show l.getD ((i : Int)).toNat 0 = _
 rw [Int.toNat_natCast, List.getD_eq_getElem?_getD, List.getElem?_eq_getElem h]
 rfl
def sumW (l : List S38) : Nat := (l.map fun x => 1 + x.f2.length).sum
theorem few_l0 (l : List S38) (hl : l.length ≤ 10000000000000) (hs : ∀ x ∈ l, x.f2.length ≤ 100000000000000) (d : Nat) : ∀ (i : Nat) (c : Int), i + d = l.length → c ≤ 3000 → -100000000000001 ≤ c → ∃ b, Ev (fun k => zam.l0 k c i l) b ∧ (b = true → ((sumW (l.drop i) : Nat) : Int) ≤ c ∧ l.length ≤ 120) := by
 induction d with
 | zero =>
  intro i c hi h1 h2
  by_cases hc : 0 ≤ c
  ·refine ⟨decide ((l.length : Int) ≤ 120), evAt fun k => ?_, fun hb => ?_⟩
   ·simp only [zam.l0]
    rw [if_neg (by omega), if_pos hc]
   ·rw [List.drop_of_length_le (by omega)]
    have := of_decide_eq_true hb
    exact ⟨by simpa [sumW] using hc, by omega⟩
  ·refine ⟨false, evAt fun k => ?_, fun h => nomatch h⟩
   simp only [zam.l0]
   rw [if_neg (by omega), if_neg (by omega)]
 | succ d ih =>
  intro i c hi h1 h2
  have hil : i < l.length := by omega
  by_cases hc : 0 ≤ c
  ·have hx := hs l[i] (List.getElem_mem hil)
   obtain ⟨b, e, g⟩ := ih (i + 1) (c - 1 - (l[i].f2.length : Int)) (by omega) (by omega) (by omega)
   refine ⟨b, Ev.step (fun k => ?_) e, fun hb => ?_⟩
   ·simp only [zam.l0]
    rw [if_pos (by omega), if_pos hc, if_pos (by omega), rd38 l i hil, w64 (x := c - 1) (by omega) (by omega), w64 (x := c - 1 - _) (by omega) (by omega), w64 (x := (i : Int) + 1) (by omega) (by omega)]
    rfl
   ·obtain ⟨g1, g2⟩ := g hb
    refine ⟨?_, g2⟩
    rw [List.drop_eq_getElem_cons hil]
    unfold sumW at g1 ⊢
    rw [List.map_cons, List.sum_cons]
    omega
  ·refine ⟨false, evAt fun k => ?_, fun h => nomatch h⟩
   simp only [zam.l0]
   rw [if_pos (by omega), if_neg (by omega)]
theorem few_Ev (l : List S38) (hl : l.length ≤ 10000000000000) (hs : ∀ x ∈ l, x.f2.length ≤ 100000000000000) : ∃ b, Ev (fun k => zam.f k l) b ∧ (b = true → sumW l ≤ 3000 ∧ l.length ≤ 120) := by
 obtain ⟨b, e, g⟩ := few_l0 l hl hs l.length 0 3000 (by omega) (by omega) (by omega)
 refine ⟨b, e, fun hb => ?_⟩
 obtain ⟨g1, g2⟩ := g hb
 rw [List.drop_zero] at g1
 exact ⟨by omega, g2⟩
def LinkOk (l : List S38) (a : Int) (f2 : List Int) (j : Nat) : Prop := 0 ≤ rd f2 j ∧ rd f2 j < (l.length : Int) ∧ (zaa l (rd f2 j)).f1 ≤ a ∧ (0 < j → rd f2 ((j : Int) - 1) < rd f2 j)
def zd0 (l : List S38) (i : Nat) : Prop := (0 ≤ (zaa l i).f0 ∧ (zaa l i).f0 ≤ 65535) ∧ (0 ≤ (zaa l i).f1 ∧ (zaa l i).f1 ≤ 65535) ∧ (0 < i → (zaa l ((i : Int) - 1)).f1 < (zaa l i).f1 ∨ (zaa l ((i : Int) - 1)).f1 = (zaa l i).f1 ∧ (zaa l ((i : Int) - 1)).f0 < (zaa l i).f0) ∧ ∀ j, j < (zaa l i).f2.length → LinkOk l (zaa l i).f1 (zaa l i).f2 j
theorem fit_l1 (l : List S38) (hl : l.length ≤ 4096) (i : Nat) (f0 f1 : Int) (f2 : List Int) (hf : f2.length ≤ 100000000000000) (hi : i < l.length) {b' : Bool} (h0 : Ev (fun k => zae.l0 k (l.length : Int) ((i : Int) + 1) l) b') (d : Nat) :
  ∀ j : Nat, j + d = f2.length → ∃ b, Ev (fun k => zae.l1 k (l.length : Int) i j l f0 f1 f2) b ∧ (b = true ↔ (∀ q, j ≤ q → q < f2.length → LinkOk l f1 f2 q) ∧ b' = true) := by
 induction d with
 | zero =>
  intro j hj
  refine ⟨b', Ev.step (fun k => ?_) h0, ⟨fun h => ⟨fun q h1 h2 => by omega, h⟩, fun h => h.2⟩⟩
  simp only [zae.l1]
  rw [if_neg (by omega), w64 (x := (i : Int) + 1) (by omega) (by omega)]
 | succ d ih =>
  intro j hj
  have bad : ∀ {b : Bool}, b = false → ¬ LinkOk l f1 f2 j → (b = true ↔ (∀ q, j ≤ q → q < f2.length → LinkOk l f1 f2 q) ∧ b' = true) := fun hb hn => by
   rw [hb]
   exact ⟨fun h => (nomatch h), fun h => absurd (h.1 j (Nat.le_refl _) (by omega)) hn⟩
  by_cases c1 : rd f2 j < 0
  ·refine ⟨false, evAt fun k => ?_, bad rfl (fun h => by have := h.1; omega)⟩
   simp only [zae.l1]
   rw [if_pos (by omega), if_pos (by omega), if_pos c1]
  ·by_cases c2 : (l.length : Int) ≤ rd f2 j
   ·refine ⟨false, evAt fun k => ?_, bad rfl (fun h => by have := h.2.1; omega)⟩
    simp only [zae.l1]
    rw [if_pos (by omega), if_pos (by omega), if_neg c1, if_pos c2]
   ·by_cases c3 : (zaa l (rd f2 j)).f1 > f1
    ·refine ⟨false, evAt fun k => ?_, bad rfl (fun h => by have := h.2.2.1; omega)⟩
     simp only [zae.l1]
     rw [if_pos (by omega), if_pos (by omega), if_neg c1, if_neg (by omega), if_pos (by omega), if_pos (by omega), if_pos c3]
    ·by_cases c4 : 0 < j
     ·by_cases c5 : rd f2 ((j : Int) - 1) ≥ rd f2 j
      ·refine ⟨false, evAt fun k => ?_, bad rfl (fun h => by have := h.2.2.2 c4; omega)⟩
       simp only [zae.l1]
       rw [if_pos (by omega), if_pos (by omega), if_neg c1, if_neg (by omega), if_pos (by omega), if_pos (by omega), if_neg c3, if_pos (by omega), w64 (x := (j : Int) - 1) (by omega) (by omega), if_pos (by omega), if_pos (by omega), if_pos c5]
      ·obtain ⟨b, e, g⟩ := ih (j + 1) (by omega)
       refine ⟨b, Ev.step (fun k => ?_) e, g.trans ⟨fun h => ⟨fun q h1 h2 => ?_, h.2⟩, fun h => ⟨fun q h1 h2 => h.1 q (by omega) h2, h.2⟩⟩⟩
       ·simp only [zae.l1]
        rw [if_pos (by omega), if_pos (by omega), if_neg c1, if_neg (by omega), if_pos (by omega), if_pos (by omega), if_neg c3, if_pos (by omega), w64 (x := (j : Int) - 1) (by omega) (by omega), if_pos (by omega), if_pos (by omega), if_neg c5, w64 (x := (j : Int) + 1) (by omega) (by omega)]
        rfl
       ·by_cases hq : q = j
        ·rw [hq]; exact ⟨by omega, by omega, by omega, fun _ => by omega⟩
        ·exact h.1 q (by omega) h2
     ·obtain ⟨b, e, g⟩ := ih (j + 1) (by omega)
      refine ⟨b, Ev.step (fun k => ?_) e, g.trans ⟨fun h => ⟨fun q h1 h2 => ?_, h.2⟩, fun h => ⟨fun q h1 h2 => h.1 q (by omega) h2, h.2⟩⟩⟩
      ·simp only [zae.l1]
       rw [if_pos (by omega), if_pos (by omega), if_neg c1, if_neg (by omega), if_pos (by omega), if_pos (by omega), if_neg c3, if_neg (by omega), w64 (x := (j : Int) + 1) (by omega) (by omega)]
       rfl
      ·by_cases hq : q = j
       ·rw [hq]; exact ⟨by omega, by omega, by omega, fun h => absurd h c4⟩
       ·exact h.1 q (by omega) h2
theorem fit_l0 (l : List S38) (hl : l.length ≤ 4096) (hs : ∀ x ∈ l, x.f2.length ≤ 100000000000000) (d : Nat) :
  ∀ i : Nat, i + d = l.length → ∃ b, Ev (fun k => zae.l0 k (l.length : Int) i l) b ∧ (b = true ↔ ∀ q, i ≤ q → q < l.length → zd0 l q) := by
 induction d with
 | zero =>
  intro i hi
  refine ⟨true, Ev.step (f := fun k => zae.j1 k (l.length : Int) i false l) (fun k => ?_) (evAt fun k => ?_), ⟨fun _ q h1 h2 => by omega, fun _ => rfl⟩⟩
  ·simp only [zae.l0]
   rw [if_neg (by omega)]
  ·simp only [zae.j1]
   rw [if_neg (by decide), decide_eq_true (by omega)]
 | succ d ih =>
  intro i hi
  have hil : i < l.length := by omega
  obtain ⟨b', e', g'⟩ := ih (i + 1) (by omega)
  have hx : (zaa l i).f2.length ≤ 100000000000000 := by rw [rd38 l i hil]; exact hs _ (List.getElem_mem hil)
  obtain ⟨b, e, g⟩ := fit_l1 l hl i (zaa l i).f0 (zaa l i).f1 (zaa l i).f2 hx hil e' _ 0 (Nat.zero_add _)
  have st : ∀ {b : Bool}, Ev (fun k => zae.j1 k (l.length : Int) i true l) b → Ev (fun k => zae.l0 k (l.length : Int) i l) b := fun h => Ev.step (fun k => by
   simp only [zae.l0]
   rw [if_pos (by omega), decide_eq_true (by omega)]) h
  have no : ¬ zd0 l i → ∀ {b : Bool}, b = false → (b = true ↔ ∀ q, i ≤ q → q < l.length → zd0 l q) := fun hn _ hb => by
   rw [hb]
   exact ⟨fun h => (nomatch h), fun h => absurd (h i (Nat.le_refl _) hil) hn⟩
  have j2f : Ev (fun k => zae.j2 k (l.length : Int) i true l (zaa l i).f0 (zaa l i).f1 (zaa l i).f2) false := evAt fun k => by
   simp only [zae.j2]
   rw [if_pos trivial]
  have j2t : Ev (fun k => zae.j2 k (l.length : Int) i false l (zaa l i).f0 (zaa l i).f1 (zaa l i).f2) b := Ev.step (fun k => by
   simp only [zae.j2]
   rw [if_neg (by decide)]
   rfl) e
  have yes : (0 ≤ (zaa l i).f0 ∧ (zaa l i).f0 ≤ 65535) → (0 ≤ (zaa l i).f1 ∧ (zaa l i).f1 ≤ 65535) → (0 < i → (zaa l ((i : Int) - 1)).f1 < (zaa l i).f1 ∨ (zaa l ((i : Int) - 1)).f1 = (zaa l i).f1 ∧ (zaa l ((i : Int) - 1)).f0 < (zaa l i).f0) → (b = true ↔ ∀ q, i ≤ q → q < l.length → zd0 l q) := fun c1 c2 c3 => by
   rw [g, g']
   refine ⟨fun h q h1 h2 => ?_, fun h => ⟨fun q _ h2 => (h i (Nat.le_refl _) hil).2.2.2 q h2, fun q h1 h2 => h q (by omega) h2⟩⟩
   by_cases hq : q = i
   ·subst hq
    exact ⟨c1, c2, c3, fun j hj => h.1 j (Nat.zero_le _) hj⟩
   ·exact h.2 q (by omega) h2
  by_cases c1 : 0 ≤ (zaa l i).f0 ∧ (zaa l i).f0 ≤ 65535
  ·by_cases c2 : 0 ≤ (zaa l i).f1 ∧ (zaa l i).f1 ≤ 65535
   ·by_cases c3 : 0 < i
    ·by_cases c4 : (zaa l ((i : Int) - 1)).f1 < (zaa l i).f1 ∨ (zaa l ((i : Int) - 1)).f1 = (zaa l i).f1 ∧ (zaa l ((i : Int) - 1)).f0 < (zaa l i).f0
     ·refine ⟨b, st (Ev.step (fun k => ?_) j2t), yes c1 c2 fun _ => c4⟩
      simp only [zae.j1]
      rw [if_pos trivial, if_pos (by omega), if_pos (by omega), zc9, Option.bind_some, if_pos (decide_eq_true c1), zc9, Option.bind_some, if_pos (decide_eq_true c2), if_pos (by omega), w64 (x := (i : Int) - 1) (by omega) (by omega), if_pos (by omega), if_pos (by omega), before_eq, Option.bind_some, decide_eq_true c4]
      rfl
     ·refine ⟨false, st (Ev.step (fun k => ?_) j2f), no (fun h => c4 (h.2.2.1 c3)) rfl⟩
      simp only [zae.j1]
      rw [if_pos trivial, if_pos (by omega), if_pos (by omega), zc9, Option.bind_some, if_pos (decide_eq_true c1), zc9, Option.bind_some, if_pos (decide_eq_true c2), if_pos (by omega), w64 (x := (i : Int) - 1) (by omega) (by omega), if_pos (by omega), if_pos (by omega), before_eq, Option.bind_some, decide_eq_false c4]
      rfl
    ·refine ⟨b, st (Ev.step (fun k => ?_) j2t), yes c1 c2 fun h => absurd h c3⟩
     simp only [zae.j1]
     rw [if_pos trivial, if_pos (by omega), if_pos (by omega), zc9, Option.bind_some, if_pos (decide_eq_true c1), zc9, Option.bind_some, if_pos (decide_eq_true c2), if_neg (by omega)]
   ·refine ⟨false, st (Ev.step (fun k => ?_) j2f), no (fun h => c2 h.2.1) rfl⟩
    simp only [zae.j1]
    rw [if_pos trivial, if_pos (by omega), if_pos (by omega), zc9, Option.bind_some, if_pos (decide_eq_true c1), zc9, Option.bind_some, decide_eq_false c2, if_neg (by decide)]
  ·refine ⟨false, st (Ev.step (fun k => ?_) j2f), no (fun h => c1 h.1) rfl⟩
   simp only [zae.j1]
   rw [if_pos trivial, if_pos (by omega), if_pos (by omega), zc9, Option.bind_some, decide_eq_false c1, if_neg (by decide)]
theorem zfw {α : Type} {lt : α → α → Prop} (tr : ∀ {a b c}, lt a b → lt b c → lt a c) : ∀ {l : List α}, (∀ i (h : i + 1 < l.length), lt (l[i]'(by omega)) (l[i + 1]'h)) → l.Pairwise lt
 | [], _ => List.Pairwise.nil
 | [a], _ => List.pairwise_singleton _ _
 | a :: b :: t, h => by
  have h0 : lt a b := h 0 (by simp)
  have ht : (b :: t).Pairwise lt := zfw (lt := lt) tr fun i hi => h (i + 1) (by simp at hi ⊢; omega)
  refine List.pairwise_cons.2 ⟨fun x hx => ?_, ht⟩
  rcases List.mem_cons.1 hx with rfl | hx
  ·exact h0
  ·exact tr h0 ((List.pairwise_cons.1 ht).1 x hx)
open Go.Proofs.ZZ.G16 in
theorem nodes_fit {l : List S38} (hl : l.length ≤ 4096) : (∀ q, 0 ≤ q → q < l.length → zd0 l q) ↔ FitG (l.map ndT) := by
 constructor
 ·intro h
  have hx : ∀ x ∈ l.map ndT, ∃ i, ∃ hi : i < l.length, x = ndT l[i] ∧ zd0 l i := by
   intro x hx
   obtain ⟨y, hy, rfl⟩ := List.mem_map.1 hx
   obtain ⟨i, hi, rfl⟩ := List.getElem_of_mem hy
   exact ⟨i, hi, rfl, h i (Nat.zero_le _) hi⟩
  have hk : ∀ i (hi : i < l.length), zd0 l i → ∀ k ∈ l[i].f2, 0 ≤ k ∧ k < (l.length : Int) ∧ (zaa l k).f1 ≤ l[i].f1 := by
   intro i hi ho k hk
   obtain ⟨j, hj, rfl⟩ := List.getElem_of_mem hk
   have e : (zaa l i).f2 = l[i].f2 := by rw [rd38 l i hi]
   obtain ⟨g1, g2, g3, _⟩ := ho.2.2.2 j (by rw [e]; exact hj)
   rw [e, rdI _ j hj] at g1 g2 g3
   rw [rd38 l i hi] at g3
   exact ⟨g1, g2, g3⟩
  refine GAwake.zd2 (by rw [List.length_map]; exact hl) ?_ ?_ ?_
  ·refine zfw (lt := mlt) (fun h1 h2 => zc4 h1 h2) fun i hi => ?_
   have hi' : i + 1 < l.length := by simpa [marks] using hi
   have h1 := (h (i + 1) (Nat.zero_le _) hi').2.2.1 (by omega)
   have ei : ((i + 1 : Nat) : Int) - 1 = (i : Int) := by omega
   rw [ei, rd38 l i (by omega), rd38 l (i + 1) hi'] at h1
   simp only [marks, List.getElem_map, mlt, mrk, ndT]
   exact h1
  ·intro x hx'
   obtain ⟨i, hi, rfl, ho⟩ := hx x hx'
   have e := rd38 l i hi
   obtain ⟨o1, o2, _, o4⟩ := id ho
   rw [e] at o1 o2 o4
   refine ⟨o1.1, o1.2, o2.1, o2.2, ?_, fun k hk' => ?_⟩
   ·refine zfw (lt := fun a b : Int => a < b) (fun h1 h2 => Int.lt_trans h1 h2) fun j hj => ?_
    have hj : j + 1 < l[i].f2.length := hj
    have := (o4 (j + 1) hj).2.2.2 (by omega)
    have ej : ((j + 1 : Nat) : Int) - 1 = (j : Int) := by omega
    rw [ej, rdI _ j (by omega), rdI _ (j + 1) hj] at this
    exact this
   ·obtain ⟨a, b, _⟩ := hk i hi ho k hk'
    exact ⟨a, by rw [List.length_map]; exact b⟩
  ·intro x hx' k hk'
   obtain ⟨i, hi, rfl, ho⟩ := hx x hx'
   obtain ⟨a, b, c⟩ := hk i hi ho k hk'
   have hkl : k.toNat < l.length := by omega
   have e : zaa l k = l[k.toNat] := by
    have := rd38 l k.toNat hkl
    rw [show ((k.toNat : Nat) : Int) = k by omega] at this
    exact this
   rw [e] at c
   simp only [List.getD_eq_getElem?_getD, List.getElem?_map, List.getElem?_eq_getElem hkl]
   exact c
 ·intro h q _ hq
  have e := rd38 l q hq
  have hm : ndT l[q] ∈ l.map ndT := List.mem_map.2 ⟨_, List.getElem_mem hq, rfl⟩
  have o := h.ok _ hm
  refine ⟨by rw [e]; exact ⟨o.s0, o.s1⟩, by rw [e]; exact ⟨o.a0, o.a1⟩, fun h0 => ?_, fun j hj => ?_⟩
  ·have hr := List.pairwise_iff_getElem.1 h.rise (q - 1) q (by simp [marks]; omega) (by simp [marks]; omega) (by omega)
   have eq : ((q : Int) - 1) = ((q - 1 : Nat) : Int) := by omega
   rw [eq, rd38 l (q - 1) (by omega), e]
   simp only [marks, List.getElem_map, mlt, mrk, ndT] at hr
   exact hr
  ·rw [e] at hj ⊢
   have hmj : l[q].f2[j] ∈ l[q].f2 := List.getElem_mem hj
   have hi := o.inn l[q].f2[j] hmj
   rw [List.length_map] at hi
   have hkl : l[q].f2[j].toNat < l.length := by omega
   have ej := rdI l[q].f2 j hj
   refine ⟨by rw [ej]; exact hi.1, by rw [ej]; exact hi.2, ?_, fun h0 => ?_⟩
   ·rw [ej]
    have e2 : zaa l l[q].f2[j] = l[l[q].f2[j].toNat] := by
     have := rd38 l l[q].f2[j].toNat hkl
     rw [show ((l[q].f2[j].toNat : Nat) : Int) = l[q].f2[j] by omega] at this
     exact this
    rw [e2]
    exact h.back (mrk (ndT l[q])) (mrk (ndT l[l[q].f2[j].toNat])) ⟨_, hm, rfl, l[q].f2[j], hmj, hi.1, by simp [marks, List.getElem?_eq_getElem hkl]⟩
   ·have eq : ((j : Int) - 1) = ((j - 1 : Nat) : Int) := by omega
    rw [eq, rdI _ (j - 1) (by omega), ej]
    exact List.pairwise_iff_getElem.1 o.up (j - 1) j (by show j - 1 < l[q].f2.length; omega) hj (by omega)
open Go.Proofs.ZZ.G16 in
theorem fit_Ev (l : List S38) (hl : l.length ≤ 4096) (hs : ∀ x ∈ l, x.f2.length ≤ 100000000000000) : ∃ b, Ev (fun k => zae.f k l) b ∧ (b = true ↔ FitG (l.map ndT)) := by
 obtain ⟨b, e, g⟩ := fit_l0 l hl hs l.length 0 (Nat.zero_add _)
 exact ⟨b, e, g.trans (nodes_fit hl)⟩
theorem ints_refl (l : List Int) (hl : l.length ≤ 100000000000000) : Ev (fun k => zas.f k l l) true := by
 have : ∀ d j : Nat, j + d = l.length → Ev (fun k => zas.l0 k l l (j : Int)) true := by
  intro d
  induction d with
  | zero =>
   intro j hj
   refine evAt fun k => ?_
   simp only [zas.l0]
   rw [if_neg (by omega)]
  | succ d ih =>
   intro j hj
   refine Ev.step (fun k => ?_) (ih (j + 1) (by omega))
   simp only [zas.l0]
   rw [if_pos (by omega), if_pos (by omega), if_pos (by omega), if_true, w64 (x := (j : Int) + 1) (by omega) (by omega)]
   rfl
 refine Ev.congr (fun k => ?_) (this l.length 0 (Nat.zero_add _))
 simp only [zas.f]
 rw [if_true]
 rfl
theorem same_refl (l : List S38) (hl : l.length ≤ 10000000000000) (hs : ∀ x ∈ l, x.f2.length ≤ 100000000000000) : Ev (fun k => zak.f k l l) true := by
 have : ∀ d j : Nat, j + d = l.length → Ev (fun k => zak.l0 k (j : Int) l l) true := by
  intro d
  induction d with
  | zero =>
   intro j hj
   refine evAt fun k => ?_
   simp only [zak.l0]
   rw [if_neg (by omega)]
  | succ d ih =>
   intro j hj
   have hjl : j < l.length := by omega
   refine Ev.step (f := fun k => (zas.f k (zaa l j).f2 (zaa l j).f2).bind fun t => if t = true then zak.l0 k ((j + 1 : Nat) : Int) l l else some false) (fun k => ?_) (Ev.bind (ints_refl _ (by rw [rd38 l j hjl]; exact hs _ (List.getElem_mem hjl))) ?_)
   ·simp only [zak.l0]
    rw [if_pos (by omega), if_pos (by omega), if_pos (by omega), if_true, if_true, w64 (x := (j : Int) + 1) (by omega) (by omega)]
    rfl
   ·exact ih (j + 1) (by omega)
 refine Ev.congr (fun k => ?_) (this l.length 0 (Nat.zero_add _))
 simp only [zak.f]
 rw [if_true]
 rfl
open Go.Proofs.ZZ.G16
abbrev Ls (g : List Nd) : List S38 := g.map ndS
theorem Ls_T (l : List S38) : Ls (l.map ndT) = l := by
 show (l.map ndT).map ndS = l
 rw [List.map_map]
 exact List.map_id' l
theorem T_Ls (g : List Nd) : (Ls g).map ndT = g := by
 show (g.map ndS).map ndT = g
 rw [List.map_map]
 exact List.map_id' g
theorem links_le {g : List Nd} (h : FitG g) {x : Nd} (hx : x ∈ g) : x.2.2.length ≤ g.length := by
 have o := h.ok x hx
 have := zcj x.2.2 ((List.range g.length).map Int.ofNat) (zdw (lt := fun a b : Int => a < b) (fun a => Int.lt_irrefl a) o.up) fun k hk => by
  obtain ⟨a, b⟩ := o.inn k hk
  exact List.mem_map.2 ⟨k.toNat, List.mem_range.2 (by omega), by show ((k.toNat : Nat) : Int) = k; omega⟩
 simpa using this
theorem cnt_le {M : Nat} : ∀ {g : List Nd}, (∀ x ∈ g, x.2.2.length ≤ M) → GAdd.cntG g ≤ g.length * (M + 1)
 | [], _ => by simp [GAdd.cntG]
 | x :: t, h => by
  have h1 := cnt_le (g := t) fun y hy => h y (List.mem_cons_of_mem _ hy)
  have h2 := h x (by simp)
  simp only [GAdd.cntG, List.length_cons, Nat.add_mul]
  omega
theorem cnt_fit {g : List Nd} (h : FitG g) (hl : g.length ≤ 1000) : GAdd.cntG g ≤ 1001000 := by
 have h1 := cnt_le (M := 1000) (g := g) fun x hx => Nat.le_trans (links_le h hx) hl
 have h2 : g.length * 1001 ≤ 1000 * 1001 := Nat.mul_le_mul_right _ hl
 omega
theorem Ls_links {g : List Nd} (h : FitG g) : ∀ x ∈ Ls g, x.f2.length ≤ 100000000000000 := fun x hx => by
 obtain ⟨y, hy, rfl⟩ := List.mem_map.1 hx
 have h1 := links_le h hy
 have h2 := h.len
 show y.2.2.length ≤ _
 omega
theorem Ls_len (g : List Nd) : (Ls g).length = g.length := List.length_map _
theorem fit_Ls {g : List Nd} (h : FitG g) : Ev (fun k => zae.f k (Ls g)) true := by
 obtain ⟨b, e, hb⟩ := fit_Ev (Ls g) (by rw [Ls_len]; exact h.len) (Ls_links h)
 rw [T_Ls] at hb
 rw [hb.2 h] at e
 exact e
theorem ok_len {s : S24} (h : ok24 s) : s.f0.length ≤ 10000000000000 := by
 have := h.1
 omega
theorem zde {s : S24} (h : ok24 s) : ∀ x ∈ s.f0, x.f2.length ≤ 100000000000000 := fun x hx => by
 have := (h.2 x hx).2.2.1
 omega
theorem evT {α β : Type} {g : Nat → Option Bool} {f h : Nat → Option β} {r : β} {b : Bool} (e : Ev g b) (k1 : b = true → Ev f r) (k2 : b = false → Ev h r) : Ev (fun n => (g n).bind fun t => if t = true then f n else h n) r := by
 refine Ev.bind e ?_
 cases hb : b with
 | true => exact k1 hb
 | false => exact k2 hb
theorem zdd {g h : List Nd} (hg : FitG g) (hh : FitG h) (lg : g.length ≤ 1000) (lh : h.length ≤ 1000) : zan.f (Ls g) (Ls h) = some (Ls (zb4 g h)) := by
 unfold zan.f
 rw [T_Ls, T_Ls, if_pos ⟨GGiv.fit_test hg, GGiv.fit_test hh, by simp; omega, by have := cnt_fit hg lg; have := cnt_fit hh lh; omega⟩]
theorem same_Ls {g : List Nd} (h : FitG g) : Ev (fun k => zak.f k (Ls g) (Ls g)) true :=
 same_refl (Ls g) (by rw [Ls_len]; have := h.len; omega) (Ls_links h)
theorem awake_Ev (a b c : List S38) : Ev (fun k => zai.j0 k true a b c) true := evAt fun k => by
 simp only [zai.j0]
 rw [if_pos trivial]
 rfl
theorem merges_Ev {a b c : List Nd} (ha : FitG a) (hb : FitG b) (hc : FitG c) (la : a.length ≤ 120) (lb : b.length ≤ 120) (lc : c.length ≤ 120) : Ev (fun k => zai.j0 k false (Ls a) (Ls b) (Ls c)) true := by
 have sab := zbt ha hb (by omega)
 have fab := sab.fit
 have lab := zc7 ha hb (by omega)
 have lbc := zc7 hb hc (by omega)
 have fbc := (zbt hb hc (by omega)).fit
 have m1 := zdd ha hb (by omega) (by omega)
 have m2 := zdd hb ha (by omega) (by omega)
 have m3 := zdd fab ha (by omega) (by omega)
 have m4 := zdd fab hc (by omega) (by omega)
 have m5 := zdd hb hc (by omega) (by omega)
 have m6 := zdd ha fbc (by omega) (by omega)
 rw [← merge_comm ha hb (by omega)] at m2
 rw [merge_twice ha hb (by omega)] at m3
 rw [← merge_assoc ha hb hc (by omega)] at m6
 have fabc := (zbt fab hc (by omega)).fit
 refine Ev.step (f := fun k => _) (fun k => by
  simp only [zai.j0, m1, m2, m3, m4, m5, m6, Option.bind_some]
  rw [if_neg (by decide)]) ?_
 refine evT (α := Bool) (fit_Ls fab) (fun _ => ?_) (fun h => nomatch h)
 refine evT (α := Bool) (same_Ls fab) (fun _ => ?_) (fun h => nomatch h)
 refine evT (α := Bool) (same_Ls fab) (fun _ => ?_) (fun h => nomatch h)
 refine evT (α := Bool) (same_Ls fabc) (fun _ => ?_) (fun h => nomatch h)
 exact Ev.now true
theorem GssMerges : zai.Pure := by
 intro s0 s1 s2 o0 o1 o2
 obtain ⟨b0, e0, g0⟩ := few_Ev s0.f0 (ok_len o0) (zde o0)
 obtain ⟨b1, e1, g1⟩ := few_Ev s1.f0 (ok_len o1) (zde o1)
 obtain ⟨b2, e2, g2⟩ := few_Ev s2.f0 (ok_len o2) (zde o2)
 have z := awake_Ev s0.f0 s1.f0 s2.f0
 refine Ev.rounds (evT (α := Bool) e0 (fun h0 => ?_) fun _ => z)
 refine evT (α := Bool) e1 (fun h1 => ?_) fun _ => z
 refine evT (α := Bool) e2 (fun h2 => ?_) fun _ => z
 have l0 := (g0 h0).2
 have l1 := (g1 h1).2
 have l2 := (g2 h2).2
 obtain ⟨c0, f0, k0⟩ := fit_Ev s0.f0 (by omega) (zde o0)
 obtain ⟨c1, f1, k1⟩ := fit_Ev s1.f0 (by omega) (zde o1)
 obtain ⟨c2, f2, k2⟩ := fit_Ev s2.f0 (by omega) (zde o2)
 refine evT (α := Bool) f0 (fun j0 => ?_) fun _ => z
 refine evT (α := Bool) f1 (fun j1 => ?_) fun _ => z
 refine Ev.bind f2 ?_
 cases hc : c2 with
 | false => exact z
 | true =>
  have := merges_Ev (k0.1 j0) (k1.1 j1) (k2.1 hc) (by rw [List.length_map]; exact l0) (by rw [List.length_map]; exact l1) (by rw [List.length_map]; exact l2)
  rw [Ls_T, Ls_T, Ls_T] at this
  exact this
end Go.Proofs.ZZ.Pure
end
section
namespace Go.Proofs.ZZ.Opening
open Go.RowKit Go.Proofs.ZW.PrintWords
section
variable {H : Type} {enc : TypeId × Value → H} {P : Program} {W : World}
def Op {α : Type} (enc : TypeId × Value → H) (P : Program) (W : World) (n : Nat) (t : TypeId) (d : Kd α) (B : α → Prop) : Prop :=
 ∀ fuel, fuel ≤ n → ∀ cs y, DataW.trod enc P W 0 (fun _ => true) true fuel t cs = some y → (DataW.weights P t y.1).all (· ≤ reachBytes) = true → ∃ x, d.K W x cs ∧ B x
theorem Op.mono {α : Type} {n m : Nat} {t : TypeId} {d : Kd α} {B : α → Prop} (h : Op enc P W n t d B) (hm : m ≤ n) : Op enc P W m t d B :=
 fun fuel hf => h fuel (Nat.le_trans hf hm)
theorem op_int {n : Nat} {t : TypeId} {k : IntKind} (hu : P.underlying t = some (.int k)) : Op enc P W n t (Kd.int k) (fun x => (Lit.int k x).wf = true) := by
 intro fuel _ cs y hy _
 obtain ⟨m, rfl, _, hw⟩ := DataW.trod_int hu hy
 exact ⟨m, rfl, hw⟩
theorem zfo {e : TypeId} : ∀ {ds : List (DataW H)}, (DataW.weightsAll P e ds).all (· ≤ reachBytes) = true → ∀ d ∈ ds, (DataW.weights P e d).all (· ≤ reachBytes) = true
 | [], _, d, hd => by cases hd
 | x :: r, h, d, hd => by
  rw [DataW.weightsAll, List.all_append, Bool.and_eq_true] at h
  rcases List.mem_cons.1 hd with rfl | hd
  ·exact h.1
  ·exact zfo h.2 d hd
theorem zfi {α : Type} {Q : Nat → α → Prop} : ∀ n : Nat, (∀ i, i < n → ∃ x, Q i x) → ∃ xs : List α, xs.length = n ∧ ∀ i x, xs[i]? = some x → Q i x
 | 0, _ => ⟨[], rfl, by simp⟩
 | n + 1, h => by
  obtain ⟨xs, hl, hq⟩ := zfi n (fun i hi => h i (by omega))
  obtain ⟨x, hx⟩ := h n (by omega)
  refine ⟨xs ++ [x], by simp [hl], fun i y hy => ?_⟩
  by_cases hi : i < n
  ·rw [List.getElem?_append_left (by omega)] at hy
   exact hq i y hy
  ·rw [List.getElem?_append_right (by omega)] at hy
   have : i - xs.length = 0 := by
    by_cases h0 : i - xs.length = 0
    ·exact h0
    ·rw [List.getElem?_eq_none (by simp; omega)] at hy
     cases hy
   rw [this] at hy
   obtain rfl : x = y := by simpa using hy
   obtain rfl : i = n := by omega
   exact hx
theorem op_slice {α : Type} {n : Nat} {t e e' b : TypeId} {d : Kd α} {B : α → Prop} (hu : P.underlying t = some (.slice e)) (hc : P.cellsOf e = d.sz) (hb : P.bytesOf e = b) (h : Op enc P W n e d B) :
  Op enc P W (n + 1) t (Kd.slice e' d) (fun xs => xs.length * b ≤ 140737488351232 ∧ ∀ x ∈ xs, B x) := by
 intro fuel hf cs y hy hw
 rcases DataW.trod_slice hu hy with ⟨rfl, rfl⟩ | ⟨a, len, cap, elems, rest, m, rfl, rfl, rfl, _, hlc, hcap, hel, hget, _, _⟩
 ·exact ⟨[], ⟨none, 0, rfl, Nat.le_refl _, rfl, by simp, fun h0 => absurd h0 (by simp)⟩, by simp⟩
 ·rw [DataW.weights, hu] at hw
  simp only [List.all_cons, List.all_append, Bool.and_eq_true, decide_eq_true_eq, List.length_map] at hw
  obtain ⟨hw0, hw1, _⟩ := hw
  have hall := zfo hw1
  have key : ∀ i, i < len → ∃ x : α, (∃ c, c.length = d.sz ∧ d.K W x c ∧ ∀ j u, c[j]? = some u → W.cell? (a.add (i * d.sz + j)) = some u) ∧ B x := by
   intro i hi
   have hg := hget i hi
   rw [List.getElem?_eq_getElem (by omega)] at hg
   obtain ⟨c, hc1, hc2⟩ := Option.bind_eq_some_iff.1 hg
   obtain ⟨_, hl, hcell⟩ := World.cells?_some hc1
   obtain ⟨x, hx, hB⟩ := h m (by omega) c _ hc2 (hall _ (List.mem_map.2 ⟨_, List.getElem_mem _, rfl⟩))
   refine ⟨x, ⟨c, by rw [hl, hc], hx, fun j u hu' => ?_⟩, hB⟩
   have hj : j < P.cellsOf e := by
    have := (List.getElem?_eq_some_iff.1 hu').1
    omega
   have := hcell j hj
   rw [Addr.add_add, hc] at this
   rw [this, hu']
  obtain ⟨xs, hl, hxs⟩ := zfi len key
  refine ⟨xs, ⟨some a, cap, by rw [hl], by omega, rfl, ?_, fun _ => ⟨a, rfl, fun j p hj => (hxs j p hj).1⟩⟩, ?_, ?_⟩
  ·have : maxLen = 9223372036854775807 := rfl
   omega
  ·rw [hb] at hw0
   have e1 : reachBytes = 140737488351232 := rfl
   have : xs.length * b ≤ (elems.length + rest.length) * b := Nat.mul_le_mul_right _ (by omega)
   omega
  ·intro x hx
   obtain ⟨i, hi, rfl⟩ := List.mem_iff_getElem.1 hx
   exact (hxs i _ (List.getElem?_eq_getElem hi)).2
def OpFs {α : Type} (enc : TypeId × Value → H) (P : Program) (W : World) (n : Nat) (fs : List Field) (off : Nat) (d : Kd α) (B : α → Prop) : Prop :=
 ∀ fuel, fuel ≤ n → ∀ (cs : List Value) (ys : List (DataW H × List MemPlace)), ys.length = fs.length → (∀ (i : Nat) (f : Field), fs[i]? = some f → DataW.trod enc P W 0 (fun _ => true) true fuel f.type ((cs.drop f.offset).take (P.cellsOf f.type)) = ys[i]?) →
  cs.length = off + d.sz → (DataW.weightsEach P (fs.map (·.type)) (ys.map (·.1))).all (· ≤ reachBytes) = true → ∃ x, d.K W x (cs.drop off) ∧ B x
theorem opf_last {α : Type} {n off : Nat} {f : Field} {d : Kd α} {B : α → Prop} (ho : f.offset = off) (hc : P.cellsOf f.type = d.sz) (h : Op enc P W n f.type d B) : OpFs enc P W n [f] off d B := by
 intro fuel hf cs ys hl hget hlen hw
 match ys, hl with
 | [y], _ =>
  have hg := hget 0 f rfl
  simp only [List.map_cons, List.map_nil, DataW.weightsEach, List.append_nil] at hw
  rw [ho, hc, List.take_of_length_le (by rw [List.length_drop]; omega)] at hg
  exact h fuel hf _ y hg hw
theorem opf_cons {α β : Type} {n off : Nat} {f : Field} {fs : List Field} {a : Kd α} {b : Kd β} {Ba : α → Prop} {Bb : β → Prop} (ho : f.offset = off) (hc : P.cellsOf f.type = a.sz) (h : Op enc P W n f.type a Ba) (hr : OpFs enc P W n fs (off + a.sz) b Bb) :
  OpFs enc P W n (f :: fs) off (Kd.pair a b) (fun x => Ba x.1 ∧ Bb x.2) := by
 intro fuel hf cs ys hl hget hlen hw
 have hlen' : cs.length = off + (a.sz + b.sz) := hlen
 match ys, hl with
 | y :: ys, hl =>
  have hg := hget 0 f rfl
  simp only [List.map_cons, DataW.weightsEach, List.all_append, Bool.and_eq_true] at hw
  rw [ho, hc] at hg
  obtain ⟨x, hx, hB⟩ := h fuel hf _ y hg hw.1
  obtain ⟨z, hz, hB'⟩ := hr fuel hf cs ys (by simpa using hl) (fun i g hi => hget (i + 1) g hi) (by omega) hw.2
  refine ⟨(x, z), ⟨_, _, ?_, hx, hz⟩, hB, hB'⟩
  have e : cs.drop (off + a.sz) = (cs.drop off).drop a.sz := by simp [List.drop_drop, Nat.add_comm]
  rw [e, List.take_append_drop]
theorem op_struct {α β : Type} {n : Nat} {t : TypeId} {fs : Array Field} {d : Kd α} {B : α → Prop} {f : β → α} (g : α → β) (hfg : ∀ x, f (g x) = x) (hu : P.underlying t = some (.struct fs)) (hc : P.cellsOf t = d.sz) (h : OpFs enc P W n fs.toList 0 d B) :
  Op enc P W (n + 1) t (Kd.iso d f) (fun s => B (f s)) := by
 intro fuel hf cs y hy hw
 obtain ⟨xs, m, rfl, rfl, hl, hlen, hget⟩ := DataW.trod_struct hu hy
 rw [DataW.weights, hu] at hw
 obtain ⟨x, hx, hB⟩ := h m (by omega) cs xs (by simpa using hlen) (fun i f hi => hget i f (by simpa using hi)) (by omega) hw
 refine ⟨g x, ?_, by show B (f (g x)); rw [hfg]; exact hB⟩
 show d.K W (f (g x)) cs
 rw [hfg]
 exact hx
theorem ops_slice {α : Type} {t e e' b : TypeId} {d : Kd α} {B : α → Prop} (hu : P.underlying t = some (.slice e)) (hc : P.cellsOf e = d.sz) (hb : P.bytesOf e = b) (h : ∀ n, Op enc P W n e d B) :
  ∀ n, Op enc P W n t (Kd.slice e' d) (fun xs => xs.length * b ≤ 140737488351232 ∧ ∀ x ∈ xs, B x) := fun n => (op_slice hu hc hb (h n)).mono (Nat.le_succ n)
theorem zf4 {α β : Type} {t : TypeId} {fs : Array Field} {d : Kd α} {B : α → Prop} {f : β → α} (g : α → β) (hfg : ∀ x, f (g x) = x) (hu : P.underlying t = some (.struct fs)) (hc : P.cellsOf t = d.sz) (h : ∀ n, OpFs enc P W n fs.toList 0 d B) :
  ∀ n, Op enc P W n t (Kd.iso d f) (fun s => B (f s)) := fun n => (op_struct g hfg hu hc (h n)).mono (Nat.le_succ n)
theorem opsf_last {α : Type} {off : Nat} {f : Field} {d : Kd α} {B : α → Prop} (ho : f.offset = off) (hc : P.cellsOf f.type = d.sz) (h : ∀ n, Op enc P W n f.type d B) : ∀ n, OpFs enc P W n [f] off d B := fun n => opf_last ho hc (h n)
theorem opsf_cons {α β : Type} {off : Nat} {f : Field} {fs : List Field} {a : Kd α} {b : Kd β} {Ba : α → Prop} {Bb : β → Prop} (ho : f.offset = off) (hc : P.cellsOf f.type = a.sz) (h : ∀ n, Op enc P W n f.type a Ba) (hr : ∀ n, OpFs enc P W n fs (off + a.sz) b Bb) :
  ∀ n, OpFs enc P W n (f :: fs) off (Kd.pair a b) (fun x => Ba x.1 ∧ Bb x.2) := fun n => opf_cons ho hc (h n) (hr n)
theorem op_arg {α : Type} {t : TypeId} {d : Kd α} {B : α → Prop} (h : ∀ n, Op enc P W n t d B) {v : Value} {y : DataW H} {ps : List MemPlace} (ht : DataW.Trod enc P W 0 (fun _ => true) true t v y ps) {ts : List TypeId} {ds : List (DataW H)} {j : Nat}
  (hsz : (DataW.weightsEach P ts ds).all (· ≤ reachBytes) = true) (hj : ts[j]? = some t) (hd : ds[j]? = some y) : ∃ x, d.K W x v.cells.toList ∧ B x := by
 obtain ⟨fuel, hf⟩ := ht
 refine h fuel fuel (Nat.le_refl _) _ _ hf ?_
 rw [List.all_eq_true] at hsz ⊢
 intro n hn
 exact hsz n (DataW.weights_mem_each hj hd n hn)
end
end Go.Proofs.ZZ.Opening
end
section
namespace Go.Proofs.Ytkfjhkkbbcpjjaa.gssMerges
open Go.ChangeShapes Go.WideShapes Go.ChangeAt Go.RowKit Go.Proofs.ZW.PrintWords Go.Proofs.ZZ.Opening Go.Proofs.ZZ.PGssMerges
open Go.ChangeMaps (open_string shut_string)
theorem own : ownKnob Try.prog.godebug = none := by kernel_rfl
theorem laidOut : laidOutB Try.prog = true := by kernel_rfl
theorem lifted (os : Os) (started : os.Started) (H : Type) (enc : TypeId × Value → H) :
  ReturnsInHanded {} Try.checked os 5 .any (Rows.gssMergesSpec.pre6 enc Try.prog Try.f5 Rows.gssMergesRow.domain false) (Rows.gssMergesSpec.post enc Try.prog Try.f5 false true false false) := by
 refine returnsInHanded_of_change_sized (C := Try.checked) own started (by kernel_rfl) Try.func5
  (ChangeSpec.witness6 (enc := enc) (C := Try.checked) false ⟨#[], #[.agg #[.slice none 0 0], .agg #[.slice none 0 0], .agg #[.slice none 0 0]], []⟩ 8 (by kernel_rfl) (by kernel_rfl) (by kernel_rfl) (by kernel_rfl)) ?_
 intro W base args ds gs before hval0 hW hcnd hsz0 _
 have hsz : (DataW.weightsEach Try.prog (Try.f5.params.toList ++ Rows.gssMergesSpec.plain.varTypes Try.prog) (ds ++ gs)).all (· ≤ reachBytes) = true := hsz0
 have hval : ∀ (j : Nat) t v, Try.f5.params[j]? = some t → args[j]? = some v → Value.okWide Try.prog W .any base t v := hval0
 have hW' := hW
 obtain ⟨p, q, hA0, hV, rfl, hfz, hnd⟩ := hW
 have hA : DataW.TrodAll enc Try.prog W 0 (fun _ => true) true Try.f5.params.toList args.toList ds p := hA0
 rw [Try.params5] at hA hval hsz
 obtain ⟨v0, vs0, d0, ds0, p0, q0, hargs, rfl, rfl, h0, r0⟩ := trodAll_cons hA
 obtain ⟨v1, vs1, d1, ds1, p1, q1, rfl, rfl, rfl, h1, r1⟩ := trodAll_cons r0
 obtain ⟨v2, vs2, d2, ds2, p2, q2, rfl, rfl, rfl, h2, r2⟩ := trodAll_cons r1
 obtain ⟨rfl, rfl, rfl⟩ := trodAll_nil r2
 obtain rfl : args = #[v0, v1, v2] := by cases args; simp_all
 obtain ⟨rfl, rfl⟩ := trodVars_none hV
 have k0 := h0
 have lt0 : ∀ x ∈ p0, x.block < W.heap.size := by obtain ⟨m, hm⟩ := k0; exact DataW.trod_lt m _ _ _ hm
 have oq38 := (zf4 (enc := enc) (W := W) (f := fun x : S38 => (x.f0, x.f1, x.f2)) (fun x => ⟨x.1, x.2.1, x.2.2⟩) (fun _ => rfl) Try.underlying38 (by kernel_rfl) (opsf_cons rfl (by kernel_rfl) (fun _ => op_int Try.underlying3) (opsf_cons rfl (by kernel_rfl) (fun _ => op_int Try.underlying3) (opsf_last rfl (by kernel_rfl) (ops_slice (b := 8) (e' := 3) Try.underlying31 (by kernel_rfl) (by kernel_rfl) (fun _ => op_int Try.underlying3))))))
 have oq24 := (zf4 (enc := enc) (W := W) (f := fun x : S24 => x.f0) (fun x => ⟨x⟩) (fun _ => rfl) Try.underlying24 (by kernel_rfl) (opsf_last rfl (by kernel_rfl) (ops_slice (b := 40) (e' := 38) Try.underlying22 (by kernel_rfl) (by kernel_rfl) oq38)))
 have o0 := op_arg (j := 0) oq24 h0 hsz rfl rfl
 obtain ⟨cs0, rfl, _⟩ := okWide_struct Try.underlying24 (hval 0 24 v0 rfl rfl)
 obtain ⟨s0, hK0, w0⟩ := o0
 obtain ⟨A0_0, c0_0, e0, hc0_0, hr0_0⟩ := hK0
 obtain rfl : cs0 = #[.slice A0_0 s0.f0.length c0_0] := by
  apply Array.toList_inj.1
  simpa [Value.cells] using e0
 have k1 := h1
 have lt1 : ∀ x ∈ p1, x.block < W.heap.size := by obtain ⟨m, hm⟩ := k1; exact DataW.trod_lt m _ _ _ hm
 have o1 := op_arg (j := 1) oq24 h1 hsz rfl rfl
 obtain ⟨cs1, rfl, _⟩ := okWide_struct Try.underlying24 (hval 1 24 v1 rfl rfl)
 obtain ⟨s1, hK1, w1⟩ := o1
 obtain ⟨A1_0, c1_0, e1, hc1_0, hr1_0⟩ := hK1
 obtain rfl : cs1 = #[.slice A1_0 s1.f0.length c1_0] := by
  apply Array.toList_inj.1
  simpa [Value.cells] using e1
 have k2 := h2
 have lt2 : ∀ x ∈ p2, x.block < W.heap.size := by obtain ⟨m, hm⟩ := k2; exact DataW.trod_lt m _ _ _ hm
 have o2 := op_arg (j := 2) oq24 h2 hsz rfl rfl
 obtain ⟨cs2, rfl, _⟩ := okWide_struct Try.underlying24 (hval 2 24 v2 rfl rfl)
 obtain ⟨s2, hK2, w2⟩ := o2
 obtain ⟨A2_0, c2_0, e2, hc2_0, hr2_0⟩ := hK2
 obtain rfl : cs2 = #[.slice A2_0 s2.f0.length c2_0] := by
  apply Array.toList_inj.1
  simpa [Value.cells] using e2
 clear hA0 hval0 hsz0 hsz
 obtain ⟨k, hk⟩ := Go.Proofs.ZZ.Pure.GssMerges s0 s1 s2 w0 w1 w2
 refine (zai.calls k _ _ s0.f0 _ _ s1.f0 _ _ s2.f0 true W hr0_0 hc0_0 hr1_0 hc1_0 hr2_0 hc2_0 hk).mono ?_
 rintro e W' ⟨rfl, bel0⟩
 have bel : Below W.heap.size W W' := bel0
 exact ⟨_, rfl, _, _, _, [], _, [], hW', trodAll_mk1 (shut_bool Try.underlying4 _), (trodAll_cons_mk (Below.trod laidOut (by kernel_rfl) (of_decide_eq_true (by kernel_rfl)) k0 bel lt0) (trodAll_cons_mk (Below.trod laidOut (by kernel_rfl) (of_decide_eq_true (by kernel_rfl)) k1 bel lt1) (trodAll_cons_mk (Below.trod laidOut (by kernel_rfl) (of_decide_eq_true (by kernel_rfl)) k2 bel lt2) trodAll_mk0))), rfl, bel.frame _, fun h => by cases h⟩
theorem over : Rows.gssMergesRow.holds Try.pinned (OpenSpec.ofChange Rows.gssMergesSpec) :=
 OpenClaim.holds_of_wide 5 Try.f5 rfl rfl rfl rfl rfl rfl rfl ⟨rfl, rfl, rfl, rfl, rfl⟩ rfl rfl rfl rfl rfl (by kernel_rfl) Try.func5 (by kernel_rfl)
  (of_decide_eq_true (by kernel_rfl)) (by unfold Func.isWrapper; first | (rw [if_pos (by decide +kernel)]; kernel_rfl) | (rw [if_neg (by decide +kernel)]; exact ⟨rfl, rfl⟩))
  (fun os started H enc _ => lifted os started H enc)
theorem proved : Rows.GssMergesSaid := over
end Go.Proofs.Ytkfjhkkbbcpjjaa.gssMerges
namespace Go.Proofs.Ytkfjhkkbbcpjjaa
theorem gssMerges_holds : Rows.GssMergesSaid := gssMerges.proved
end Go.Proofs.Ytkfjhkkbbcpjjaa
end
