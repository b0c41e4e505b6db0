/- span.sift walked: the pieces between borders that stay. Over the contract of Norm. -/
import Derived.Test.YtebphbnkogianaaGap
import Derived.Test.YtebphbnkogianaaHas
import Derived.Stop.RegionWithIn
import Derived.Test.YtebphbnkogianaaWLast
namespace Go.Proofs.Ytebphbnkogianaa.Sift
open Go Go.RowKit Go.Shelf Go.Proofs.YtebphbnkogianaaW.PrintWords Go.Proofs.YtebphbnkogianaaW.PrintLast Go.Proofs.Ytebphbnkogianaa.Round Go.Proofs.Ytebphbnkogianaa.Rg Go.Proofs.Ytebphbnkogianaa.RangeG Go.Proofs.Ytebphbnkogianaa.Brd Go.Proofs.Ytebphbnkogianaa.Gap
attribute [local go_sem] Oper.semAt_some
set_option linter.unusedVariables false
set_option linter.unusedSimpArgs false
theorem own_slice {w : World} {base : Nat} {e : TypeId} {size n : Nat} {v : Value} {xs : List Value} (h : w.ownsRow base e size v n xs) : ∃ A n c, v = .slice A n c := by
  rcases h.2 with ⟨hv, _⟩ | ⟨g, cap, cur, hv, _⟩
  · exact ⟨_, _, _, hv⟩
  · exact ⟨_, _, _, hv⟩
theorem bds_len (l : List R) : (bds l).length ≤ l.length * 2 := by
  have h1 : (bds l).length ≤ (sorted (ends l)).length := by
    unfold bds Lib.compact Lib.compactUpTo
    rw [List.length_map]
    exact Nat.le_trans (List.length_filter_le _ _) (by simp)
  have h2 : (sorted (ends l)).length = (ends l).length := List.length_mergeSort _
  have h3 : ∀ l : List R, (ends l).length = l.length * 2 := by
    intro l
    induction l with
    | nil => rfl
    | cons x t ih => show ([x.1, x.2] ++ ends t).length = _; rw [List.length_append, ih, List.length_cons]; simp; omega
  rw [h3] at h2
  omega
theorem row_C {w : World} {A : Option Addr} {l : List R} (h : Row w A l) (hl : l.length ≤ 1000000000000) : Kd.C kR w A l.length l := by
  rcases h with ⟨rfl, rfl⟩ | ⟨g, rfl, hg, hc⟩
  · exact ⟨rfl, Nat.zero_le _, fun h => absurd h (by simp)⟩
  · refine ⟨rfl, by omega, fun _ => ⟨_, rfl, fun k x hx => ⟨encR x, rfl, ⟨_, _, rfl, rfl, rfl⟩, fun j u hj => ?_⟩⟩⟩
    rw [add_plain]
    refine hc _ _ ?_
    obtain ⟨hk, hx'⟩ := List.getElem?_eq_some_iff.1 hx
    have e : l = l.take k ++ x :: l.drop (k + 1) := by rw [← hx', ← List.drop_eq_getElem_cons hk, List.take_append_drop]
    have hjl := (List.getElem?_eq_some_iff.1 hj).1
    rw [e, List.flatMap_append, List.flatMap_cons, List.getElem?_append_right (by rw [flat_len, List.length_take]; show _ ≤ k * 2 + j; omega), flat_len, List.length_take, Nat.min_eq_left (by omega)]
    rw [show k * kR.sz + j - k * 2 = j from by show k * 2 + j - k * 2 = j; omega, List.getElem?_append_left hjl]
    exact hj
/-- What Norm's contract gives: a row of the call's own. -/
def NormAt (l r : List R) : Prop := ∀ (A : Option Addr) (c : Nat) (w : World), Kd.C kR w A l.length l → l.length ≤ c → Calls Try.prog 15 #[.slice A l.length c] w fun e w' => ∃ v, e = .returned v ∧ w'.ownsRow w.heap.size TR 2 v r.length (r.flatMap encR) ∧ Below w.heap.size w w'
set_option maxRecDepth 100000 in
set_option maxHeartbeats 4000000 in
theorem sift_calls (fc : Nat) (st : Bool → Bool → Bool) (hen : ∀ args w, (callFunc fc args).run Try.prog w = .ok (.enter fc args) w) (hst : ∀ x y w, Calls Try.prog fc #[.bool x, .bool y] w fun e w' => e = .returned (.bool (st x y)) ∧ w' = w)
    (a b na nb r : List R) (hna : NormAt a na) (hnb : NormAt b nb) (hnr : NormAt ((gaps (bds (na ++ nb))).filter fun x => st (Has.hasV na x.1) (Has.hasV nb x.1)) r)
    (A0 A1 : Option Addr) (c0 c1 : Nat) (w : World) (h0 : Kd.C kR w A0 a.length a) (h1 : Kd.C kR w A1 b.length b) (hc0 : a.length ≤ c0) (hc1 : b.length ≤ c1) (hna1 : na.length ≤ 1000000000) (hnb1 : nb.length ≤ 1000000000) (hra : Has.Rise na) (hrb : Has.Rise nb) :
    Calls Try.prog 31 #[.slice A0 a.length c0, .slice A1 b.length c1, .func (.func fc) #[] #[]] w fun e w' => ∃ v, e = .returned v ∧ w'.ownsRow w.heap.size TR 2 v r.length (r.flatMap encR) ∧ Below w.heap.size w w' := by
  refine (callsIn_wide (n := 3)).1 ?_
  refine callsIn_of_wp_marks Try.func31 rfl trivial ?_ rfl
  simp only [Try.ntmps31, List.size_toArray, List.length_cons, List.length_nil, Nat.reduceAdd, Nat.reduceSub, Array.replicate_succ, Array.replicate_zero, List.push_toArray, List.append_toArray, List.nil_append, List.cons_append]
  gi_wp2
  obtain ⟨W0, hW0⟩ : ∃ W0, (((w.alloc (Obj.cells #[Value.slice A0 a.length c0] 22)).alloc (Obj.cells #[Value.slice A1 b.length c1] 22)).alloc (Obj.cells #[Value.func (Fn.func fc) #[] #[]] 51)) = W0 := ⟨_, rfl⟩
  have bA : Boxed W0 w.heap.size 22 (.slice A0 a.length c0) := by
    rw [← hW0]; exact ((Boxed.new w 22 (.slice A0 a.length c0)).alloc _).alloc _
  have bB : Boxed W0 (w.heap.size + 1) 22 (.slice A1 b.length c1) := by
    rw [← hW0]; have := (Boxed.new (w.alloc (Obj.cells #[Value.slice A0 a.length c0] 22)) 22 (.slice A1 b.length c1)).alloc (Obj.cells #[Value.func (Fn.func fc) #[] #[]] 51); simpa using this
  have bF : Boxed W0 (w.heap.size + 1 + 1) 51 (.func (Fn.func fc) #[] #[]) := by
    rw [← hW0]; have := Boxed.new ((w.alloc (Obj.cells #[Value.slice A0 a.length c0] 22)).alloc (Obj.cells #[Value.slice A1 b.length c1] 22)) 51 (.func (Fn.func fc) #[] #[]); simpa using this
  have hB0 : Below w.heap.size w W0 := by
    rw [← hW0]; exact (((Below.refl _ w).alloc (Nat.le_refl _) _).alloc (by simp) _).alloc (by simp; omega) _
  have hsz : W0.heap.size = w.heap.size + 3 := by rw [← hW0]; simp
  rw [hW0]
  clear hW0
  have cA : W0.drew.cell? ⟨w.heap.size, 0, none⟩ = some (.slice A0 a.length c0) := bA.cell
  have cB : W0.drew.cell? ⟨w.heap.size + 1, 0, none⟩ = some (.slice A1 b.length c1) := bB.cell
  have rA : Kd.C kR W0.drew A0 a.length a := Kd.C_below h0 (below_drew hB0)
  have rB : Kd.C kR W0.drew A1 b.length b := Kd.C_below h1 (below_drew hB0)
  have h15 : Fence.wide.fn 15 := trivial
  have hn1 := hna A0 c0 W0.drew rA hc0
  rename_i K1 hK2
  have rest : ∀ (W : World) (P1 P2 : Option Addr) (n1 q1 n2 q2 : Nat), Boxed W w.heap.size 22 (.slice P1 n1 q1) → Boxed W (w.heap.size + 1) 22 (.slice P2 n2 q2) → Boxed W (w.heap.size + 1 + 1) 51 (.func (Fn.func fc) #[] #[]) →
      W.ownsRow (w.heap.size + 3) TR 2 (.slice P1 n1 q1) na.length (na.flatMap encR) → W.ownsRow (w.heap.size + 3) TR 2 (.slice P2 n2 q2) nb.length (nb.flatMap encR) → Below w.heap.size w W → w.heap.size + 3 ≤ W.heap.size →
      K1 { tmps := #[.slice A0 a.length c0, .slice A1 b.length c1, .func (Fn.func fc) #[] #[], .pointer (some ⟨w.heap.size, 0, none⟩), .pointer (some ⟨w.heap.size + 1, 0, none⟩), .pointer (some ⟨w.heap.size + 1 + 1, 0, none⟩), .slice none 0 0, undef, undef,
        .slice A0 a.length c0, .slice P1 n1 q1, .slice A1 b.length c1, .slice P2 n2 q2, undef, undef, undef, undef, undef, undef, undef, undef, undef, undef, undef, undef, undef, undef, undef, undef, undef, undef, undef, undef], defers := [] } W := by
    intro W P1 P2 n1 q1 n2 q2 gA gB gF r1 r2 hB hW
    refine hK2 _ _ ?_
    clear hK2 cA cB rA rB hn1 h15 bA bB bF hB0 hsz
    have rowOf : ∀ (W' : World) (P n q) (l : List R), W'.ownsRow (w.heap.size + 3) TR 2 (.slice P n q) l.length (l.flatMap encR) → Row W' P l ∧ n = l.length ∧ (P = none → q = 0) ∧ l.length ≤ q := by
      intro W' P n q l h
      rcases h.2 with ⟨hv, hn⟩ | ⟨g, cap, cur, hv, hg, hh, hcap, hmax, hsz, htk⟩
      · cases hv
        exact ⟨.inl ⟨rfl, List.eq_nil_of_length_eq_zero hn⟩, hn.symm, fun _ => rfl, by omega⟩
      · cases hv
        refine ⟨.inr ⟨g, rfl, blk_lt hh, fun j u hj => ?_⟩, rfl, (fun h => nomatch h), hcap⟩
        have hj' := (List.getElem?_eq_some_iff.1 hj).1
        rw [← htk, List.getElem?_take_of_lt (by rw [flat_len] at hj'; exact hj'), Array.getElem?_toList] at hj
        simp only [World.cell?, hh]
        simpa using hj
    obtain ⟨R1, rfl, z1, _⟩ := rowOf W P1 n1 q1 na r1
    obtain ⟨R2, rfl, z2, _⟩ := rowOf W P2 n2 q2 nb r2
    have eA : (W.alloc (.cells #[.slice none 0 0] 22)).cell? ⟨w.heap.size, 0, none⟩ = some (.slice P1 na.length q1) := (gA.alloc _).cell
    have eB : (W.alloc (.cells #[.slice none 0 0] 22)).cell? ⟨w.heap.size + 1, 0, none⟩ = some (.slice P2 nb.length q2) := (gB.alloc _).cell
    have hbo := borders_calls P1 P2 q1 q2 na nb (W.alloc (.cells #[.slice none 0 0] 22)) hna1 hnb1 z2 (R1.below ((Below.refl _ _).alloc (Nat.le_refl _) _)) (R2.below ((Below.refl _ _).alloc (Nat.le_refl _) _))
    have h42 : Fence.wide.fn 42 := trivial
    gi_wp2_with (gi_at_call 42; refine (callsIn_wide.2 hbo).mono ?_; rintro e W1 ⟨rfl, hB1, vb, gV, rV⟩)
    rename_i hK
    have sz0 : (W.alloc (.cells #[.slice none 0 0] 22)).heap.size = W.heap.size + 1 := by simp
    rw [sz0] at gV rV
    have hszW : W.heap.size + 1 ≤ W1.heap.size := by have := hB1.size; rw [sz0] at this; exact this
    have alw : ∀ k t v, Boxed W k t v → Boxed W1 k t v := fun k t v h => (hB1.block k (by rw [sz0]; have := h.lt; omega)).trans (h.alloc (.cells #[.slice none 0 0] 22))
    have gO : Boxed W1 W.heap.size 22 (.slice none 0 0) := (hB1.block W.heap.size (by rw [sz0]; omega)).trans (Boxed.new W _ _)
    have hBW1 : Below w.heap.size w W1 := (hB.alloc hB.size _).trans (hB1.mono (by rw [sz0]; have := hB.size; omega))
    have rw1 : ∀ {e size n v xs}, W.ownsRow (w.heap.size + 3) e size v n xs → W1.ownsRow (w.heap.size + 3) e size v n xs := fun h =>
      row_turn (h.alloc (.cells #[.slice none 0 0] 22)) (Turn.below (L := 0) (T := fun _ => False) hB1) (fun _ _ h => h)
    obtain ⟨A3, c3, g3, cs3, rfl, hg3l, hg3n, hg3⟩ : ∃ A3 c3 g3 cs3, vb = .slice A3 (bds (na ++ nb)).length c3 ∧ g3 < W1.heap.size ∧ g3 ≠ W.heap.size ∧ (bds (na ++ nb) ≠ [] → A3 = some ⟨g3, 0, none⟩ ∧ W1.heap[g3]? = some (.cells cs3 TI (0, 0)) ∧ ∀ (j : Nat) x, (bds (na ++ nb))[j]? = some x → cs3[j]? = some (.int .i64 x)) := by
      rcases rV.2 with ⟨hv, hn⟩ | ⟨g, cap, cur, hv, hg, hh, hcap, hmax, hsz, htk⟩
      · exact ⟨none, 0, 0, #[], by rw [hv, hn], by omega, by omega, fun h => absurd (List.eq_nil_of_length_eq_zero hn) h⟩
      · refine ⟨_, cap, g, cur, hv, blk_lt hh, by omega, fun _ => ⟨rfl, hh, fun j x hj => ?_⟩⟩
        have hj' := (List.getElem?_eq_some_iff.1 hj).1
        have : (ints (bds (na ++ nb)))[j]? = some (.int .i64 x) := by unfold ints; rw [List.getElem?_map, hj]; rfl
        rw [← htk, List.getElem?_take_of_lt (by omega), Array.getElem?_toList] at this
        exact this
    have hblen : (bds (na ++ nb)).length ≤ 1000000000000 := by have := bds_len (na ++ nb); rw [List.length_append] at this; omega
    have hseq := gaps_stops 2 (W.heap.size + 1) g3 (by omega) A3 c3 (bds (na ++ nb)) cs3 w W1 hBW1 hblen gV hg3
    obtain ⟨keep, hkeep⟩ : ∃ keep : R → Bool, keep = fun x => st (Has.hasV na x.1) (Has.hasV nb x.1) := ⟨_, rfl⟩
    obtain ⟨i0, hi, hz0, hz1, hz2⟩ := info_parts infoR
    refine rangeG (gf := 57) (lb := #[.pointer (some ⟨W.heap.size + 1, 0, none⟩)]) rfl (enters_of Try.func57 (by kernel_rfl) rfl)
      hseq (fun k hk => hk.elim) keepL_t (keepL_b (by omega) (fun b hb => by have := gV.lt; simp at hb; rcases hb with rfl | rfl <;> omega)) (Turn.refl _ _ _) (fun _ => rfl)
      (fun pre X => (∃ v, Boxed X W.heap.size 22 v ∧ X.ownsRow W1.heap.size TR 2 v (pre.filter keep).length ((pre.filter keep).flatMap encR)) ∧ Boxed X w.heap.size 22 (.slice P1 na.length q1) ∧ Boxed X (w.heap.size + 1) 22 (.slice P2 nb.length q2) ∧ Boxed X (w.heap.size + 1 + 1) 51 (.func (Fn.func fc) #[] #[]) ∧
        X.ownsRow (w.heap.size + 3) TR 2 (.slice P1 na.length q1) na.length (na.flatMap encR) ∧ X.ownsRow (w.heap.size + 3) TR 2 (.slice P2 nb.length q2) nb.length (nb.flatMap encR) ∧ W1.heap.size ≤ X.heap.size ∧ Below w.heap.size w X)
      (fun c pre X => False)
      ?hI ?hIx ?h0
      (fun x a' X => ∃ Bx, W1.heap.size ≤ Bx ∧ X.heap[Bx]? = some (.cells #[.int .i64 x.1, .int .i64 x.2] 34 (0, 0)) ∧ a' = Act.mk (#[.slice A0 a.length c0, .slice A1 b.length c1, .func (.func fc) #[] #[], .pointer (some ⟨w.heap.size, 0, none⟩), .pointer (some ⟨w.heap.size + 1, 0, none⟩), .pointer (some ⟨w.heap.size + 1 + 1, 0, none⟩), .slice none 0 0, .pointer (some ⟨W.heap.size, 0, none⟩), .pointer (some ⟨Bx, 0, none⟩), .slice A0 a.length c0, .slice P1 na.length q1, .slice A1 b.length c1, .slice P2 nb.length q2, .slice P1 na.length q1, .slice P2 nb.length q2, .func (.func 57) #[] #[.pointer (some ⟨W.heap.size + 1, 0, none⟩)], .agg #[.int .i64 x.1, .int .i64 x.2], undef, undef, undef, undef, undef, undef, undef, undef, undef, undef, undef, undef, undef, undef, undef, undef]) []) ?hAx ?assign ?body ?done ?stop
    case hI =>
      rintro pre X X' ⟨⟨v, g1, g2⟩, g3', g4, g5, g6, g7, g8, g9⟩ ht
      exact ⟨⟨v, Boxed.turn g1 ht (fun h => h), row_turn g2 ht (fun _ _ h => h)⟩, Boxed.turn g3' ht (fun h => h), Boxed.turn g4 ht (fun h => h), Boxed.turn g5 ht (fun h => h), row_turn g6 ht (fun _ _ h => h), row_turn g7 ht (fun _ _ h => h), Nat.le_trans g8 ht.size, below_turn g9 ht (Nat.le_refl _) (by omega) (fun k hk => hk.elim)⟩
    case hIx => exact fun c s X X' h _ => h
    case h0 => exact ⟨⟨_, gO, World.ownsRow_nil _ _ _ _⟩, alw _ _ _ gA, alw _ _ _ gB, alw _ _ _ gF, rw1 r1, rw1 r2, Nat.le_refl _, hBW1⟩
    case hAx =>
      rintro x a' s X Y ⟨Bx, h1, h2, h3⟩ ht
      exact ⟨Bx, h1, cells_turn h2 ht (fun h => h), h3⟩
    case assign =>
      rintro l pre x X K ⟨⟨v, g1, g2⟩, g3', g4, g5, g6, g7, g8, g9⟩ hK2
      simp only [encG]
      gi_wp2
      refine hK2 _ _ ((KeepsOthers.alloc _ _).from _) (keepL_alloc (keepL_refl _ _ _) (by omega) _) ⟨⟨v, g1.alloc _, g2.alloc _⟩, g3'.alloc _, g4.alloc _, g5.alloc _, g6.alloc _, g7.alloc _, by simp; omega, g9.alloc (by omega) _⟩ ⟨X.heap.size, g8, blk_new _ _, rfl⟩
    case body =>
      rintro l pre x a' X hl hr ⟨⟨v, g1, g2⟩, g3', g4, g5, g6, g7, g8, g9⟩ ⟨Bx, hBx, hX, rfl⟩ hpre
      have hHeld : X.drew.cell? ⟨w.heap.size + 1 + 1, 0, none⟩ = some (.func (Fn.func fc) #[] #[]) ∧ X.drew.cell? ⟨w.heap.size, 0, none⟩ = some (.slice P1 na.length q1) ∧ X.drew.cell? ⟨w.heap.size + 1, 0, none⟩ = some (.slice P2 nb.length q2) ∧ X.drew.cell? ⟨Bx, 0, none⟩ = some (.int .i64 x.1) := ⟨g5.cell, g3'.cell, g4.cell, blk_cell hX 0⟩
      gi_wp2
      rename_i hK3
      refine wpIn_region_round (by kernel_rfl) (by kernel_rfl) (wpAny_of_last (S := fun X' => X'.cell? ⟨w.heap.size + 1 + 1, 0, none⟩ = some (.func (Fn.func fc) #[] #[]) ∧ X'.cell? ⟨w.heap.size, 0, none⟩ = some (.slice P1 na.length q1) ∧ X'.cell? ⟨w.heap.size + 1, 0, none⟩ = some (.slice P2 nb.length q2) ∧ X'.cell? ⟨Bx, 0, none⟩ = some (.int .i64 x.1)) (ds := []) _ _ _ _ ?_)
      change wpAnyLast _ _ _ _ _ _ _ _ _ (World.drew _)
      refine take_ (i := 0) (N := some 17) (v := ?_) (a' := ?_) #[true, false, false, false, false, false, false, false, false, false] rfl rfl (by kernel_rfl) (fun _ _ _ h => h) (Or.inl ⟨by rfl, ?_⟩) hHeld ?_ ?_
      rotate_left
      · rintro w' ⟨s0, s1, s2, s3⟩
        go_simp
        with_reducible rfl
      rotate_left
      · simp only [Act.put, List.setIfInBounds_toArray, List.set_cons_zero, List.set_cons_succ]
        rfl
      refine take_ (i := 1) (N := some 18) (v := ?_) (a' := ?_) #[true, true, false, false, false, false, false, false, false, false] rfl rfl (by kernel_rfl) (fun _ _ _ h => h) (Or.inl ⟨by rfl, ?_⟩) hHeld ?_ ?_
      rotate_left
      · rintro w' ⟨s0, s1, s2, s3⟩
        go_simp
        with_reducible rfl
      rotate_left
      · simp only [Act.put, List.setIfInBounds_toArray, List.set_cons_zero, List.set_cons_succ]
        rfl
      refine pure_ (i := 2) (N := some 19) (v := ?_) (a' := ?_) #[true, true, true, false, false, false, false, false, false, false] rfl rfl (by kernel_rfl) (fun _ _ _ h => h) (Or.inl ⟨by rfl, ?_⟩) ?_ ?_
      rotate_left
      · intro w'
        go_simp
        with_reducible rfl
      rotate_left
      · simp only [Act.put, List.setIfInBounds_toArray, List.set_cons_zero, List.set_cons_succ]
        rfl
      refine take_ (i := 3) (N := some 20) (v := ?_) (a' := ?_) #[true, true, true, true, false, false, false, false, false, false] rfl rfl (by kernel_rfl) (fun _ _ _ h => h) (Or.inl ⟨by rfl, ?_⟩) hHeld ?_ ?_
      rotate_left
      · rintro w' ⟨s0, s1, s2, s3⟩
        go_simp
        with_reducible rfl
      rotate_left
      · simp only [Act.put, List.setIfInBounds_toArray, List.set_cons_zero, List.set_cons_succ]
        rfl
      refine take_ (i := 5) (N := some 22) (v := ?_) (a' := ?_) #[true, true, true, true, false, true, false, false, false, false] rfl rfl (by kernel_rfl) (fun _ _ _ h => h) (Or.inl ⟨by rfl, ?_⟩) hHeld ?_ ?_
      rotate_left
      · rintro w' ⟨s0, s1, s2, s3⟩
        go_simp
        with_reducible rfl
      rotate_left
      · simp only [Act.put, List.setIfInBounds_toArray, List.set_cons_zero, List.set_cons_succ]
        rfl
      refine pure_ (i := 6) (N := some 23) (v := ?_) (a' := ?_) #[true, true, true, true, false, true, true, false, false, false] rfl rfl (by kernel_rfl) (fun _ _ _ h => h) (Or.inl ⟨by rfl, ?_⟩) ?_ ?_
      rotate_left
      · intro w'
        go_simp
        with_reducible rfl
      rotate_left
      · simp only [Act.put, List.setIfInBounds_toArray, List.set_cons_zero, List.set_cons_succ]
        rfl
      refine take_ (i := 7) (N := some 24) (v := ?_) (a' := ?_) #[true, true, true, true, false, true, true, true, false, false] rfl rfl (by kernel_rfl) (fun _ _ _ h => h) (Or.inl ⟨by rfl, ?_⟩) hHeld ?_ ?_
      rotate_left
      · rintro w' ⟨s0, s1, s2, s3⟩
        go_simp
        with_reducible rfl
      rotate_left
      · simp only [Act.put, List.setIfInBounds_toArray, List.set_cons_zero, List.set_cons_succ]
        rfl
      have q6 := (rowOf X P1 na.length q1 na g6).1
      have q7 := (rowOf X P2 nb.length q2 nb g7).1
      refine one_ (i := 4) (N := some 21) #[true, true, true, true, true, true, true, true, false, false] rfl rfl (by kernel_rfl) (by decide) (fun K hK => ?_)
      refine goes_ Try.func27 (by kernel_rfl) rfl #[.slice P1 na.length q1, .int .i64 x.1] (by rfl) rfl rfl (by first | rfl | (simp [Act.eval]; done) | (simp [go_sem]; done)) ?_
      refine (Has.has_calls P1 q1 na x.1 X.drew (row_C q6 (by omega)) (by omega) hra).mono ?_
      rintro e X1 ⟨rfl, hb1⟩
      refine ⟨_, rfl, ?_⟩
      have hX1 : X1.cell? ⟨w.heap.size + 1 + 1, 0, none⟩ = some (.func (Fn.func fc) #[] #[]) ∧ X1.cell? ⟨w.heap.size, 0, none⟩ = some (.slice P1 na.length q1) ∧ X1.cell? ⟨w.heap.size + 1, 0, none⟩ = some (.slice P2 nb.length q2) ∧ X1.cell? ⟨Bx, 0, none⟩ = some (.int .i64 x.1) :=
        ⟨(hb1.cell (p := ⟨w.heap.size + 1 + 1, 0, none⟩) g5.lt).trans g5.cell, (hb1.cell (p := ⟨w.heap.size, 0, none⟩) g3'.lt).trans g3'.cell, (hb1.cell (p := ⟨w.heap.size + 1, 0, none⟩) g4.lt).trans g4.cell, (hb1.cell (p := ⟨Bx, 0, none⟩) (blk_lt hX)).trans (blk_cell hX 0)⟩
      refine hK.out _ _ hX1 (fun hHeld1 => ?_)
      clear hK K
      have q7' : Row X.drew P2 nb := q7
      refine one_ (i := 8) (N := some 25) #[true, true, true, true, true, true, true, true, true, false] rfl rfl (by kernel_rfl) (by decide) (fun K hK => ?_)
      refine goes_ Try.func27 (by kernel_rfl) rfl #[.slice P2 nb.length q2, .int .i64 x.1] (by rfl) rfl rfl (by first | rfl | (simp [Act.eval]; done) | (simp [go_sem]; done)) ?_
      refine (Has.has_calls P2 q2 nb x.1 X1 (row_C (q7'.below hb1) (by omega)) (by omega) hrb).mono ?_
      rintro e X2 ⟨rfl, hb2⟩
      refine ⟨_, rfl, ?_⟩
      have hX2 : X2.cell? ⟨w.heap.size + 1 + 1, 0, none⟩ = some (.func (Fn.func fc) #[] #[]) ∧ X2.cell? ⟨w.heap.size, 0, none⟩ = some (.slice P1 na.length q1) ∧ X2.cell? ⟨w.heap.size + 1, 0, none⟩ = some (.slice P2 nb.length q2) ∧ X2.cell? ⟨Bx, 0, none⟩ = some (.int .i64 x.1) :=
        ⟨(hb2.cell (p := ⟨w.heap.size + 1 + 1, 0, none⟩) (Nat.lt_of_lt_of_le g5.lt hb1.size)).trans hX1.1, (hb2.cell (p := ⟨w.heap.size, 0, none⟩) (Nat.lt_of_lt_of_le g3'.lt hb1.size)).trans hX1.2.1, (hb2.cell (p := ⟨w.heap.size + 1, 0, none⟩) (Nat.lt_of_lt_of_le g4.lt hb1.size)).trans hX1.2.2.1, (hb2.cell (p := ⟨Bx, 0, none⟩) (Nat.lt_of_lt_of_le (blk_lt hX) hb1.size)).trans hX1.2.2.2⟩
      refine hK.out _ _ hX2 (fun hHeld2 => ?_)
      clear hK K
      refine one_ (i := 9) (N := some 26) #[true, true, true, true, true, true, true, true, true, true] rfl rfl (by kernel_rfl) (by decide) (fun K hK => ?_)
      refine call_ fc #[.bool (Has.hasV na x.1), .bool (Has.hasV nb x.1)] (by rfl) rfl ?hrun ?_
      case hrun =>
        unfold execOp
        simp [resolve, Deferred.ofValue, invoke, Act.eval, Act.put, hen]
      refine (hst _ _ X2).mono ?_
      rintro e X3 ⟨rfl, rfl⟩
      refine ⟨_, rfl, ?_⟩
      refine hK.out _ _ hX2 (fun hHeld3 => ?_)
      clear hK K
      refine done_ (by kernel_rfl) ?_
      refine hK3 _ _ ?_
      clear hK3
      simp only [Act.put, List.setIfInBounds_toArray, List.set_cons_zero, List.set_cons_succ]
      have hb3 : Below X.heap.size X X3 := (below_drew (Below.refl X.heap.size X)).trans (hb1.trans (hb2.mono hb1.size))
      have ht3 : ∀ L, Turn L (fun _ => False) X X3 := fun L => Turn.below hb3
      have k1 := Boxed.turn g1 (ht3 0) (fun h => h)
      have k2 := row_turn g2 (ht3 0) (fun _ _ h => h)
      have k3 := Boxed.turn g3' (ht3 0) (fun h => h)
      have k4 := Boxed.turn g4 (ht3 0) (fun h => h)
      have k5 := Boxed.turn g5 (ht3 0) (fun h => h)
      have k6 := row_turn g6 (ht3 0) (fun _ _ h => h)
      have k7 := row_turn g7 (ht3 0) (fun _ _ h => h)
      have k8 : W1.heap.size ≤ X3.heap.size := Nat.le_trans g8 hb3.size
      have k9 : Below w.heap.size w X3 := g9.trans (hb3.mono g9.size)
      have kX := cells_turn hX (ht3 0) (fun h => h)
      have kF : KeepsFrom W1.heap.size X X3 := ⟨hb3.size, fun k o _ hk _ => (hb3.block k (blk_lt hk)).trans hk⟩
      have kL : KeepL w.heap.size [W.heap.size + 1, g3] X X3 := keepL_below (keepL_refl _ _ _) g9.size hb3
      have hkx : keep x = st (Has.hasV na x.1) (Has.hasV nb x.1) := by rw [hkeep]
      have hfl : (pre.filter keep).length < 1000000000000 := by
        have h1 := List.length_filter_le keep pre
        have h2 := gaps_len (bds (na ++ nb))
        omega
      have rlt : ∀ (P : Option Addr) (n q : Nat) (l : List R), W.ownsRow (w.heap.size + 3) TR 2 (.slice P n q) l.length (l.flatMap encR) → ∀ k, (Value.slice P n q).ownBlock = some k → k < W.heap.size := by
        intro P n q l h k hk
        rcases h.2 with ⟨hv, hn⟩ | ⟨g, cap, cur, hv, hg, hh, _⟩
        · cases hv; simp [Value.ownBlock] at hk
        · cases hv
          obtain rfl : g = k := by simpa [Value.ownBlock] using hk
          exact blk_lt hh
      have rl1 := rlt P1 _ q1 na r1
      have rl2 := rlt P2 _ q2 nb r2
      generalize hbv : st (Has.hasV na x.1) (Has.hasV nb x.1) = bv at *
      clear hX1 hHeld1 hX2 hHeld2 hHeld3 hHeld hb1 hb2 q6 q7 q7' hst rlt
      cases bv with
      | false =>
        gi_wp2
        have e1 : (pre ++ [x]).filter keep = pre.filter keep := by rw [List.filter_append, List.filter_cons_of_neg (by rw [hkx]; simp)]; simp
        refine ⟨kF, kL, ⟨⟨v, k1, ?_⟩, k3, k4, k5, k6, k7, k8, k9⟩⟩
        rw [e1]
        exact k2
      | true =>
        have cv := k1.cell
        have x0 : X3.cell? ⟨Bx, 0, none⟩ = some (.int .i64 x.1) := blk_cell kX 0
        have x1 : X3.cell? ⟨Bx, 1, none⟩ = some (.int .i64 x.2) := blk_cell kX 1
        have hcells : ∀ (j : Nat) (u : Value), [Value.int .i64 x.1, .int .i64 x.2][j]? = some u → (X3.alloc (.cells #[.int .i64 x.1, .int .i64 x.2] 34)).cell? ((⟨X3.heap.size, 0, none⟩ : Addr).add j) = some u := by
          intro j u hj
          have h := blk_cell (blk_new X3 (.cells #[.int .i64 x.1, .int .i64 x.2] 34)) j
          rw [add_plain]
          rw [h, ← hj]
          simp
        have one : ∀ u ∈ [Value.int .i64 x.1, .int .i64 x.2], u.oneCell' = true := by
          intro u hu
          simp at hu
          rcases hu with rfl | rfl <;> rfl
        have HC := Lib.hid hcells
        have H1 := Lib.hid one
        clear hcells one
        have maxl : maxLen = 9223372036854775807 := rfl
        have HM := Lib.hid maxl
        clear maxl
        have HKX := Lib.hid hkx
        clear hkx hkeep hpre hX kX hnr hna hnb
        gi_wp2_with (gi_at_builtin; refine wpListIn_append_own _ rfl _ _ 22 rfl W1.heap.size 34 i0 (.agg #[.int .i64 0, .int .i64 0]) 2 16 Try.underlying22 hi hz0 hz1 hz2 rfl (by decide) _ _ _ rfl (k2.alloc _) ⟨X3.heap.size, 0, none⟩ 1 1 [.int .i64 x.1, .int .i64 x.2] rfl rfl HC.out H1.out (by have := HM.out; omega) (by omega) (by simp; omega) ?_; intro v' w1 hown' hgrow _; obtain ⟨g', cap', rfl⟩ := ownsRow_succ hown'; obtain ⟨hv1, hv2, hr2, hk2, hb2⟩ := append_step (n₀ := w.heap.size) (Ls := [W.heap.size + 1, g3]) k1 (by omega) k2 k8 hown' hgrow (by omega) (fun b hb => by have := gV.lt; simp at hb; omega); have hc1 := hv1.cell; have hf1 := hv1.frozen)
        have e1 : (pre ++ [x]).filter keep = pre.filter keep ++ [x] := by rw [List.filter_append, List.filter_cons_of_pos HKX.out]; simp
        obtain ⟨w2, hw2⟩ : ∃ w2, w1.setCell ⟨W.heap.size, 0, none⟩ (.slice (some ⟨g', 0, none⟩) ((pre.filter keep).length + 1) cap') = w2 := ⟨_, rfl⟩
        have ht4 : Turn w.heap.size (fun k => k = W.heap.size ∨ W1.heap.size ≤ k) X3 w2 := by
          rw [← hw2]
          exact ((Turn.alloc _).trans (Turn.grown hgrow (fun k hk => .inl (.inr (own_base k2 k hk))))).trans (Turn.setCell ⟨W.heap.size, 0, none⟩ _ (.inl rfl))
        have r6 := row_turn k6 ht4 (fun k hk e => by have := rl1 k hk; omega)
        have r7 := row_turn k7 ht4 (fun k hk e => by have := rl2 k hk; omega)
        have r8 := ht4.size
        have r9 := below_turn k9 ht4 (Nat.le_refl _) (Nat.le_refl _) (fun k hk => by omega)
        have r3 := Boxed.turn k3 ht4 (by omega)
        have r4 := Boxed.turn k4 ht4 (by omega)
        have r5 := Boxed.turn k5 ht4 (by omega)
        rw [hw2] at hv2 hr2 hk2 hb2 ⊢
        refine ⟨kF.trans hk2, keepL_t kL hb2, ⟨⟨_, hv2, ?_⟩, r3, r4, r5, r6, r7, Nat.le_trans k8 r8, r9⟩⟩
        rw [e1, List.flatMap_append, List.length_append]
        exact hr2
    case done =>
      rintro D ys X hD hS ⟨⟨v, g1, g2⟩, g3', g4, g5, g6, g7, g8, g9⟩ hK'
      have cv := g1.cell
      obtain ⟨P, n, q, rfl⟩ := own_slice g2
      have g2w : X.ownsRow (w.heap.size + 3) TR 2 (.slice P n q) (ys.filter keep).length ((ys.filter keep).flatMap encR) := own_weaken g2 (by omega)
      obtain ⟨RP, rfl, zP, hPq⟩ := rowOf X P n q (ys.filter keep) g2w
      have eys : ys.filter keep = (gaps (bds (na ++ nb))).filter fun x => st (Has.hasV na x.1) (Has.hasV nb x.1) := by rw [hS, hkeep]
      have hfl : (ys.filter keep).length ≤ 1000000000000 := by
        have h1 := List.length_filter_le keep ys
        have h2 := gaps_len (bds (na ++ nb))
        rw [hS] at h1
        rw [hS]
        omega
      rw [← eys] at hnr
      have hn3 := hnr P q X (row_C RP hfl) hPq
      have h15 : Fence.wide.fn 15 := trivial
      have hKD := blk_lt hK'
      clear hS eys hnr hna hnb hseq hkeep
      gi_wp2_with (gi_at_call 15; refine (callsIn_wide.2 hn3).mono ?_; rintro e w3 ⟨v3, rfl, hv3, hB3⟩)
      have hK3 := (hB3.block D hKD).trans hK'
      refine ⟨by simp, .inl ⟨_, _, rfl, run_takeDeferred hK3, ?_⟩⟩
      refine ⟨_, results_tmp rfl _ _ _, v3, rfl, ?_, (g9.trans (hB3.mono g9.size)).trans (belowK_b (w := w) (Nat.le_refl _) w3 D _ _ (by omega) hK3 rfl rfl)⟩
      exact own_weaken (ownsRow_putObj hv3 _ hK3 rfl) (by have := g9.size; omega)
    case stop => exact fun D c pre X hD hp h => h.elim
  clear hK2
  gi_region_with (first
    | (gi_at_call 15
       refine (callsIn_wide.2 hn1).mono ?_
       clear hn1
       rintro e w1 ⟨v1, rfl, hv1, hB1⟩
       obtain ⟨P1, n1, q1, rfl⟩ : ∃ P1 n1 q1, v1 = .slice P1 n1 q1 := own_slice hv1
       have hn2 := hnb A1 c1 w1 (Kd.C_below rB hB1) hc1
       have cB1 : w1.cell? ⟨w.heap.size + 1, 0, none⟩ = some (.slice A1 b.length c1) := (hB1.cell (p := ⟨w.heap.size + 1, 0, none⟩) bB.lt).trans cB)
    | (gi_at_call 15
       refine (callsIn_wide.2 hn2).mono ?_
       clear hn2
       rintro e w2 ⟨v2, rfl, hv2, hB2⟩
       obtain ⟨P2, n2, q2, rfl⟩ : ∃ P2 n2 q2, v2 = .slice P2 n2 q2 := own_slice hv2
       have bA2 : Boxed w2 w.heap.size 22 (.slice A0 a.length c0) := (hB2.block w.heap.size (Nat.lt_of_lt_of_le bA.lt hB1.size)).trans ((hB1.block w.heap.size bA.lt).trans bA)
       have bB2 : Boxed w2 (w.heap.size + 1) 22 (.slice A1 b.length c1) := (hB2.block (w.heap.size + 1) (Nat.lt_of_lt_of_le bB.lt hB1.size)).trans ((hB1.block (w.heap.size + 1) bB.lt).trans bB)
       have cA2 := bA2.cell
       have fA2 := bA2.frozen
       have cB2 := (bB2.other (B' := w.heap.size) (by omega) (.slice P1 n1 q1)).cell
       have fB2 := (bB2.other (B' := w.heap.size) (by omega) (.slice P1 n1 q1)).frozen))
  all_goals
    refine rest _ P1 P2 n1 q1 n2 q2 ((bA2.set _).other (by omega) _) ((bB2.other (by omega) _).set _) ?_ ?_ ?_ ?_ ?_
    · have bF2 : Boxed w2 (w.heap.size + 1 + 1) 51 (.func (Fn.func fc) #[] #[]) := (hB2.block _ (Nat.lt_of_lt_of_le bF.lt hB1.size)).trans ((hB1.block _ bF.lt).trans bF)
      exact (bF2.other (by omega) _).other (by omega) _
    · have g1 : w1.ownsRow (w.heap.size + 3) TR 2 (.slice P1 n1 q1) na.length (na.flatMap encR) := by rw [← hsz]; exact hv1
      have hb := fun k hk => own_base g1 k hk
      exact row_turn (row_turn (row_turn g1 (Turn.below (L := 0) (T := fun _ => False) hB2) (fun _ _ h => h)) (Turn.setCell (L := 0) (T := fun k => k = w.heap.size) ⟨w.heap.size, 0, none⟩ _ rfl) (fun k hk e => by have := hb k hk; omega)) (Turn.setCell (L := 0) (T := fun k => k = w.heap.size + 1) ⟨w.heap.size + 1, 0, none⟩ _ rfl) (fun k hk e => by have := hb k hk; omega)
    · have g2 : w2.ownsRow (w.heap.size + 3) TR 2 (.slice P2 n2 q2) nb.length (nb.flatMap encR) := own_weaken hv2 (by have := hB1.size; show _ ≤ w1.heap.size; exact Nat.le_trans (Nat.le_of_eq hsz.symm) this)
      have hb := fun k hk => own_base g2 k hk
      exact row_turn (row_turn g2 (Turn.setCell (L := 0) (T := fun k => k = w.heap.size) ⟨w.heap.size, 0, none⟩ _ rfl) (fun k hk e => by have := hb k hk; omega)) (Turn.setCell (L := 0) (T := fun k => k = w.heap.size + 1) ⟨w.heap.size + 1, 0, none⟩ _ rfl) (fun k hk e => by have := hb k hk; omega)
    · exact ((((below_drew hB0).trans (hB1.mono hB0.size)).trans (hB2.mono (Nat.le_trans hB0.size hB1.size))).setCell (p := ⟨w.heap.size, 0, none⟩) (Nat.le_refl _) _).setCell (p := ⟨w.heap.size + 1, 0, none⟩) (Nat.le_succ _) _
    · simp only [World.size_setCell]
      exact Nat.le_trans (Nat.le_of_eq hsz.symm) (Nat.le_trans hB1.size hB2.size)
end Go.Proofs.Ytebphbnkogianaa.Sift
