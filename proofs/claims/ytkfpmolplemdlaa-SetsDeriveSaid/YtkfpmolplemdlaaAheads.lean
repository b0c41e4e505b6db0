/- sets.Ahead walked: what items can begin with, as a rising row. Over productions whose symbols are there. -/
import Derived.Test.YtkfpmolplemdlaaSorts
namespace Go.Proofs.Ytkfpmolplemdlaa.Aheads
open Go Go.RowKit Go.Shelf Go.Maps Go.Sort Go.Proofs.YtkfpmolplemdlaaW.PrintWords Go.Proofs.YtkfpmolplemdlaaW.PrintLast Go.Proofs.Ytkfpmolplemdlaa.Round Go.Proofs.Ytkfpmolplemdlaa.RangeG Go.Proofs.Ytkfpmolplemdlaa.RangeH Go.Proofs.Ytkfpmolplemdlaa.Fl Go.Proofs.Ytkfpmolplemdlaa.Grow Go.Proofs.Ytkfpmolplemdlaa.Deri Go.Proofs.Ytkfpmolplemdlaa.Seqs Go.Proofs.Ytkfpmolplemdlaa.MSet Go.Proofs.Ytkfpmolplemdlaa.Ahd Go.Proofs.Ytkfpmolplemdlaa.Begin Go.Proofs.Ytkfpmolplemdlaa.Begun Go.Proofs.Ytkfpmolplemdlaa.Srt Go.Proofs.Ytkfpmolplemdlaa.Sorts
attribute [local go_sem] Oper.semAt_some
set_option linter.unusedVariables false
set_option linter.unusedSimpArgs false
theorem compact_upto (zs : List Int) (hs : zs.Pairwise (· ≤ ·)) : ∀ m, m ≤ zs.length → Rises (Lib.compactUpTo zs.toArray m) ∧ ∀ x, x ∈ Lib.compactUpTo zs.toArray m ↔ x ∈ zs.take m
  | 0, _ => by
    have : Lib.compactUpTo zs.toArray 0 = [] := rfl
    rw [this]
    exact ⟨List.Pairwise.nil, fun x => by simp⟩
  | m + 1, h => by
    obtain ⟨h1, h2⟩ := compact_upto zs hs m (by omega)
    have hg : ∀ (i : Nat) (hi : i < zs.length), zs.toArray[i]! = zs[i] := fun i hi => by simp [hi]
    have hle : ∀ (i j : Nat) (hi : i < zs.length) (hj : j < zs.length), i ≤ j → zs[i] ≤ zs[j] := fun i j hi hj hij => by
      rcases Nat.lt_or_ge i j with h | h
      · exact List.pairwise_iff_getElem.1 hs i j hi hj h
      · obtain rfl : i = j := by omega
        exact Int.le_refl _
    have ht : ∀ x, x ∈ zs.take (m + 1) ↔ x ∈ zs.take m ∨ x = zs[m] := fun x => by
      rw [List.take_add_one, List.getElem?_eq_getElem (show m < zs.length by omega), List.mem_append]
      simp only [Option.toList_some, List.mem_singleton]
    rw [Lib.compactUpTo_succ]
    by_cases hk : Lib.keeps zs.toArray m = true
    · rw [if_pos hk, hg m (by omega)]
      refine ⟨?_, fun x => by rw [ht, List.mem_append, h2, List.mem_singleton]⟩
      refine List.pairwise_append.2 ⟨h1, List.pairwise_singleton _ _, fun a ha b hb => ?_⟩
      rw [List.mem_singleton] at hb
      subst hb
      rw [h2] at ha
      obtain ⟨i, hi, rfl⟩ := List.mem_iff_getElem.1 ha
      rw [List.length_take] at hi
      rw [List.getElem_take]
      have h3 := hle i (m - 1) (by omega) (by omega) (by omega)
      have h4 := hle (m - 1) m (by omega) (by omega) (by omega)
      have h5 : zs[m] ≠ zs[m - 1] := by
        have := hk
        simp only [Lib.keeps, Bool.or_eq_true, decide_eq_true_eq, beq_iff_eq, bne_iff_ne] at this
        rcases this with h | h
        · omega
        · rwa [hg m (by omega), hg (m - 1) (by omega)] at h
      omega
    · rw [if_neg hk, List.append_nil]
      refine ⟨h1, fun x => ?_⟩
      rw [ht, h2]
      refine ⟨.inl, fun h => h.elim id fun h => ?_⟩
      subst h
      have hm : 0 < m := by
        rcases Nat.eq_zero_or_pos m with rfl | h
        · exact absurd (Lib.keeps_lt_one _ 0 (by omega)) hk
        · exact h
      have h5 : zs[m] = zs[m - 1] := by
        apply Decidable.byContradiction
        intro hne
        exact hk (Lib.keeps_pos (by rw [hg m (by omega), hg (m - 1) (by omega)]; exact hne))
      rw [h5]
      exact List.mem_iff_getElem.2 ⟨m - 1, by rw [List.length_take]; omega, by rw [List.getElem_take]⟩
theorem sorted_le (l : List Int) : (Srt.sorted l).Pairwise (· ≤ ·) := by
  have hs : (Srt.sorted l).Pairwise fun x y => decide (x ≤ y) = true := List.pairwise_mergeSort (by intro a b c h1 h2; simp at *; omega) (by intro a b; simp; omega) _
  exact hs.imp (fun h => by simpa using h)
theorem ahV_rises (N : Nat) (em : List Bool) (Ss : List (List Int)) (B : List Int) (hS : ∀ S ∈ Ss, Rises S) (hB : Rises B) : ∀ l : List I, Rises (ahV N em Ss l B)
  | [] => hB
  | i :: t => by
    have hg : Rises (Ss.getD i.1.toNat []) := by
      rw [List.getD_eq_getElem?_getD]
      cases e : Ss[i.1.toNat]? with
      | none => exact List.Pairwise.nil
      | some S => exact hS S (List.mem_of_getElem? e)
    simp only [ahV]
    split
    · split
      · exact unionV_rises _ (ahV_rises N em Ss B hS hB t)
      · exact hg
    · exact ahV_rises N em Ss B hS hB t
theorem AhM_congr (N : Nat) (em : List Bool) (Ss : List (List Int)) (x : Int) {B B' : Int → Prop} (h : ∀ y, B y ↔ B' y) : ∀ l : List I, AhM N em Ss l B x ↔ AhM N em Ss l B' x
  | [] => h x
  | i :: t => by
    simp only [AhM]
    split
    · rw [AhM_congr N em Ss x h t]
    · exact AhM_congr N em Ss x h t
theorem compact_eq {l T : List Int} (hT : Rises T) (h : ∀ x, x ∈ l ↔ x ∈ T) : Lib.compact (Srt.sorted l) = T := by
  obtain ⟨h1, h2⟩ := compact_upto _ (sorted_le l) _ (Nat.le_refl _)
  refine rises_one h1 hT (fun x => ?_)
  show x ∈ Lib.compactUpTo _ _ ↔ _
  rw [h2, List.take_length]
  exact (List.mergeSort_perm l _).mem_iff.trans (h x)
set_option maxRecDepth 100000 in
set_option maxHeartbeats 4000000 in
theorem aheads_calls (w : World) (A0 A1 A2 : Option Addr) (n0 n1 c0 c1 c2 N : Nat) (hNe : n0 + n1 = N) (hN1 : 1 ≤ N) (ps : List P) (hC : Kd.C kP w A2 ps.length ps) (hN : N ≤ 1000000) (hps : ∀ p ∈ ps, PrOk N p ∧ p.2.1.length ≤ 1000) (k0 : Nat) (em : List Bool) (hem : growV stepD ps k0 (List.replicate N false) = some em) (k1 : Nat) (Ss : List (List Int)) (hSs : growV (stepF N em) ps k1 (initV N n0) = some Ss)
    (Al : Option Addr) (cl : Nat) (l : List I) (hCl : Kd.C kI w Al l.length l) (hll : l.length ≤ 1000) (Ab : Option Addr) (cb : Nat) (xs : List I64) (hxl : xs.length ≤ 1000) (hRb : RowI w Ab xs) :
    Calls Try.prog 23 #[.agg #[.slice A0 n0 c0, .slice A1 n1 c1, .slice A2 ps.length c2], .slice Al l.length cl, .slice Ab xs.length cb] w fun e w' => ∃ v, e = .returned v ∧ Kd.R (Kd.int .i64) TI w' w.heap.size (fun _ => True) v (ahV N em Ss l (unionV [] (vals xs))) ∧ Below w.heap.size w w' := by
  obtain ⟨W0, hW0⟩ : ∃ W0, w.alloc (.cells #[.slice A0 n0 c0, .slice A1 n1 c1, .slice A2 ps.length c2] TF) = W0 := ⟨_, rfl⟩
  have hB0 : Below w.heap.size w W0 := by rw [← hW0]; exact (Below.refl _ _).alloc (Nat.le_refl _) _
  have f0 : W0.heap[w.heap.size]? = some (.cells #[.slice A0 n0 c0, .slice A1 n1 c1, .slice A2 ps.length c2] TF (0, 0)) := by rw [← hW0]; exact blk_new w _
  have cf0 : W0.cell? ⟨w.heap.size, 0, none⟩ = some (.slice A0 n0 c0) := blk_cell f0 0
  have cf1 : W0.cell? ⟨w.heap.size, 1, none⟩ = some (.slice A1 n1 c1) := blk_cell f0 1
  have cf2 : W0.cell? ⟨w.heap.size, 2, none⟩ = some (.slice A2 ps.length c2) := blk_cell f0 2
  have hbg := begin_calls W0 A0 A1 A2 n0 n1 c0 c1 c2 N hNe hN1 ps (Kd.C_below hC hB0) hN hps k0 k0 em hem k1 Ss hSs
  have hiv := fun W => ivals_calls Ab xs.length cb W
  clear hSs hem f0 hps hC
  have rest : ∀ (G : Geo) (W1 : World), G.N = N → Fs G em Ss W1 → Bd Ss → Below W0.heap.size W0 W1 → ∀ W2, W1.alloc (.cells #[.slice Ab xs.length cb] 26) = W2 → ∀ W3, ((W2.alloc (.cells #[.pointer (some ⟨G.X, 0, none⟩)] 56)).alloc (.cells #[.slice Al l.length cl] 38)).alloc (.cells #[.func (.func 57) #[] #[.pointer (some ⟨W1.heap.size, 0, none⟩)]] 66) = W3 →
      Below w.heap.size w W3 ∧ Calls Try.prog 43 #[.func (.func 54) #[] #[.pointer (some ⟨W2.heap.size + 1, 0, none⟩), .pointer (some ⟨W2.heap.size, 0, none⟩), .pointer (some ⟨W2.heap.size + 1 + 1, 0, none⟩)]] W3 fun e w' => ∃ v ys, e = .returned v ∧ (∀ x, x ∈ vals ys ↔ AhM N em Ss l (· ∈ vals xs) x) ∧ w'.ownsRow W3.heap.size TI 1 v (Srt.sorted (vals ys)).length (Srt.nums (Srt.sorted (vals ys))) ∧ Below W3.heap.size W3 w' := by
    intro G W1 hGN hF hBd hB1 W2 hW2 W3 hW3
    have hB01 := hB0.trans (hB1.mono hB0.size)
    have hB12 : Below W1.heap.size W1 W2 := by rw [← hW2]; exact (Below.refl _ _).alloc (Nat.le_refl _) _
    have hB23 : Below W2.heap.size W2 W3 := by rw [← hW3]; exact (((Below.refl _ _).alloc (Nat.le_refl _) _).alloc (by simp) _).alloc (by simp; omega) _
    have hB13 := hB12.trans (hB23.mono hB12.size)
    have hB03 := hB01.trans (hB13.mono hB01.size)
    have e1 : Boxed W3 (W2.heap.size + 1) 38 (.slice Al l.length cl) := by
      rw [← hW3]
      have := (Boxed.new (W2.alloc (.cells #[.pointer (some ⟨G.X, 0, none⟩)] 56)) 38 (.slice Al l.length cl)).alloc (.cells #[.func (.func 57) #[] #[.pointer (some ⟨W1.heap.size, 0, none⟩)]] 66)
      simpa using this
    have e2 : Boxed W3 W2.heap.size 56 (.pointer (some ⟨G.X, 0, none⟩)) := by rw [← hW3]; exact ((Boxed.new _ _ _).alloc _).alloc _
    have e3 : Boxed W3 (W2.heap.size + 1 + 1) 66 (.func (.func 57) #[] #[.pointer (some ⟨W1.heap.size, 0, none⟩)]) := by
      rw [← hW3]
      have := Boxed.new ((W2.alloc (.cells #[.pointer (some ⟨G.X, 0, none⟩)] 56)).alloc (.cells #[.slice Al l.length cl] 38)) 66 (.func (.func 57) #[] #[.pointer (some ⟨W1.heap.size, 0, none⟩)])
      simpa using this
    have hb3 : W3.heap[W1.heap.size]? = some (.cells #[.slice Ab xs.length cb] 26 (0, 0)) := blk_below (by rw [← hW2]; exact blk_new _ _) hB23
    have hseq : SeqH 1 Try.prog 57 #[.pointer (some ⟨W1.heap.size, 0, none⟩)] encX (KeepH W3.heap.size) (fun ys => ∀ x, x ∈ vals ys ↔ x ∈ vals xs) (fun _ => True) xs.length W3 :=
      SeqH.of (ivals_stops 1 W1.heap.size (by omega) Ab cb xs W3 W3 (by omega) (hRb.below hB03) (Below.refl _ _) hb3) (fun l A B h => h.1.1) (fun ys h => by subst h; exact fun x => Iff.rfl) (fun _ _ => trivial)
    have hah := ahead_stops G em Ss W3 w Al cl l (W2.heap.size + 1) W2.heap.size (W2.heap.size + 1 + 1) 57 #[.pointer (some ⟨W1.heap.size, 0, none⟩)] (enters_of Try.func57 (by kernel_rfl) rfl) (hF.below hB13) (bd_len hBd (fs_rises hF)) hCl hB03 e1 e2 e3 (· ∈ vals xs) (fun _ => True) xs.length hseq
    rw [hGN] at hah
    refine ⟨hB03, (sortedf_calls 54 _ (enters_of Try.func54 (by kernel_rfl) rfl) W3 _ _ _ (by omega) hah).mono ?_⟩
    rintro e w' ⟨v, ys, h1, h2, h3, h4, h5⟩
    exact ⟨v, ys, h1, h2, h4, h5⟩
  have hr : ∀ (G : Geo) (W1 : World), Fs G em Ss W1 → ∀ l : List I, Rises (ahV N em Ss l (unionV [] (vals xs))) := fun G W1 hF l => ahV_rises N em Ss _ (fs_rises hF) (unionV_rises _ List.Pairwise.nil) l
  go_enter Try.func23, Try.ntmps23
  go_wp2_with (first
    | (go_at_call 30; refine hbg.mono ?_; rintro e W1 ⟨G, rfl, hGN, hF, hBd, hB1⟩; have hT := hr G W1 hF l; have hrest := rest G W1 hGN hF hBd hB1; clear hF hBd hbg rest hr)
    | (go_at_call 40; refine (hiv _).mono ?_; rintro e W2 ⟨rfl, hW2⟩; have hrest2 := hrest W2 hW2; clear hrest hW2)
    | (go_at_call 37; refine (ahead_calls G.X Al l.length cl 57 _ W2).mono ?_; rintro e W3 ⟨rfl, hW3⟩; obtain ⟨hB03, hs⟩ := hrest2 W3 hW3; clear hrest2 hW3)
    | (go_at_call 43; refine hs.mono ?_; rintro e W4 ⟨v4, ys, rfl, h1, h2, h3⟩; have hcp := compact_own W3.heap.size v4 _ W4 h2)
    | (go_at_call 44; refine hcp.mono ?_; rintro e W5 ⟨v5, rfl, h4, h5, _⟩))
  go_ret
  rw [compact_eq hT (fun x => by rw [h1 x, ahV_mem]; exact (AhM_congr N em Ss x (fun y => by rw [unionV_mem]; simp) l))] at h4
  exact ⟨_, rfl, Kd.R_lower (own_R h4) hB03.size, (hB03.trans (h3.mono hB03.size)).grown h5 (by have := hB03.size; have := h3.size; omega) (fun k hk => by have := own_base h2 k hk; have := hB03.size; omega)⟩
end Go.Proofs.Ytkfpmolplemdlaa.Aheads
