/- The reference's ahead walked. Over productions whose symbols are there. -/
import Derived.Test.YtkfpmolplemdlaaRFirst
namespace Go.Proofs.Ytkfpmolplemdlaa.RAhead
open Go Go.RowKit Go.Shelf Go.Maps Go.Sort Go.Proofs.YtkfpmolplemdlaaW.PrintWords Go.Proofs.YtkfpmolplemdlaaW.PrintLast Go.Proofs.Ytkfpmolplemdlaa.Round Go.Proofs.Ytkfpmolplemdlaa.RangeG Go.Proofs.Ytkfpmolplemdlaa.RangeH Go.Proofs.Ytkfpmolplemdlaa.Fl Go.Proofs.Ytkfpmolplemdlaa.Grow Go.Proofs.Ytkfpmolplemdlaa.Deri Go.Proofs.Ytkfpmolplemdlaa.Seqs Go.Proofs.Ytkfpmolplemdlaa.MSet Go.Proofs.Ytkfpmolplemdlaa.Ahd Go.Proofs.Ytkfpmolplemdlaa.Begin Go.Proofs.Ytkfpmolplemdlaa.Begun Go.Proofs.Ytkfpmolplemdlaa.Sorts Go.Proofs.Ytkfpmolplemdlaa.Aheads Go.Proofs.Ytkfpmolplemdlaa.Refs Go.Proofs.Ytkfpmolplemdlaa.RRow Go.Proofs.Ytkfpmolplemdlaa.RFirst
attribute [local go_sem] Oper.semAt_some
set_option linter.unusedVariables false
set_option linter.unusedSimpArgs false
/-- What items can begin with, as the reference goes it. -/
def ahR (N : Nat) (em : List Bool) (FS : List (List Int)) : List I → List Int → List Int → List Int
  | [], T, B => unionV T B
  | i :: t, T, B => if 0 ≤ i.1 ∧ i.1 < N then (if at_ em i.1 = true then ahR N em FS t (unionV T (FS.getD i.1.toNat [])) B else unionV T (FS.getD i.1.toNat [])) else ahR N em FS t T B
theorem ahR_rises {N : Nat} {em : List Bool} {FS : List (List Int)} {B : List Int} : ∀ (l : List I) (T : List Int), Rises T → Rises (ahR N em FS l T B)
  | [], T, h => unionV_rises _ h
  | i :: t, T, h => by
    simp only [ahR]
    split
    · split
      · exact ahR_rises t _ (unionV_rises _ h)
      · exact unionV_rises _ h
    · exact ahR_rises t T h
theorem ahR_mem {N : Nat} {em : List Bool} {FS : List (List Int)} {B : List Int} (x : Int) : ∀ (l : List I) (T : List Int), x ∈ ahR N em FS l T B ↔ x ∈ T ∨ AhM N em FS l (· ∈ B) x
  | [], T => by simp only [ahR, AhM]; rw [unionV_mem]; exact Or.comm
  | i :: t, T => by
    simp only [ahR, AhM]
    split
    · split
      · rename_i h
        rw [ahR_mem x t, unionV_mem]
        simp only [h, true_and]
        constructor
        · rintro ((h | h) | h)
          · exact .inr (.inl h)
          · exact .inl h
          · exact .inr (.inr h)
        · rintro (h | h | h)
          · exact .inl (.inr h)
          · exact .inl (.inl h)
          · exact .inr h
      · rename_i h
        rw [unionV_mem]
        simp only [h, Bool.false_eq_true, false_and, or_false]
        exact Or.comm
    · exact ahR_mem x t T
theorem ahR_eq {N : Nat} {em : List Bool} {FS : List (List Int)} {B : List Int} (l : List I) (hS : ∀ S ∈ FS, Rises S) : ahR N em FS l [] B = ahV N em FS l (unionV [] B) := by
  refine rises_one (ahR_rises l _ List.Pairwise.nil) (ahV_rises N em FS _ hS (unionV_rises _ List.Pairwise.nil) l) (fun x => ?_)
  rw [ahR_mem, ahV_mem, AhM_congr N em FS x (B' := (· ∈ unionV [] B)) (fun y => by rw [unionV_mem]; simp) l]
  simp
theorem atL {w : World} {A : Option Addr} {n : Nat} {xs : List (List Int)} (h : Kd.C kL w A n xs) (k : Nat) (hk : k < n) :
    ∃ ad A1 c1, A = some ad ∧ w.cell? (ad.add k) = some (.slice A1 (xs.getD k []).length c1) ∧ (xs.getD k []).length ≤ c1 ∧ Kd.C (Kd.int .i64) w A1 (xs.getD k []).length (xs.getD k []) := by
  obtain ⟨h1, h2, h3⟩ := h
  obtain ⟨ad, e, hc⟩ := h3 (by omega)
  have hk' : k < xs.length := by omega
  have e2 : xs.getD k [] = xs[k] := by rw [List.getD_eq_getElem?_getD, List.getElem?_eq_getElem hk']; rfl
  obtain ⟨c, hl, ⟨A1, c1, rfl, hl1, hC1⟩, hcell⟩ := hc k _ (List.getElem?_eq_getElem hk')
  have hc0 := hcell 0 _ rfl
  have e3 : k * kL.sz + 0 = k := Nat.mul_one k
  rw [e3] at hc0
  rw [e2]
  exact ⟨ad, A1, c1, e, hc0, hl1, hC1⟩
set_option maxRecDepth 100000 in
set_option maxHeartbeats 4000000 in
theorem rahead_calls (w : World) (A0 A1 A2 : Option Addr) (n0 n1 n2 c0 c1 c2 N : Nat) (hNe : n0 + n1 = N) (hN : N ≤ 1000000) (Al : Option Addr) (cl : Nat) (l : List I) (hCl : Kd.C kI w Al l.length l) (Ab : Option Addr) (cb : Nat) (B : List Int) (hCb : Kd.C (Kd.int .i64) w Ab B.length B) (hBl : B.length ≤ 900000000)
    (Af : Option Addr) (cf : Nat) (FS : List (List Int)) (hCf : Kd.C kL w Af N FS) (hI : Inv N FS) (Ae : Option Addr) (ce : Nat) (em : List Bool) (hCe : Kd.C Kd.bool w Ae N em) :
    Calls Try.prog 42 #[.agg #[.slice A0 n0 c0, .slice A1 n1 c1, .slice A2 n2 c2], .slice Al l.length cl, .slice Ab B.length cb, .slice Af N cf, .slice Ae N ce] w fun e w' => ∃ v, e = .returned v ∧ Kd.R (Kd.int .i64) TI w' w.heap.size (fun _ => True) v (ahR N em FS l [] B) ∧ Below w.heap.size w w' := by
  obtain ⟨W0, hW0⟩ : ∃ W0, w.alloc (.cells #[.slice A0 n0 c0, .slice A1 n1 c1, .slice A2 n2 c2] TF) = W0 := ⟨_, rfl⟩
  have hB0 : Below w.heap.size w W0 := by rw [← hW0]; exact (Below.refl _ _).alloc (Nat.le_refl _) _
  have f0 : W0.heap[w.heap.size]? = some (.cells #[.slice A0 n0 c0, .slice A1 n1 c1, .slice A2 n2 c2] TF (0, 0)) := by rw [← hW0]; exact blk_new w _
  have hs := fun W => rsize_calls A0 A1 A2 n0 n1 n2 c0 c1 c2 W (by rw [hNe]; exact hN)
  rw [hNe] at hs
  have F0 := Lib.hid f0
  have HI := Lib.hid hI
  have hll : l.length ≤ 9223372036854775807 := hCl.2.1
  have hel : em.length = N := hCe.1
  have HEL := Lib.hid hel
  clear f0 hI hNe hel
  go_enter Try.func42, Try.ntmps42
  go_wp2
  go_loopw [11, 12] (fun acc i wr => ∃ (j : Nat) (T : List Int), i = .int .i64 (j : Int) ∧ j ≤ l.length ∧ Hid (ahR N em FS (l.drop j) T B = ahR N em FS l [] B) ∧ Kd.R (Kd.int .i64) TI wr w.heap.size (fun _ => True) acc T ∧ Hid (Rises T ∧ ∀ x ∈ T, 0 ≤ x ∧ x < 1000000) ∧ Hid (wr.heap[w.heap.size]? = some (.cells #[.slice A0 n0 c0, .slice A1 n1 c1, .slice A2 n2 c2] TF (0, 0))) ∧ Below w.heap.size w wr) (fun _ i _ => l.length - (Go.RowKit.intOf i).toNat)
  case atStart => exact ⟨0, [], rfl, Nat.zero_le _, Lib.hid rfl, Kd.R_nil _ _ _ _ _, Lib.hid ⟨List.Pairwise.nil, fun _ h => nomatch h⟩, F0, hB0⟩
  case round =>
    clear F0
    obtain ⟨j, T, rfl, hj, HK, hRT, HT, F0, hb⟩ := hrel
    obtain ⟨AT, cT, rfl, hlT, hCT⟩ := Kd.R_reads hRT
    have hTl : T.length ≤ 1000000 := by
      have := rises_len 0 HT.out.1 HT.out.2 (by omega)
      omega
    by_cases hlt : j < l.length
    · obtain ⟨ad, x, rfl, hx, i0', _, _⟩ := atI hCl j hlt
      have i0 := pw_cell_below hb i0'
      have f0 : wr.cell? ⟨w.heap.size, 0, none⟩ = some (.slice A0 n0 c0) := blk_cell F0.out 0
      have f1 : wr.cell? ⟨w.heap.size, 1, none⟩ = some (.slice A1 n1 c1) := blk_cell F0.out 1
      have f2 : wr.cell? ⟨w.heap.size, 2, none⟩ = some (.slice A2 n2 c2) := blk_cell F0.out 2
      have hdx : l.drop j = x :: l.drop (j + 1) := by
        rw [List.drop_eq_getElem_cons hlt]
        congr 1
        exact (List.getElem?_eq_some_iff.1 hx).2
      rw [hdx] at HK
      clear hdx hx
      have keep : ∀ X Y : World, Below X.heap.size X Y → (fun X => X.cell? (ad.add (j * 3)) = some (.int .i64 x.1) ∧ X.cell? ⟨w.heap.size, 0, none⟩ = some (.slice A0 n0 c0) ∧ X.cell? ⟨w.heap.size, 1, none⟩ = some (.slice A1 n1 c1) ∧ X.cell? ⟨w.heap.size, 2, none⟩ = some (.slice A2 n2 c2)) X → (fun X => X.cell? (ad.add (j * 3)) = some (.int .i64 x.1) ∧ X.cell? ⟨w.heap.size, 0, none⟩ = some (.slice A0 n0 c0) ∧ X.cell? ⟨w.heap.size, 1, none⟩ = some (.slice A1 n1 c1) ∧ X.cell? ⟨w.heap.size, 2, none⟩ = some (.slice A2 n2 c2)) Y := fun X Y h hh => ⟨pw_cell_below h hh.1, pw_cell_below h hh.2.1, pw_cell_below h hh.2.2.1, pw_cell_below h hh.2.2.2⟩
      have hHeld : (fun X => X.cell? (ad.add (j * 3)) = some (.int .i64 x.1) ∧ X.cell? ⟨w.heap.size, 0, none⟩ = some (.slice A0 n0 c0) ∧ X.cell? ⟨w.heap.size, 1, none⟩ = some (.slice A1 n1 c1) ∧ X.cell? ⟨w.heap.size, 2, none⟩ = some (.slice A2 n2 c2)) wr.drew := ⟨i0, f0, f1, f2⟩
      by_cases hneg : x.1 < 0
      · have HK' : Hid (ahR N em FS (l.drop (j + 1)) T B = ahR N em FS l [] B) := by
          have h := HK.out
          simp only [ahR] at h
          rw [if_neg (by omega)] at h
          exact Lib.hid h
        have hdn : decide (x.1 < 0) = true := by simpa using hneg
        clear HK
        go_wp2
        rename_i K6 hK6
        refine wp_qz (start_ (S := (fun X => X.cell? (ad.add (j * 3)) = some (.int .i64 x.1) ∧ X.cell? ⟨w.heap.size, 0, none⟩ = some (.slice A0 n0 c0) ∧ X.cell? ⟨w.heap.size, 1, none⟩ = some (.slice A1 n1 c1) ∧ X.cell? ⟨w.heap.size, 2, none⟩ = some (.slice A2 n2 c2))) (ds := []) #[false, false, false, false, false, false, false, false, false, false, false, false, false, false, false, false] (by kernel_rfl) rfl rfl hHeld (fun h0_ => ?_))
        clear h0_
        refine pure_ (i := 0) (N := some 19) (v := ?_) (a' := ?_) #[true, false, false, false, false, false, false, false, false, false, false, false, false, false, false, false] rfl rfl (by kernel_rfl) (fun _ _ _ h => h) (Or.inl ⟨by rfl, ?_⟩) ?_ ?_
        rotate_left
        · intro w'
          go_simp
          with_reducible rfl
        rotate_left
        · simp only [Act.put, List.setIfInBounds_toArray, List.set_cons_zero, List.set_cons_succ]
          rfl
        refine pure_ (i := 1) (N := some 20) (v := ?_) (a' := ?_) #[true, true, false, false, false, false, false, false, false, false, false, false, false, false, false, false] rfl rfl (by kernel_rfl) (fun _ _ _ h => h) (Or.inl ⟨by rfl, ?_⟩) ?_ ?_
        rotate_left
        · intro w'
          go_simp
          with_reducible rfl
        rotate_left
        · simp only [Act.put, List.setIfInBounds_toArray, List.set_cons_zero, List.set_cons_succ]
          rfl
        refine pure_ (i := 2) (N := some 21) (v := ?_) (a' := ?_) #[true, true, true, false, false, false, false, false, false, false, false, false, false, false, false, false] rfl rfl (by kernel_rfl) (fun _ _ _ h => h) (Or.inl ⟨by rfl, ?_⟩) ?_ ?_
        rotate_left
        · intro w'
          go_simp
          with_reducible rfl
        rotate_left
        · simp only [Act.put, List.setIfInBounds_toArray, List.set_cons_zero, List.set_cons_succ]
          rfl
        refine pure_ (i := 3) (N := some 22) (v := ?_) (a' := ?_) #[true, true, true, true, false, false, false, false, false, false, false, false, false, false, false, false] rfl rfl (by kernel_rfl) (fun _ _ _ h => h) (Or.inl ⟨by rfl, ?_⟩) ?_ ?_
        rotate_left
        · intro w'
          go_simp
          with_reducible rfl
        rotate_left
        · simp only [Act.put, List.setIfInBounds_toArray, List.set_cons_zero, List.set_cons_succ]
          rfl
        refine take_ (i := 4) (N := some 23) (v := ?_) (a' := ?_) #[true, true, true, true, true, false, false, false, false, false, false, false, false, false, false, false] rfl rfl (by kernel_rfl) (fun _ _ _ h => h) (Or.inl ⟨by rfl, ?_⟩) hHeld ?_ ?_
        rotate_left
        · rintro w' ⟨s0, s1, s2, s3⟩
          go_simp
          with_reducible rfl
        rotate_left
        · simp only [Act.put, List.setIfInBounds_toArray, List.set_cons_zero, List.set_cons_succ]
          rfl
        refine pure_ (i := 5) (N := some 24) (v := ?_) (a' := ?_) #[true, true, true, true, true, true, false, false, false, false, false, false, false, false, false, false] rfl rfl (by kernel_rfl) (fun _ _ _ h => h) (Or.inl ⟨by rfl, ?_⟩) ?_ ?_
        rotate_left
        · intro w'
          go_simp
          with_reducible rfl
        rotate_left
        · simp only [Act.put, List.setIfInBounds_toArray, List.set_cons_zero, List.set_cons_succ]
          rfl
        refine pure_ (i := 6) (N := some 25) (v := ?_) (a' := ?_) #[true, true, true, true, true, true, true, false, false, false, false, false, false, false, false, false] rfl rfl (by kernel_rfl) (fun _ _ _ h => h) (Or.inl ⟨by rfl, ?_⟩) ?_ ?_
        rotate_left
        · intro w'
          go_simp
          with_reducible rfl
        rotate_left
        · simp only [Act.put, List.setIfInBounds_toArray, List.set_cons_zero, List.set_cons_succ]
          rfl
        refine pure_ (i := 7) (N := some 26) (v := undef) (a' := ?_) #[true, true, true, true, true, true, true, true, false, false, false, false, false, false, false, false] rfl rfl (by kernel_rfl) (fun _ _ _ h => h) (Or.inr ⟨by rfl, rfl⟩) ?_ ?_
        rotate_left
        · simp only [Act.put, List.setIfInBounds_toArray, List.set_cons_zero, List.set_cons_succ]
          rfl
        refine pure_ (i := 8) (N := some 27) (v := undef) (a' := ?_) #[true, true, true, true, true, true, true, true, true, false, false, false, false, false, false, false] rfl rfl (by kernel_rfl) (fun _ _ _ h => h) (Or.inr ⟨by rfl, rfl⟩) ?_ ?_
        rotate_left
        · simp only [Act.put, List.setIfInBounds_toArray, List.set_cons_zero, List.set_cons_succ]
          rfl
        refine pure_ (i := 9) (N := some 28) (v := undef) (a' := ?_) #[true, true, true, true, true, true, true, true, true, true, false, false, false, false, false, false] rfl rfl (by kernel_rfl) (fun _ _ _ h => h) (Or.inr ⟨by rfl, rfl⟩) ?_ ?_
        rotate_left
        · simp only [Act.put, List.setIfInBounds_toArray, List.set_cons_zero, List.set_cons_succ]
          rfl
        refine pure_ (i := 10) (N := some 29) (v := undef) (a' := ?_) #[true, true, true, true, true, true, true, true, true, true, true, false, false, false, false, false] rfl rfl (by kernel_rfl) (fun _ _ _ h => h) (Or.inr ⟨by rfl, rfl⟩) ?_ ?_
        rotate_left
        · simp only [Act.put, List.setIfInBounds_toArray, List.set_cons_zero, List.set_cons_succ]
          rfl
        refine pure_ (i := 11) (N := some 30) (v := undef) (a' := ?_) #[true, true, true, true, true, true, true, true, true, true, true, true, false, false, false, false] rfl rfl (by kernel_rfl) (fun _ _ _ h => h) (Or.inr ⟨by rfl, rfl⟩) ?_ ?_
        rotate_left
        · simp only [Act.put, List.setIfInBounds_toArray, List.set_cons_zero, List.set_cons_succ]
          rfl
        refine pure_ (i := 12) (N := some 31) (v := undef) (a' := ?_) #[true, true, true, true, true, true, true, true, true, true, true, true, true, false, false, false] rfl rfl (by kernel_rfl) (fun _ _ _ h => h) (Or.inr ⟨by rfl, rfl⟩) ?_ ?_
        rotate_left
        · simp only [Act.put, List.setIfInBounds_toArray, List.set_cons_zero, List.set_cons_succ]
          rfl
        refine pure_ (i := 13) (N := some 32) (v := undef) (a' := ?_) #[true, true, true, true, true, true, true, true, true, true, true, true, true, true, false, false] rfl rfl (by kernel_rfl) (fun _ _ _ h => h) (Or.inr ⟨by rfl, rfl⟩) ?_ ?_
        rotate_left
        · simp only [Act.put, List.setIfInBounds_toArray, List.set_cons_zero, List.set_cons_succ]
          rfl
        refine pure_ (i := 14) (N := some 33) (v := undef) (a' := ?_) #[true, true, true, true, true, true, true, true, true, true, true, true, true, true, true, false] rfl rfl (by kernel_rfl) (fun _ _ _ h => h) (Or.inr ⟨by rfl, rfl⟩) ?_ ?_
        rotate_left
        · simp only [Act.put, List.setIfInBounds_toArray, List.set_cons_zero, List.set_cons_succ]
          rfl
        refine pure_ (i := 15) (N := some 34) (v := ?_) (a' := ?_) #[true, true, true, true, true, true, true, true, true, true, true, true, true, true, true, true] rfl rfl (by kernel_rfl) (fun _ _ _ h => h) (Or.inl ⟨by rfl, ?_⟩) ?_ ?_
        rotate_left
        · intro w'
          go_simp
          with_reducible rfl
        rotate_left
        · simp only [Act.put, List.setIfInBounds_toArray, List.set_cons_zero, List.set_cons_succ]
          rfl
        refine done_ (by kernel_rfl) ?_
        refine hK6 _ _ ?_
        clear hK6
        have hRT' := Kd.R_below hRT (below_drew (Below.refl wr.heap.size wr))
        have F0' := Lib.hid (blk_drew F0.out)
        have hb' := below_drew hb
        go_wp2
        go_roundw
        case rel => exact ⟨j + 1, T, by go_num, by omega, HK', hRT', HT, F0', hb'⟩
        case measure => simp [Go.RowKit.intOf]; omega
      · have hdn : decide (x.1 < 0) = false := by simpa using hneg
        have hx0 : 0 ≤ x.1 := by omega
        by_cases hxN : x.1 < N
        · go_wp2
          rename_i K6 hK6
          refine wp_qz (start_ (S := (fun X => X.cell? (ad.add (j * 3)) = some (.int .i64 x.1) ∧ X.cell? ⟨w.heap.size, 0, none⟩ = some (.slice A0 n0 c0) ∧ X.cell? ⟨w.heap.size, 1, none⟩ = some (.slice A1 n1 c1) ∧ X.cell? ⟨w.heap.size, 2, none⟩ = some (.slice A2 n2 c2))) (ds := []) #[false, false, false, false, false, false, false, false, false, false, false, false, false, false, false, false] (by kernel_rfl) rfl rfl hHeld (fun h0_ => ?_))
          clear h0_
          refine pure_ (i := 0) (N := some 19) (v := ?_) (a' := ?_) #[true, false, false, false, false, false, false, false, false, false, false, false, false, false, false, false] rfl rfl (by kernel_rfl) (fun _ _ _ h => h) (Or.inl ⟨by rfl, ?_⟩) ?_ ?_
          rotate_left
          · intro w'
            go_simp
            with_reducible rfl
          rotate_left
          · simp only [Act.put, List.setIfInBounds_toArray, List.set_cons_zero, List.set_cons_succ]
            rfl
          refine pure_ (i := 1) (N := some 20) (v := ?_) (a' := ?_) #[true, true, false, false, false, false, false, false, false, false, false, false, false, false, false, false] rfl rfl (by kernel_rfl) (fun _ _ _ h => h) (Or.inl ⟨by rfl, ?_⟩) ?_ ?_
          rotate_left
          · intro w'
            go_simp
            with_reducible rfl
          rotate_left
          · simp only [Act.put, List.setIfInBounds_toArray, List.set_cons_zero, List.set_cons_succ]
            rfl
          refine pure_ (i := 2) (N := some 21) (v := ?_) (a' := ?_) #[true, true, true, false, false, false, false, false, false, false, false, false, false, false, false, false] rfl rfl (by kernel_rfl) (fun _ _ _ h => h) (Or.inl ⟨by rfl, ?_⟩) ?_ ?_
          rotate_left
          · intro w'
            go_simp
            with_reducible rfl
          rotate_left
          · simp only [Act.put, List.setIfInBounds_toArray, List.set_cons_zero, List.set_cons_succ]
            rfl
          refine pure_ (i := 3) (N := some 22) (v := ?_) (a' := ?_) #[true, true, true, true, false, false, false, false, false, false, false, false, false, false, false, false] rfl rfl (by kernel_rfl) (fun _ _ _ h => h) (Or.inl ⟨by rfl, ?_⟩) ?_ ?_
          rotate_left
          · intro w'
            go_simp
            with_reducible rfl
          rotate_left
          · simp only [Act.put, List.setIfInBounds_toArray, List.set_cons_zero, List.set_cons_succ]
            rfl
          refine take_ (i := 4) (N := some 23) (v := ?_) (a' := ?_) #[true, true, true, true, true, false, false, false, false, false, false, false, false, false, false, false] rfl rfl (by kernel_rfl) (fun _ _ _ h => h) (Or.inl ⟨by rfl, ?_⟩) hHeld ?_ ?_
          rotate_left
          · rintro w' ⟨s0, s1, s2, s3⟩
            go_simp
            with_reducible rfl
          rotate_left
          · simp only [Act.put, List.setIfInBounds_toArray, List.set_cons_zero, List.set_cons_succ]
            rfl
          refine pure_ (i := 5) (N := some 24) (v := ?_) (a' := ?_) #[true, true, true, true, true, true, false, false, false, false, false, false, false, false, false, false] rfl rfl (by kernel_rfl) (fun _ _ _ h => h) (Or.inl ⟨by rfl, ?_⟩) ?_ ?_
          rotate_left
          · intro w'
            go_simp
            with_reducible rfl
          rotate_left
          · simp only [Act.put, List.setIfInBounds_toArray, List.set_cons_zero, List.set_cons_succ]
            rfl
          refine pure_ (i := 6) (N := some 25) (v := ?_) (a' := ?_) #[true, true, true, true, true, true, true, false, false, false, false, false, false, false, false, false] rfl rfl (by kernel_rfl) (fun _ _ _ h => h) (Or.inl ⟨by rfl, ?_⟩) ?_ ?_
          rotate_left
          · intro w'
            go_simp
            with_reducible rfl
          rotate_left
          · simp only [Act.put, List.setIfInBounds_toArray, List.set_cons_zero, List.set_cons_succ]
            rfl
          refine pure_ (i := 7) (N := some 26) (v := ?_) (a' := ?_) #[true, true, true, true, true, true, true, true, false, false, false, false, false, false, false, false] rfl rfl (by kernel_rfl) (fun _ _ _ h => h) (Or.inl ⟨by rfl, ?_⟩) ?_ ?_
          rotate_left
          · intro w'
            go_simp
            with_reducible rfl
          rotate_left
          · simp only [Act.put, List.setIfInBounds_toArray, List.set_cons_zero, List.set_cons_succ]
            rfl
          refine pure_ (i := 8) (N := some 27) (v := ?_) (a' := ?_) #[true, true, true, true, true, true, true, true, true, false, false, false, false, false, false, false] rfl rfl (by kernel_rfl) (fun _ _ _ h => h) (Or.inl ⟨by rfl, ?_⟩) ?_ ?_
          rotate_left
          · intro w'
            go_simp
            with_reducible rfl
          rotate_left
          · simp only [Act.put, List.setIfInBounds_toArray, List.set_cons_zero, List.set_cons_succ]
            rfl
          refine pure_ (i := 9) (N := some 28) (v := ?_) (a' := ?_) #[true, true, true, true, true, true, true, true, true, true, false, false, false, false, false, false] rfl rfl (by kernel_rfl) (fun _ _ _ h => h) (Or.inl ⟨by rfl, ?_⟩) ?_ ?_
          rotate_left
          · intro w'
            go_simp
            with_reducible rfl
          rotate_left
          · simp only [Act.put, List.setIfInBounds_toArray, List.set_cons_zero, List.set_cons_succ]
            rfl
          refine pure_ (i := 10) (N := some 29) (v := ?_) (a' := ?_) #[true, true, true, true, true, true, true, true, true, true, true, false, false, false, false, false] rfl rfl (by kernel_rfl) (fun _ _ _ h => h) (Or.inl ⟨by rfl, ?_⟩) ?_ ?_
          rotate_left
          · intro w'
            go_simp
            with_reducible rfl
          rotate_left
          · simp only [Act.put, List.setIfInBounds_toArray, List.set_cons_zero, List.set_cons_succ]
            rfl
          refine take_ (i := 11) (N := some 30) (v := ?_) (a' := ?_) #[true, true, true, true, true, true, true, true, true, true, true, true, false, false, false, false] rfl rfl (by kernel_rfl) (fun _ _ _ h => h) (Or.inl ⟨by rfl, ?_⟩) hHeld ?_ ?_
          rotate_left
          · rintro w' ⟨s0, s1, s2, s3⟩
            go_simp
            with_reducible rfl
          rotate_left
          · simp only [Act.put, List.setIfInBounds_toArray, List.set_cons_zero, List.set_cons_succ]
            rfl
          refine take_ (i := 12) (N := some 31) (v := ?_) (a' := ?_) #[true, true, true, true, true, true, true, true, true, true, true, true, true, false, false, false] rfl rfl (by kernel_rfl) (fun _ _ _ h => h) (Or.inl ⟨by rfl, ?_⟩) hHeld ?_ ?_
          rotate_left
          · rintro w' ⟨s0, s1, s2, s3⟩
            go_simp
            with_reducible rfl
          rotate_left
          · simp only [Act.put, List.setIfInBounds_toArray, List.set_cons_zero, List.set_cons_succ]
            rfl
          refine one_ (i := 13) (N := some 32) #[true, true, true, true, true, true, true, true, true, true, true, true, true, true, false, false] rfl rfl (by kernel_rfl) (by decide) (fun K hK => ?_)
          refine goes_ Try.func41 (by kernel_rfl) rfl #[.agg #[.slice A0 n0 c0, .slice A1 n1 c1, .slice A2 n2 c2]] (by rfl) rfl rfl (by first | rfl | (simp [Act.eval]; done) | (simp [go_sem]; done)) ?_
          refine (hs _).mono ?_
          rintro e W4 ⟨rfl, hB4⟩
          refine ⟨_, rfl, ?_⟩
          have hh1 := keep wr.drew W4 hB4 hHeld
          refine hK.out _ _ hh1 (fun h0_ => ?_)
          clear hK K h0_
          refine pure_ (i := 14) (N := some 33) (v := ?_) (a' := ?_) #[true, true, true, true, true, true, true, true, true, true, true, true, true, true, true, false] rfl rfl (by kernel_rfl) (fun _ _ _ h => h) (Or.inl ⟨by rfl, ?_⟩) ?_ ?_
          rotate_left
          · intro w'
            go_simp
            with_reducible rfl
          rotate_left
          · simp only [Act.put, List.setIfInBounds_toArray, List.set_cons_zero, List.set_cons_succ]
            rfl
          refine pure_ (i := 15) (N := some 34) (v := ?_) (a' := ?_) #[true, true, true, true, true, true, true, true, true, true, true, true, true, true, true, true] rfl rfl (by kernel_rfl) (fun _ _ _ h => h) (Or.inl ⟨by rfl, ?_⟩) ?_ ?_
          rotate_left
          · intro w'
            go_simp
            with_reducible rfl
          rotate_left
          · simp only [Act.put, List.setIfInBounds_toArray, List.set_cons_zero, List.set_cons_succ]
            rfl
          refine done_ (by kernel_rfl) ?_
          refine hK6 _ _ ?_
          clear hK6 keep hHeld hh1 f0 f1 f2
          have hRT4 := Kd.R_below (Kd.R_below hRT (below_drew (Below.refl wr.heap.size wr))) hB4
          have F4 := Lib.hid (blk_below (blk_drew F0.out) hB4)
          have hb4 : Below w.heap.size w W4 := (below_drew hb).trans (hB4.mono hb.size)
          obtain ⟨_, _, hCT4⟩ := Kd.R_reads' hRT4
          have i4 := pw_cell_below hb4 i0'
          obtain ⟨af, As, cs, rfl, ks, hls, hCs⟩ := atL hCf x.1.toNat (by omega)
          have ks4 := pw_cell_below hb4 ks
          obtain ⟨ae, rfl, ke⟩ := Kd.at_bool hCe x.1 hx0 hxN
          have hun := union_calls AT cT T As cs (FS.getD x.1.toNat []) W4 hCT4 hlT (Kd.C_below hCs hb4) (by have := HI.out.len x.1.toNat; omega)
          obtain ⟨LX, hLX⟩ : ∃ LX, FS.getD x.1.toNat [] = LX := ⟨_, rfl⟩
          have hxb : ∀ y ∈ LX, 0 ≤ y ∧ y < 1000000 := by rw [← hLX]; exact HI.out.bnd _
          have HB := Lib.hid hxb
          have HKz : Hid ((if at_ em x.1 = true then ahR N em FS (l.drop (j + 1)) (unionV T LX) B else unionV T LX) = ahR N em FS l [] B) := by
            have h := HK.out
            simp only [ahR] at h
            rw [if_pos (by omega), hLX] at h
            exact Lib.hid h
          rw [hLX] at ks4 hun hCs hls
          have ke2 : w.cell? (ae.add x.1.toNat) = some (.bool (at_ em x.1)) := ke
          clear HK hLX hxb ks i0 hCT F0 hb hB4 hRT hCT4 ke
          have fin : ∀ W5 v5, (v5 = .slice AT T.length cT ∧ unionV T LX = T ∨ Kd.R (Kd.int .i64) TI W5 W4.heap.size (fun _ => True) v5 (unionV T LX)) → Below W4.heap.size W4 W5 → Below w.heap.size w W5 → Kd.R (Kd.int .i64) TI W5 w.heap.size (fun _ => True) v5 (unionV T LX) ∧ Hid (W5.heap[w.heap.size]? = some (.cells #[.slice A0 n0 c0, .slice A1 n1 c1, .slice A2 n2 c2] TF (0, 0))) := by
            intro W5 v5 hR5 hB5 hb5
            refine ⟨?_, Lib.hid (blk_below F4.out hB5)⟩
            rcases hR5 with ⟨e3, e4⟩ | h5
            · rw [e4, e3]
              exact Kd.R_below hRT4 hB5
            · exact Kd.R_lower h5 hb4.size
          have HT5 : Hid (Rises (unionV T LX) ∧ ∀ x ∈ unionV T LX, 0 ≤ x ∧ x < 1000000) := Lib.hid ⟨unionV_rises _ HT.out.1, fun y hy => ((unionV_mem y _ _).1 hy).elim (HB.out y) (HT.out.2 y)⟩
          obtain ⟨TT, hTT⟩ : ∃ TT, unionV T LX = TT := ⟨_, rfl⟩
          rw [hTT] at HT5 HKz fin hun
          obtain ⟨ab, hab⟩ : ∃ ab, at_ em x.1 = ab := ⟨_, rfl⟩
          rw [hab] at ke2 HKz
          clear hRT4 F4 HB hTT hab
          cases ab with
          | true =>
            rw [if_pos rfl] at HKz
            go_wp2_with (go_at_call 33; refine hun.mono ?_; rintro e W5 ⟨v5, rfl, hR5, hB5⟩; have hb5 := hb4.trans (hB5.mono hb4.size); have i5 := pw_cell_below hb5 i0'; have ke5 := pw_cell_below hb5 ke2; have HF := Lib.hid (fin _ _ hR5 hB5 hb5); clear hun ks4 i4 ke2 i0' fin hR5)
            go_roundw
            case rel => exact ⟨j + 1, TT, by go_num, by omega, HKz, HF.out.1, HT5, HF.out.2, hb5⟩
            case measure => simp [Go.RowKit.intOf]; omega
          | false =>
            rw [if_neg (by decide)] at HKz
            go_wp2_with (go_at_call 33; refine hun.mono ?_; rintro e W5 ⟨v5, rfl, hR5, hB5⟩; have hb5 := hb4.trans (hB5.mono hb4.size); have i5 := pw_cell_below hb5 i0'; have ke5 := pw_cell_below hb5 ke2; have HF := Lib.hid (fin _ _ hR5 hB5 hb5); clear hun ks4 i4 ke2 i0' fin hR5)
            go_ret
            exact ⟨_, rfl, by rw [← HKz.out]; exact HF.out.1, hb5⟩
        · have HK' : Hid (ahR N em FS (l.drop (j + 1)) T B = ahR N em FS l [] B) := by
            have h := HK.out
            simp only [ahR] at h
            rw [if_neg (by omega)] at h
            exact Lib.hid h
          clear HK
          go_wp2
          rename_i K6 hK6
          refine wp_qz (start_ (S := (fun X => X.cell? (ad.add (j * 3)) = some (.int .i64 x.1) ∧ X.cell? ⟨w.heap.size, 0, none⟩ = some (.slice A0 n0 c0) ∧ X.cell? ⟨w.heap.size, 1, none⟩ = some (.slice A1 n1 c1) ∧ X.cell? ⟨w.heap.size, 2, none⟩ = some (.slice A2 n2 c2))) (ds := []) #[false, false, false, false, false, false, false, false, false, false, false, false, false, false, false, false] (by kernel_rfl) rfl rfl hHeld (fun h0_ => ?_))
          clear h0_
          refine pure_ (i := 0) (N := some 19) (v := ?_) (a' := ?_) #[true, false, false, false, false, false, false, false, false, false, false, false, false, false, false, false] rfl rfl (by kernel_rfl) (fun _ _ _ h => h) (Or.inl ⟨by rfl, ?_⟩) ?_ ?_
          rotate_left
          · intro w'
            go_simp
            with_reducible rfl
          rotate_left
          · simp only [Act.put, List.setIfInBounds_toArray, List.set_cons_zero, List.set_cons_succ]
            rfl
          refine pure_ (i := 1) (N := some 20) (v := ?_) (a' := ?_) #[true, true, false, false, false, false, false, false, false, false, false, false, false, false, false, false] rfl rfl (by kernel_rfl) (fun _ _ _ h => h) (Or.inl ⟨by rfl, ?_⟩) ?_ ?_
          rotate_left
          · intro w'
            go_simp
            with_reducible rfl
          rotate_left
          · simp only [Act.put, List.setIfInBounds_toArray, List.set_cons_zero, List.set_cons_succ]
            rfl
          refine pure_ (i := 2) (N := some 21) (v := ?_) (a' := ?_) #[true, true, true, false, false, false, false, false, false, false, false, false, false, false, false, false] rfl rfl (by kernel_rfl) (fun _ _ _ h => h) (Or.inl ⟨by rfl, ?_⟩) ?_ ?_
          rotate_left
          · intro w'
            go_simp
            with_reducible rfl
          rotate_left
          · simp only [Act.put, List.setIfInBounds_toArray, List.set_cons_zero, List.set_cons_succ]
            rfl
          refine pure_ (i := 3) (N := some 22) (v := ?_) (a' := ?_) #[true, true, true, true, false, false, false, false, false, false, false, false, false, false, false, false] rfl rfl (by kernel_rfl) (fun _ _ _ h => h) (Or.inl ⟨by rfl, ?_⟩) ?_ ?_
          rotate_left
          · intro w'
            go_simp
            with_reducible rfl
          rotate_left
          · simp only [Act.put, List.setIfInBounds_toArray, List.set_cons_zero, List.set_cons_succ]
            rfl
          refine take_ (i := 4) (N := some 23) (v := ?_) (a' := ?_) #[true, true, true, true, true, false, false, false, false, false, false, false, false, false, false, false] rfl rfl (by kernel_rfl) (fun _ _ _ h => h) (Or.inl ⟨by rfl, ?_⟩) hHeld ?_ ?_
          rotate_left
          · rintro w' ⟨s0, s1, s2, s3⟩
            go_simp
            with_reducible rfl
          rotate_left
          · simp only [Act.put, List.setIfInBounds_toArray, List.set_cons_zero, List.set_cons_succ]
            rfl
          refine pure_ (i := 5) (N := some 24) (v := ?_) (a' := ?_) #[true, true, true, true, true, true, false, false, false, false, false, false, false, false, false, false] rfl rfl (by kernel_rfl) (fun _ _ _ h => h) (Or.inl ⟨by rfl, ?_⟩) ?_ ?_
          rotate_left
          · intro w'
            go_simp
            with_reducible rfl
          rotate_left
          · simp only [Act.put, List.setIfInBounds_toArray, List.set_cons_zero, List.set_cons_succ]
            rfl
          refine pure_ (i := 6) (N := some 25) (v := ?_) (a' := ?_) #[true, true, true, true, true, true, true, false, false, false, false, false, false, false, false, false] rfl rfl (by kernel_rfl) (fun _ _ _ h => h) (Or.inl ⟨by rfl, ?_⟩) ?_ ?_
          rotate_left
          · intro w'
            go_simp
            with_reducible rfl
          rotate_left
          · simp only [Act.put, List.setIfInBounds_toArray, List.set_cons_zero, List.set_cons_succ]
            rfl
          refine pure_ (i := 7) (N := some 26) (v := ?_) (a' := ?_) #[true, true, true, true, true, true, true, true, false, false, false, false, false, false, false, false] rfl rfl (by kernel_rfl) (fun _ _ _ h => h) (Or.inl ⟨by rfl, ?_⟩) ?_ ?_
          rotate_left
          · intro w'
            go_simp
            with_reducible rfl
          rotate_left
          · simp only [Act.put, List.setIfInBounds_toArray, List.set_cons_zero, List.set_cons_succ]
            rfl
          refine pure_ (i := 8) (N := some 27) (v := ?_) (a' := ?_) #[true, true, true, true, true, true, true, true, true, false, false, false, false, false, false, false] rfl rfl (by kernel_rfl) (fun _ _ _ h => h) (Or.inl ⟨by rfl, ?_⟩) ?_ ?_
          rotate_left
          · intro w'
            go_simp
            with_reducible rfl
          rotate_left
          · simp only [Act.put, List.setIfInBounds_toArray, List.set_cons_zero, List.set_cons_succ]
            rfl
          refine pure_ (i := 9) (N := some 28) (v := ?_) (a' := ?_) #[true, true, true, true, true, true, true, true, true, true, false, false, false, false, false, false] rfl rfl (by kernel_rfl) (fun _ _ _ h => h) (Or.inl ⟨by rfl, ?_⟩) ?_ ?_
          rotate_left
          · intro w'
            go_simp
            with_reducible rfl
          rotate_left
          · simp only [Act.put, List.setIfInBounds_toArray, List.set_cons_zero, List.set_cons_succ]
            rfl
          refine pure_ (i := 10) (N := some 29) (v := ?_) (a' := ?_) #[true, true, true, true, true, true, true, true, true, true, true, false, false, false, false, false] rfl rfl (by kernel_rfl) (fun _ _ _ h => h) (Or.inl ⟨by rfl, ?_⟩) ?_ ?_
          rotate_left
          · intro w'
            go_simp
            with_reducible rfl
          rotate_left
          · simp only [Act.put, List.setIfInBounds_toArray, List.set_cons_zero, List.set_cons_succ]
            rfl
          refine take_ (i := 11) (N := some 30) (v := ?_) (a' := ?_) #[true, true, true, true, true, true, true, true, true, true, true, true, false, false, false, false] rfl rfl (by kernel_rfl) (fun _ _ _ h => h) (Or.inl ⟨by rfl, ?_⟩) hHeld ?_ ?_
          rotate_left
          · rintro w' ⟨s0, s1, s2, s3⟩
            go_simp
            with_reducible rfl
          rotate_left
          · simp only [Act.put, List.setIfInBounds_toArray, List.set_cons_zero, List.set_cons_succ]
            rfl
          refine take_ (i := 12) (N := some 31) (v := ?_) (a' := ?_) #[true, true, true, true, true, true, true, true, true, true, true, true, true, false, false, false] rfl rfl (by kernel_rfl) (fun _ _ _ h => h) (Or.inl ⟨by rfl, ?_⟩) hHeld ?_ ?_
          rotate_left
          · rintro w' ⟨s0, s1, s2, s3⟩
            go_simp
            with_reducible rfl
          rotate_left
          · simp only [Act.put, List.setIfInBounds_toArray, List.set_cons_zero, List.set_cons_succ]
            rfl
          refine one_ (i := 13) (N := some 32) #[true, true, true, true, true, true, true, true, true, true, true, true, true, true, false, false] rfl rfl (by kernel_rfl) (by decide) (fun K hK => ?_)
          refine goes_ Try.func41 (by kernel_rfl) rfl #[.agg #[.slice A0 n0 c0, .slice A1 n1 c1, .slice A2 n2 c2]] (by rfl) rfl rfl (by first | rfl | (simp [Act.eval]; done) | (simp [go_sem]; done)) ?_
          refine (hs _).mono ?_
          rintro e W4 ⟨rfl, hB4⟩
          refine ⟨_, rfl, ?_⟩
          have hh1 := keep wr.drew W4 hB4 hHeld
          refine hK.out _ _ hh1 (fun h0_ => ?_)
          clear hK K h0_
          refine pure_ (i := 14) (N := some 33) (v := ?_) (a' := ?_) #[true, true, true, true, true, true, true, true, true, true, true, true, true, true, true, false] rfl rfl (by kernel_rfl) (fun _ _ _ h => h) (Or.inl ⟨by rfl, ?_⟩) ?_ ?_
          rotate_left
          · intro w'
            go_simp
            with_reducible rfl
          rotate_left
          · simp only [Act.put, List.setIfInBounds_toArray, List.set_cons_zero, List.set_cons_succ]
            rfl
          refine pure_ (i := 15) (N := some 34) (v := ?_) (a' := ?_) #[true, true, true, true, true, true, true, true, true, true, true, true, true, true, true, true] rfl rfl (by kernel_rfl) (fun _ _ _ h => h) (Or.inl ⟨by rfl, ?_⟩) ?_ ?_
          rotate_left
          · intro w'
            go_simp
            with_reducible rfl
          rotate_left
          · simp only [Act.put, List.setIfInBounds_toArray, List.set_cons_zero, List.set_cons_succ]
            rfl
          refine done_ (by kernel_rfl) ?_
          refine hK6 _ _ ?_
          clear hK6
          have hRT' := Kd.R_below (Kd.R_below hRT (below_drew (Below.refl wr.heap.size wr))) hB4
          have F0' := Lib.hid (blk_below (blk_drew F0.out) hB4)
          have hb' : Below w.heap.size w W4 := (below_drew hb).trans (hB4.mono hb.size)
          go_wp2
          go_roundw
          case rel => exact ⟨j + 1, T, by go_num, by omega, HK', hRT', HT, F0', hb'⟩
          case measure => simp [Go.RowKit.intOf]; omega
    · obtain rfl : j = l.length := by omega
      have h := HK.out
      rw [List.drop_length] at h
      have HK' := Lib.hid (show unionV T B = ahR N em FS l [] B from h)
      have hun := union_calls AT cT T Ab cb B wr hCT hlT (Kd.C_below hCb hb) (by omega)
      clear h HK
      go_wp2_with (go_at_call 33; refine hun.mono ?_; rintro e W5 ⟨v5, rfl, hR5, hB5⟩)
      go_ret
      refine ⟨_, rfl, ?_, hb.trans (hB5.mono hb.size)⟩
      rw [← HK'.out]
      rcases hR5 with ⟨e3, e4⟩ | h5
      · rw [e4, e3]
        exact Kd.R_below hRT hB5
      · exact Kd.R_lower h5 hb.size
theorem inv_grow {N : Nat} {em : List Bool} {ps : List P} : ∀ (k : Nat) (FS Ss : List (List Int)), Inv N FS → growV (stepF N em) ps k FS = some Ss → Inv N Ss
  | 0, _, _, _, h => nomatch h
  | k + 1, FS, Ss, hI, h => by
    have hr : ∀ (l : List P) (s : List (List Int) × Bool), Inv N s.1 → Inv N (l.foldl (roundV (stepF N em)) s).1 := by
      intro l
      induction l with
      | nil => exact fun s h => h
      | cons p t ih => exact fun s h => ih _ (Inv.stepF h)
    have h1 : Inv N (roundsV (stepF N em) ps FS).1 := hr ps (FS, false) hI
    simp only [growV] at h
    split at h
    · exact inv_grow k _ _ h1 h
    · cases h
      exact h1
set_option maxRecDepth 100000 in
set_option maxHeartbeats 4000000 in
theorem raheads_calls (w : World) (A0 A1 A2 : Option Addr) (n0 n1 c0 c1 c2 N : Nat) (hNe : n0 + n1 = N) (ps : List P) (hC : Kd.C kP w A2 ps.length ps) (hN : N ≤ 1000000) (hps : ∀ p ∈ ps, PrOk N p ∧ p.2.1.length ≤ 1000) (em : List Bool) (hel : em.length = N)
    (hE : ∀ W, Below w.heap.size w W → Calls Try.prog 17 #[.agg #[.slice A0 n0 c0, .slice A1 n1 c1, .slice A2 ps.length c2]] W fun e W' => ∃ v, e = .returned v ∧ Kd.R Kd.bool TB W' W.heap.size (fun _ => True) v em ∧ Below W.heap.size W W')
    (k : Nat) (Ss : List (List Int)) (hSs : growV (stepF N em) ps k (initV N n0) = some Ss)
    (Al : Option Addr) (cl : Nat) (l : List I) (hCl : Kd.C kI w Al l.length l) (Ab : Option Addr) (cb : Nat) (B : List Int) (hCb : Kd.C (Kd.int .i64) w Ab B.length B) (hBl : B.length ≤ 900000000) :
    Calls Try.prog 24 #[.agg #[.slice A0 n0 c0, .slice A1 n1 c1, .slice A2 ps.length c2], .slice Al l.length cl, .slice Ab B.length cb] w fun e w' => ∃ v, e = .returned v ∧ Kd.R (Kd.int .i64) TI w' w.heap.size (fun _ => True) v (ahR N em Ss l [] B) ∧ Below w.heap.size w w' := by
  obtain ⟨W0, hW0⟩ : ∃ W0, w.alloc (.cells #[.slice A0 n0 c0, .slice A1 n1 c1, .slice A2 ps.length c2] TF) = W0 := ⟨_, rfl⟩
  have hBd : Below w.heap.size w W0.drew := by rw [← hW0]; exact below_drew ((Below.refl _ _).alloc (Nat.le_refl _) _)
  have f0 : W0.heap[w.heap.size]? = some (.cells #[.slice A0 n0 c0, .slice A1 n1 c1, .slice A2 ps.length c2] TF (0, 0)) := by rw [← hW0]; exact blk_new w _
  have hIs : Inv N Ss := inv_grow k _ _ (Inv.init hN) hSs
  have F0 := Lib.hid f0
  have HG := Lib.hid hSs
  have HS := Lib.hid hIs
  have HL := Lib.hid hel
  have HN := Lib.hid hNe
  clear f0 hSs hIs hel hNe
  go_enter Try.func24, Try.ntmps24
  go_wp2
  rename_i K6 hK6
  have hNe := HN.out
  have hel := HL.out
  have hIs := HS.out
  have hSs := HG.out
  have hHeld : (fun X => X.cell? ⟨w.heap.size, 0, none⟩ = some (.slice A0 n0 c0) ∧ X.cell? ⟨w.heap.size, 1, none⟩ = some (.slice A1 n1 c1) ∧ X.cell? ⟨w.heap.size, 2, none⟩ = some (.slice A2 ps.length c2)) W0.drew := ⟨blk_cell F0.out 0, blk_cell F0.out 1, blk_cell F0.out 2⟩
  have keep : ∀ X Y : World, Below X.heap.size X Y → (fun X => X.cell? ⟨w.heap.size, 0, none⟩ = some (.slice A0 n0 c0) ∧ X.cell? ⟨w.heap.size, 1, none⟩ = some (.slice A1 n1 c1) ∧ X.cell? ⟨w.heap.size, 2, none⟩ = some (.slice A2 ps.length c2)) X → (fun X => X.cell? ⟨w.heap.size, 0, none⟩ = some (.slice A0 n0 c0) ∧ X.cell? ⟨w.heap.size, 1, none⟩ = some (.slice A1 n1 c1) ∧ X.cell? ⟨w.heap.size, 2, none⟩ = some (.slice A2 ps.length c2)) Y := fun X Y h hh => ⟨pw_cell_below h hh.1, pw_cell_below h hh.2.1, pw_cell_below h hh.2.2⟩
  refine wp_qz (start_ (S := (fun X => X.cell? ⟨w.heap.size, 0, none⟩ = some (.slice A0 n0 c0) ∧ X.cell? ⟨w.heap.size, 1, none⟩ = some (.slice A1 n1 c1) ∧ X.cell? ⟨w.heap.size, 2, none⟩ = some (.slice A2 ps.length c2))) (ds := []) #[false, false, false, false, false, false, false, false, false] (by kernel_rfl) rfl rfl hHeld (fun h0_ => ?_))
  clear h0_
  refine take_ (i := 0) (N := some 7) (v := ?_) (a' := ?_) #[true, false, false, false, false, false, false, false, false] rfl rfl (by kernel_rfl) (fun _ _ _ h => h) (Or.inl ⟨by rfl, ?_⟩) hHeld ?_ ?_
  rotate_left
  · rintro w' ⟨s0, s1, s2⟩
    go_simp
    with_reducible rfl
  rotate_left
  · simp only [Act.put, List.setIfInBounds_toArray, List.set_cons_zero, List.set_cons_succ]
    rfl
  refine pure_ (i := 1) (N := some 8) (v := ?_) (a' := ?_) #[true, true, false, false, false, false, false, false, false] rfl rfl (by kernel_rfl) (fun _ _ _ h => h) (Or.inl ⟨by rfl, ?_⟩) ?_ ?_
  rotate_left
  · intro w'
    go_simp
    with_reducible rfl
  rotate_left
  · simp only [Act.put, List.setIfInBounds_toArray, List.set_cons_zero, List.set_cons_succ]
    rfl
  refine pure_ (i := 2) (N := some 9) (v := ?_) (a' := ?_) #[true, true, true, false, false, false, false, false, false] rfl rfl (by kernel_rfl) (fun _ _ _ h => h) (Or.inl ⟨by rfl, ?_⟩) ?_ ?_
  rotate_left
  · intro w'
    go_simp
    with_reducible rfl
  rotate_left
  · simp only [Act.put, List.setIfInBounds_toArray, List.set_cons_zero, List.set_cons_succ]
    rfl
  refine take_ (i := 3) (N := some 10) (v := ?_) (a' := ?_) #[true, true, true, true, false, false, false, false, false] rfl rfl (by kernel_rfl) (fun _ _ _ h => h) (Or.inl ⟨by rfl, ?_⟩) hHeld ?_ ?_
  rotate_left
  · rintro w' ⟨s0, s1, s2⟩
    go_simp
    with_reducible rfl
  rotate_left
  · simp only [Act.put, List.setIfInBounds_toArray, List.set_cons_zero, List.set_cons_succ]
    rfl
  refine take_ (i := 5) (N := some 12) (v := ?_) (a' := ?_) #[true, true, true, true, false, true, false, false, false] rfl rfl (by kernel_rfl) (fun _ _ _ h => h) (Or.inl ⟨by rfl, ?_⟩) hHeld ?_ ?_
  rotate_left
  · rintro w' ⟨s0, s1, s2⟩
    go_simp
    with_reducible rfl
  rotate_left
  · simp only [Act.put, List.setIfInBounds_toArray, List.set_cons_zero, List.set_cons_succ]
    rfl
  refine one_ (i := 4) (N := some 11) #[true, true, true, true, true, true, false, false, false] rfl rfl (by kernel_rfl) (by decide) (fun K hK => ?_)
  refine goes_ Try.func20 (by kernel_rfl) rfl #[.agg #[.slice A0 n0 c0, .slice A1 n1 c1, .slice A2 ps.length c2]] (by rfl) rfl rfl (by first | rfl | (simp [Act.eval]; done) | (simp [go_sem]; done)) ?_
  refine (rfirst_calls W0.drew A0 A1 A2 n0 n1 c0 c1 c2 N hNe ps (Kd.C_below hC hBd) hN hps em hel (fun W h => hE W (hBd.trans (h.mono hBd.size))) k Ss hSs).mono ?_
  rintro e W1 ⟨v1, rfl, hR1, hB1⟩
  obtain ⟨A3, c3, rfl, hl3, hC3⟩ := Kd.R_reads hR1
  have hB01 := hBd.trans (hB1.mono hBd.size)
  refine ⟨_, rfl, ?_⟩
  have hh1 := keep _ _ hB1 hHeld
  refine hK.out _ _ hh1 (fun h0_ => ?_)
  clear hK K h0_
  refine one_ (i := 6) (N := some 13) #[true, true, true, true, true, true, true, false, false] rfl rfl (by kernel_rfl) (by decide) (fun K hK => ?_)
  refine goes_ Try.func17 (by kernel_rfl) rfl #[.agg #[.slice A0 n0 c0, .slice A1 n1 c1, .slice A2 ps.length c2]] (by rfl) rfl rfl (by first | rfl | (simp [Act.eval]; done) | (simp [go_sem]; done)) ?_
  refine (hE W1 hB01).mono ?_
  rintro e W2 ⟨v2, rfl, hR2, hB2⟩
  obtain ⟨A4, c4, rfl, hl4, hC4⟩ := Kd.R_reads hR2
  have hB02 := hB01.trans (hB2.mono hB01.size)
  refine ⟨_, rfl, ?_⟩
  have hh2 := keep _ _ hB2 hh1
  refine hK.out _ _ hh2 (fun h0_ => ?_)
  clear hK K h0_
  refine one_ (i := 7) (N := some 14) #[true, true, true, true, true, true, true, true, false] rfl rfl (by kernel_rfl) (by decide) (fun K hK => ?_)
  have hah := rahead_calls W2 A0 A1 A2 n0 n1 ps.length c0 c1 c2 N hNe hN Al cl l (Kd.C_below hCl hB02) Ab cb B (Kd.C_below hCb hB02) hBl A3 c3 Ss (by rw [← hIs.l]; exact Kd.C_below hC3 hB2) hIs A4 c4 em (by rw [← hel]; exact hC4)
  rw [hIs.l, hel]
  refine goes_ Try.func42 (by kernel_rfl) rfl #[.agg #[.slice A0 n0 c0, .slice A1 n1 c1, .slice A2 ps.length c2], .slice Al l.length cl, .slice Ab B.length cb, .slice A3 N c3, .slice A4 N c4] (by rfl) rfl rfl (by first | rfl | (simp [Act.eval]; done) | (simp [go_sem]; done)) ?_
  refine hah.mono ?_
  rintro e W3 ⟨v3, rfl, hR3, hB3⟩
  refine ⟨_, rfl, ?_⟩
  have hh3 := keep _ _ hB3 hh2
  refine hK.out _ _ hh3 (fun h0_ => ?_)
  clear hK K h0_
  refine pure_ (i := 8) (N := some 6) (v := ?_) (a' := ?_) #[true, true, true, true, true, true, true, true, true] rfl rfl (by kernel_rfl) (fun _ _ _ h => h) (Or.inl ⟨by rfl, ?_⟩) ?_ ?_
  rotate_left
  · intro w'
    go_simp
    with_reducible rfl
  rotate_left
  · simp only [Act.put, List.setIfInBounds_toArray, List.set_cons_zero, List.set_cons_succ]
    rfl
  refine done_ (by kernel_rfl) ?_
  refine hK6 _ _ ?_
  clear hK6 keep hHeld hh1 hh2 hh3
  go_wp2
  go_ret
  exact ⟨_, rfl, Kd.R_lower hR3 hB02.size, hB02.trans (hB3.mono hB02.size)⟩
end Go.Proofs.Ytkfpmolplemdlaa.RAhead
