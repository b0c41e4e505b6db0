/- The reference's put and Union walked: rows are read, what is told is the first row or a row of the call's own. Over rows that are not too long. -/
import Derived.Test.YtkfpmolplemdlaaFollB
namespace Go.Proofs.Ytkfpmolplemdlaa.Refs
open Go Go.RowKit Go.Shelf Go.Maps Go.Sort Go.Proofs.YtkfpmolplemdlaaW.PrintWords Go.Proofs.YtkfpmolplemdlaaW.PrintLast Go.Proofs.Ytkfpmolplemdlaa.Round Go.Proofs.Ytkfpmolplemdlaa.RangeG Go.Proofs.Ytkfpmolplemdlaa.RangeH Go.Proofs.Ytkfpmolplemdlaa.Fl Go.Proofs.Ytkfpmolplemdlaa.Grow Go.Proofs.Ytkfpmolplemdlaa.Deri Go.Proofs.Ytkfpmolplemdlaa.Seqs Go.Proofs.Ytkfpmolplemdlaa.MSet Go.Proofs.Ytkfpmolplemdlaa.Ahd Go.Proofs.Ytkfpmolplemdlaa.Begin Go.Proofs.Ytkfpmolplemdlaa.Begun Go.Proofs.Ytkfpmolplemdlaa.Sorts
attribute [local go_sem] Oper.semAt_some
set_option linter.unusedVariables false
set_option linter.unusedSimpArgs false
theorem putV_at (x : Int) : ∀ (l : List Int) (j : Nat), j ≤ l.length → (∀ q y, q < j → l[q]? = some y → y < x) → (∀ y, l[j]? = some y → x < y) → putV l x = (l.take j ++ [x]) ++ l.drop j
  | [], j, h, _, _ => by
    obtain rfl : j = 0 := by simpa using h
    rfl
  | a :: t, 0, _, _, h2 => by
    have := h2 a rfl
    simp [putV, this]
  | a :: t, j + 1, h, h1, h2 => by
    have h3 := h1 0 a (by omega) rfl
    have := putV_at x t j (by simpa using h) (fun q y hq hy => h1 (q + 1) y (by omega) hy) (fun y hy => h2 y hy)
    simp only [putV]
    rw [if_neg (by omega), if_neg (by omega), this]
    rfl
theorem putV_in (x : Int) : ∀ (l : List Int) (j : Nat), (∀ q y, q < j → l[q]? = some y → y < x) → l[j]? = some x → putV l x = l
  | [], j, _, h => by simp at h
  | a :: t, 0, _, h => by
    cases h
    simp [putV]
  | a :: t, j + 1, h1, h => by
    have h3 := h1 0 a (by omega) rfl
    have := putV_in x t j (fun q y hq hy => h1 (q + 1) y (by omega) hy) h
    simp only [putV]
    rw [if_neg (by omega), if_neg (by omega), this]
theorem infoN : (Try.prog.info? TI).map (fun i => (i.zero, i.size, i.bytes)) = some (some (.int .i64 0), 1, 8) := infoI
theorem rd_at {l : List Int} {j : Nat} {y : Int} (h : l[j]? = some y) : rd l (j : Int) = y := by
  show l.getD ((j : Int)).toNat 0 = y
  rw [Int.toNat_natCast, List.getD_eq_getElem?_getD, h]
  rfl
set_option maxRecDepth 100000 in
set_option maxHeartbeats 4000000 in
theorem put_calls (A : Option Addr) (c : Nat) (l : List Int) (x : Int) (w : World) (hC : Kd.C (Kd.int .i64) w A l.length l) (hc : l.length ≤ c) (hl : l.length ≤ 1000000000) :
    Calls Try.prog 51 #[.slice A l.length c, .int .i64 x] w fun e w' => ∃ v, e = .returned v ∧ ((v = .slice A l.length c ∧ putV l x = l) ∨ Kd.R (Kd.int .i64) TI w' w.heap.size (fun _ => True) v (putV l x)) ∧ Below w.heap.size w w' := by
  have hB0 : Below w.heap.size w w := Below.refl _ _
  go_enter Try.func51, Try.ntmps51
  go_wp2
  go_loopw [5] (fun i wr => ∃ j : Nat, i = .int .i64 (j : Int) ∧ j ≤ l.length ∧ Hid (∀ q y, q < j → l[q]? = some y → y < x) ∧ Below w.heap.size w wr) (fun i _ => l.length - (Go.RowKit.intOf i).toNat)
  case atStart => exact ⟨0, rfl, Nat.zero_le _, Lib.hid (fun q y h => absurd h (Nat.not_lt_zero _)), hB0⟩
  case round =>
    obtain ⟨j, rfl, hj, hM, hb⟩ := hrel
    have hCr := Kd.C_below hC hb
    by_cases hlt : j < l.length
    · obtain ⟨y, hy⟩ : ∃ y, l[j]? = some y := ⟨_, List.getElem?_eq_getElem hlt⟩
      obtain ⟨ad, rfl, hcell⟩ := Kd.at_int hCr (j : Int) (by omega) (by omega)
      rw [rd_at hy] at hcell
      have hcell' : wr.cell? (ad.add j) = some (.int .i64 y) := hcell
      clear hcell
      by_cases hyx : y < x
      · go_wp2
        go_roundw
        case rel =>
          refine ⟨j + 1, by go_num, by omega, Lib.hid (fun q z hq hz => ?_), hb⟩
          rcases Nat.lt_or_ge q j with h | h
          · exact hM.out q z h hz
          · obtain rfl : q = j := by omega
            rw [hy] at hz
            cases hz
            exact hyx
        case measure => simp [Go.RowKit.intOf]; omega
      · by_cases he : y = x
        · subst he
          have hp := putV_in y l j hM.out hy
          have HP := Lib.hid hp
          clear hp hy
          go_wp2
          go_ret
          exact ⟨_, rfl, .inl ⟨rfl, HP.out⟩, hb⟩
        · skip
          have hT : ∀ W, Below w.heap.size w W → Kd.C (Kd.int .i64) W (some ad) j (l.take j) := fun W h => by
            have h2 := Kd.C_take (Kd.C_below hC h) hj
            rwa [List.length_take, Nat.min_eq_left hj] at h2
          have hD : ∀ W, Below w.heap.size w W → Kd.C (Kd.int .i64) W (some (ad.add j)) (l.length - j) (l.drop j) := fun W h => by
            have h2 := Kd.C_drop (Kd.C_below hC h) hj hc
            rw [List.length_drop] at h2
            rw [show j * (Kd.int .i64).sz = j from Nat.mul_one j, if_neg (by omega)] at h2
            exact h2
          have hp := putV_at x l j hj hM.out (fun z hz => by rw [hy] at hz; cases hz; omega)
          have HP := Lib.hid hp
          have hbs := hb.size
          clear hp hy
          go_wp2_with (first
            | (at_builtin; (refine Kd.R_append_rows (Kd.int .i64) (w0 := w) w.heap.size rfl (.tmp 34) (.tmp 37) 26 TI (.int .i64 0) 8 rfl Try.underlying26 infoN rfl (by decide) (by omega) (.slice none 0 0) ([] : List Int) (l.take j) _ _ _ (fun _ => True) (fun _ => False) rfl rfl (Kd.R_nil _ _ _ _ _) (hT _ hb) (fun _ _ h => h) (fun _ h => h.elim) (fun _ _ => trivial) hb hbs (by simp; omega) ?_); intro v1 W1 R1 hb1 _ _; have hs1 := hb1.size)
            | (at_builtin; (refine Kd.R_append (Kd.int .i64) (w0 := w) w.heap.size rfl (.tmp 39) (.tmp 41) 26 TI (.int .i64 0) 8 rfl Try.underlying26 infoN rfl (by decide) (by omega) v1 _ x [.int .i64 x] (fun _ => True) (fun _ => False) rfl rfl rfl (fun _ hk => hk.elim) (fun _ _ => trivial) R1 hb1 hs1 (by simp; omega) ?_); intro v2 W2 R2 hb2 _ _; have hs2 := hb2.size)
            | (at_builtin; (refine Kd.R_append_rows (Kd.int .i64) (w0 := w) w.heap.size rfl (.tmp 43) (.tmp 46) 26 TI (.int .i64 0) 8 rfl Try.underlying26 infoN rfl (by decide) (by omega) v2 _ (l.drop j) _ _ _ (fun _ => True) (fun _ => False) rfl rfl R2 (hD _ hb2) (fun _ _ h => h) (fun _ h => h.elim) (fun _ _ => trivial) hb2 hs2 (by simp; omega) ?_); intro v3 W3 R3 hb3 _ _))
          go_ret
          exact ⟨_, rfl, .inr (by rw [HP.out]; exact R3), hb3⟩
    · obtain rfl : j = l.length := by omega
      have hT : ∀ W, Below w.heap.size w W → Kd.C (Kd.int .i64) W A l.length (l.take l.length) := fun W h => by
        have h2 := Kd.C_take (Kd.C_below hC h) hj
        rwa [List.length_take, Nat.min_eq_left hj] at h2
      have hD : ∀ W, Below w.heap.size w W → Kd.C (Kd.int .i64) W (if c = l.length then A else A.map (·.add l.length)) 0 (l.drop l.length) := fun W h => by
        have h2 := Kd.C_drop (Kd.C_below hC h) hj hc
        rw [List.length_drop, Nat.sub_self] at h2
        rw [show l.length * (Kd.int .i64).sz = l.length from Nat.mul_one _] at h2
        exact h2
      have hp := putV_at x l l.length hj hM.out (fun y hy => by rw [List.getElem?_eq_none (by omega)] at hy; cases hy)
      have HP := Lib.hid hp
      have hbs := hb.size
      clear hp
      go_wp2_with (first
        | (at_builtin; (refine Kd.R_append_rows (Kd.int .i64) (w0 := w) w.heap.size rfl (.tmp 34) (.tmp 37) 26 TI (.int .i64 0) 8 rfl Try.underlying26 infoN rfl (by decide) (by omega) (.slice none 0 0) ([] : List Int) (l.take l.length) _ _ _ (fun _ => True) (fun _ => False) rfl rfl (Kd.R_nil _ _ _ _ _) (hT _ hb) (fun _ _ h => h) (fun _ h => h.elim) (fun _ _ => trivial) hb hbs (by simp; omega) ?_); intro v1 W1 R1 hb1 _ _; have hs1 := hb1.size)
        | (at_builtin; (refine Kd.R_append (Kd.int .i64) (w0 := w) w.heap.size rfl (.tmp 39) (.tmp 41) 26 TI (.int .i64 0) 8 rfl Try.underlying26 infoN rfl (by decide) (by omega) v1 _ x [.int .i64 x] (fun _ => True) (fun _ => False) rfl rfl rfl (fun _ hk => hk.elim) (fun _ _ => trivial) R1 hb1 hs1 (by simp; omega) ?_); intro v2 W2 R2 hb2 _ _; have hs2 := hb2.size)
        | (at_builtin; (refine Kd.R_append_rows (Kd.int .i64) (w0 := w) w.heap.size rfl (.tmp 43) (.tmp 46) 26 TI (.int .i64 0) 8 rfl Try.underlying26 infoN rfl (by decide) (by omega) v2 _ (l.drop l.length) _ _ _ (fun _ => True) (fun _ => False) rfl rfl R2 (hD _ hb2) (fun _ _ h => h) (fun _ h => h.elim) (fun _ _ => trivial) hb2 hs2 (by simp; omega) ?_); intro v3 W3 R3 hb3 _ _))
      all_goals go_ret
      all_goals exact ⟨_, rfl, .inr (by rw [HP.out]; exact R3), hb3⟩
theorem putV_le (x : Int) : ∀ l : List Int, (putV l x).length ≤ l.length + 1
  | [] => by simp [putV]
  | a :: t => by
    have := putV_le x t
    simp only [putV]
    split
    · simp
    · split
      · simp
      · simp; omega
theorem unionV_le : ∀ (xs l : List Int), (unionV l xs).length ≤ l.length + xs.length
  | [], l => by simp [unionV]
  | x :: t, l => by
    have h1 := unionV_le t (putV l x)
    have h2 := putV_le x l
    show (unionV (putV l x) t).length ≤ _
    simp
    omega
set_option maxRecDepth 100000 in
set_option maxHeartbeats 4000000 in
theorem union_calls (A : Option Addr) (c : Nat) (l : List Int) (B : Option Addr) (d : Nat) (m : List Int) (w : World) (hC : Kd.C (Kd.int .i64) w A l.length l) (hc : l.length ≤ c) (hD : Kd.C (Kd.int .i64) w B m.length m) (hl : l.length + m.length ≤ 1000000000) :
    Calls Try.prog 33 #[.slice A l.length c, .slice B m.length d] w fun e w' => ∃ v, e = .returned v ∧ ((v = .slice A l.length c ∧ unionV l m = l) ∨ Kd.R (Kd.int .i64) TI w' w.heap.size (fun _ => True) v (unionV l m)) ∧ Below w.heap.size w w' := by
  have hB0 : Below w.heap.size w w := Below.refl _ _
  have hml : m.length ≤ 9223372036854775807 := hD.2.1
  go_enter Try.func33, Try.ntmps33
  go_wp2
  go_loopw [5, 0] (fun i v wr => ∃ (j : Nat), i = .int .i64 (j : Int) ∧ j ≤ m.length ∧ Hid (((v = .slice A l.length c ∧ unionV l (m.take j) = l) ∨ Kd.R (Kd.int .i64) TI wr w.heap.size (fun _ => True) v (unionV l (m.take j)))) ∧ Below w.heap.size w wr) (fun i _ _ => m.length - (Go.RowKit.intOf i).toNat)
  case atStart => exact ⟨0, rfl, Nat.zero_le _, Lib.hid (.inl ⟨rfl, rfl⟩), hB0⟩
  case round =>
    obtain ⟨j, rfl, hj, hM, hb⟩ := hrel
    by_cases hlt : j < m.length
    · obtain ⟨y, hy⟩ : ∃ y, m[j]? = some y := ⟨_, List.getElem?_eq_getElem hlt⟩
      obtain ⟨ad, rfl, hcell⟩ := Kd.at_int (Kd.C_below hD hb) (j : Int) (by omega) (by omega)
      rw [rd_at hy] at hcell
      have hcell' : wr.cell? (ad.add j) = some (.int .i64 y) := hcell
      clear hcell
      have hu : putV (unionV l (m.take j)) y = unionV l (m.take (j + 1)) := by
        rw [List.take_add_one, hy]
        simp [unionV]
      have hul := unionV_le (m.take j) l
      rw [List.length_take] at hul
      obtain ⟨A', c', hv, hc', hC'⟩ : ∃ A' c', u0 = .slice A' (unionV l (m.take j)).length c' ∧ (unionV l (m.take j)).length ≤ c' ∧ Kd.C (Kd.int .i64) wr A' (unionV l (m.take j)).length (unionV l (m.take j)) := by
        rcases hM.out with ⟨h1, h2⟩ | h
        · rw [h2]
          exact ⟨A, c, h1, hc, Kd.C_below hC hb⟩
        · exact Kd.R_reads h
      have hMo := Lib.hid hM.out
      obtain ⟨l', hl'⟩ : ∃ l', unionV l (m.take j) = l' := ⟨_, rfl⟩
      rw [hl'] at hv hc' hC' hul hu hMo
      subst hv
      have hput := put_calls A' c' l' y wr hC' hc' (by omega)
      have hsz := hb.size
      clear hM hy hl'
      go_wp2_with (go_at_call 51; refine hput.mono ?_; rintro e W2 ⟨v2, rfl, hR2, hB2⟩)
      go_roundw
      case rel =>
        refine ⟨j + 1, by go_num, by omega, Lib.hid ?_, hb.trans (hB2.mono hsz)⟩
        rw [← hu]
        rcases hR2 with ⟨h1, h2⟩ | h
        · rcases hMo.out with ⟨h3, h4⟩ | h3
          · exact .inl ⟨h1.trans h3, h2.trans h4⟩
          · refine .inr ?_
            rw [h1, h2]
            exact Kd.R_below h3 hB2
        · exact .inr (Kd.R_lower h hsz)
      case measure => simp [Go.RowKit.intOf]; omega
    · obtain rfl : j = m.length := by omega
      have hM' := hM.out
      rw [List.take_length] at hM'
      go_wp2
      go_ret
      exact ⟨_, rfl, hM', hb⟩
end Go.Proofs.Ytkfpmolplemdlaa.Refs
