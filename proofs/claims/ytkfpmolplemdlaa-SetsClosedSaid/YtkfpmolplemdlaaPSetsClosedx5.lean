/- Laid by this work's own program gp.py, in the form of the kit's print, with some functions told by hand. -/
import Derived.Test.YtkfpmolplemdlaaPSetsClosedx0
import Derived.Test.YtkfpmolplemdlaaPSetsClosedx3
import Derived.Test.YtkfpmolplemdlaaPSetsClosedx4
namespace Go.Proofs.Ytkfpmolplemdlaa.PSetsClosed
open Go.RowKit Go.Proofs.YtkfpmolplemdlaaW.PrintWords Go.Proofs.YtkfpmolplemdlaaW.PrintLast Go.Proofs.YtkfpmolplemdlaaW.PrintMore
attribute [local go_sem] max2_int min2_int max_two min_two max_three min_three max_four min_four   -- for this text's walks alone
set_option linter.unusedVariables false
set_option linter.unusedSimpArgs false
/-! ### bramblelaw10_SetsClosed: function 6, told by hand -/
def closP (k : Nat) (t n : List ByteArray) (l : List S40) (em : List Bool) (Ss FS : List (List Int)) (left : Int) : List S48 → Bool → Option Bool
 | [], al => some al
 | x :: r, al =>
  if (al = true → bramblelaw10_within.f k [Ss.getD x.f0.toNat []] [Ss.getD left.toNat []] = some true) then
   (sets_Ahead.f k t n l r (FS.getD left.toNat [])).bind fun RA =>
    if ((t.length : Int) ≤ x.f0 → bramblelaw10_within.f k [RA] [FS.getD x.f0.toNat []] = some true) then closP k t n l em Ss FS left r (al && Deri.at_ em x.f0) else none
  else none
def closL (k : Nat) (t n : List ByteArray) (l : List S40) (em : List Bool) (Ss FS : List (List Int)) : Bool :=
 l.all fun p => (closP k t n l em Ss FS p.f0 p.f1 true).isSome && decide (closP k t n l em Ss FS p.f0 p.f1 true = some true → Deri.at_ em p.f0 = true)
def bramblelaw10_SetsClosed.f (k : Nat) (l0_0 l0_1 : List ByteArray) (l0_2 : List S40) : Option Bool :=
 (bramblelaw10_few.f k l0_0 l0_1 l0_2).bind fun c => if c = true then
  (sets_First.f k l0_0 l0_1 l0_2).bind fun Ss => (sets_Follow.f k l0_0 l0_1 l0_2).bind fun FS => (sets_Empty.f k l0_0 l0_1 l0_2).bind fun em =>
   if Ss.length = l0_0.length + l0_1.length ∧ FS.length = l0_0.length + l0_1.length ∧ em.length = l0_0.length + l0_1.length ∧ closL k l0_0 l0_1 l0_2 em Ss FS = true then bramblelaw10_awake.f else none
  else bramblelaw10_awake.f
theorem closL_at {k : Nat} {t n : List ByteArray} {l : List S40} {em : List Bool} {Ss FS : List (List Int)} {p : S40} (h : closL k t n l em Ss FS = true) (hp : p ∈ l) : (closP k t n l em Ss FS p.f0 p.f1 true).isSome = true ∧ (closP k t n l em Ss FS p.f0 p.f1 true = some true → Deri.at_ em p.f0 = true) := by
 unfold closL at h
 rw [List.all_eq_true] at h
 have := h p hp
 rw [Bool.and_eq_true, decide_eq_true_eq] at this
 exact this
theorem rd_memP (l : List S40) (i : Nat) (h : i < l.length) : rd_T40 l (i : Int) ∈ l := by
 show l.getD ((i : Int)).toNat _ ∈ l
 rw [Int.toNat_natCast, List.getD_eq_getElem?_getD, List.getElem?_eq_getElem h]
 exact List.getElem_mem h
theorem rd_dropI (l : List S48) (i : Nat) (h : i < l.length) : l.drop i = rd_T48 l (i : Int) :: l.drop (i + 1) := by
 rw [List.drop_eq_getElem_cons h]
 congr 1
 show _ = l.getD ((i : Int)).toNat _
 rw [Int.toNat_natCast, List.getD_eq_getElem?_getD, List.getElem?_eq_getElem h]
 rfl
theorem rd_memI (l : List S48) (i : Nat) (h : i < l.length) : rd_T48 l (i : Int) ∈ l := by
 show l.getD ((i : Int)).toNat _ ∈ l
 rw [Int.toNat_natCast, List.getD_eq_getElem?_getD, List.getElem?_eq_getElem h]
 exact List.getElem_mem h
set_option maxHeartbeats 8000000 in
set_option maxRecDepth 100000 in
theorem bramblelaw10_SetsClosed.calls (k : Nat) (A0_0 : Option Addr) (c0_0 : Nat) (l0_0 : List ByteArray) (A0_1 : Option Addr) (c0_1 : Nat) (l0_1 : List ByteArray) (A0_2 : Option Addr) (c0_2 : Nat) (l0_2 : List S40) (r : Bool) (w : World) (hr0_0 : Kd.C Kd.string w A0_0 l0_0.length l0_0) (hc0_0 : l0_0.length ≤ c0_0) (hr0_1 : Kd.C Kd.string w A0_1 l0_1.length l0_1) (hc0_1 : l0_1.length ≤ c0_1) (hr0_2 : Kd.C k40 w A0_2 l0_2.length l0_2) (hc0_2 : l0_2.length ≤ c0_2) (h : bramblelaw10_SetsClosed.f k l0_0 l0_1 l0_2 = some r) :
  Calls Try.prog 6 #[.agg #[.slice A0_0 l0_0.length c0_0, .slice A0_1 l0_1.length c0_1, .slice A0_2 l0_2.length c0_2]] w fun e w' => e = .returned (.bool r) ∧ Below w.heap.size w w' := by
 unfold bramblelaw10_SetsClosed.f at h
 obtain ⟨c, hc, h⟩ := Option.bind_eq_some_iff.mp h
 obtain ⟨W1, hW1⟩ : ∃ W1, w.alloc (.cells #[.slice A0_0 l0_0.length c0_0, .slice A0_1 l0_1.length c0_1, .slice A0_2 l0_2.length c0_2] 25) = W1 := ⟨_, rfl⟩
 have hb1 : Below w.heap.size w W1 := by rw [← hW1]; exact (Below.refl _ _).alloc (Nat.le_refl _) _
 have f1 : W1.heap[w.heap.size]? = some (.cells #[.slice A0_0 l0_0.length c0_0, .slice A0_1 l0_1.length c0_1, .slice A0_2 l0_2.length c0_2] 25 (0, 0)) := by rw [← hW1]; exact blk_new w _
 have z0 : W1.cell? ⟨w.heap.size, 0, none⟩ = some (.slice A0_0 l0_0.length c0_0) := blk_cell f1 0
 have z1 : W1.cell? ⟨w.heap.size, 1, none⟩ = some (.slice A0_1 l0_1.length c0_1) := blk_cell f1 1
 have z2 : W1.cell? ⟨w.heap.size, 2, none⟩ = some (.slice A0_2 l0_2.length c0_2) := blk_cell f1 2
 have hfew := bramblelaw10_few.calls k A0_0 c0_0 l0_0 A0_1 c0_1 l0_1 A0_2 c0_2 l0_2 c W1 (Kd.C_below hr0_0 hb1) hc0_0 (Kd.C_below hr0_1 hb1) hc0_1 (Kd.C_below hr0_2 hb1) hc0_2 hc
 clear f1 hc
 cases c with
 | false =>
  rw [if_neg (by decide)] at h
  have haw := fun W => bramblelaw10_awake.calls r W h
  clear h hr0_0 hr0_1 hr0_2
  go_enter Try.func6, Try.ntmps6
  go_wp2_with (first | (go_at_call 7; refine hfew.mono ?_; rintro e W2 ⟨rfl, hB2⟩) | (go_at_call 8; refine (haw _).mono ?_; rintro e W3 ⟨rfl, hB3⟩))
  go_ret
  exact ⟨rfl, (hb1.trans (hB2.mono hb1.size)).trans (hB3.mono (hb1.trans (hB2.mono hb1.size)).size)⟩
 | true =>
 rw [if_pos rfl] at h
 obtain ⟨Ss, q1, h⟩ := Option.bind_eq_some_iff.mp h
 obtain ⟨FS, q2, h⟩ := Option.bind_eq_some_iff.mp h
 obtain ⟨em, q3, h⟩ := Option.bind_eq_some_iff.mp h
 split at h
 case isFalse => cases h
 rename_i hg
 have hok : flOk (l0_0.length + l0_1.length) l0_1.length (l0_2.map prE) = true := by
  unfold sets_Empty.f at q3
  split at q3
  ·assumption
  ·cases q3
 have hf1 := fun W (h : Below w.heap.size w W) => sets_First.calls k A0_0 c0_0 l0_0 A0_1 c0_1 l0_1 A0_2 c0_2 l0_2 Ss W (Kd.C_below hr0_0 h) hc0_0 (Kd.C_below hr0_1 h) hc0_1 (Kd.C_below hr0_2 h) hc0_2 q1
 have hf2 := fun W (h : Below w.heap.size w W) => sets_Follow.calls k A0_0 c0_0 l0_0 A0_1 c0_1 l0_1 A0_2 c0_2 l0_2 FS W (Kd.C_below hr0_0 h) hc0_0 (Kd.C_below hr0_1 h) hc0_1 (Kd.C_below hr0_2 h) hc0_2 q2
 have hf3 := fun W (h : Below w.heap.size w W) => sets_Empty.calls k A0_0 c0_0 l0_0 A0_1 c0_1 l0_1 A0_2 c0_2 l0_2 em W (Kd.C_below hr0_0 h) hc0_0 (Kd.C_below hr0_1 h) hc0_1 (Kd.C_below hr0_2 h) hc0_2 q3
 clear q1 q2 q3
 have haw := fun W => bramblelaw10_awake.calls r W h
 obtain ⟨N, hN⟩ : ∃ N, l0_0.length + l0_1.length = N := ⟨_, rfl⟩
 rw [hN] at hg hok
 have HN : (l0_0.length : Int) + (l0_1.length : Int) = (N : Int) := by omega
 obtain ⟨e1, e2, e3, hcl⟩ := hg
 have HCL := Lib.hid (And.intro hcl hok)
 have HE1 := Lib.hid (And.intro e1 (And.intro e2 e3))
 have hN1 := (flOk_N hok).1
 have hN2 := (flOk_N hok).2
 clear h e1 e2 e3 hcl hok
 go_enter Try.func6, Try.ntmps6
 go_wp2_with (go_at_call 7; refine hfew.mono ?_; rintro e W2 ⟨rfl, hB2⟩)
 rename_i K6 hK6
 obtain ⟨e1, e2, e3⟩ := HE1.out
 have hb2 : Below w.heap.size w W2.drew := below_drew (hb1.trans (hB2.mono hb1.size))
 have hHeld : (fun X => X.cell? ⟨w.heap.size, 0, none⟩ = some (.slice A0_0 l0_0.length c0_0) ∧ X.cell? ⟨w.heap.size, 1, none⟩ = some (.slice A0_1 l0_1.length c0_1) ∧ X.cell? ⟨w.heap.size, 2, none⟩ = some (.slice A0_2 l0_2.length c0_2)) W2.drew := ⟨pw_cell_below hB2 z0, pw_cell_below hB2 z1, pw_cell_below hB2 z2⟩
 have keep3 : ∀ X Y : World, Below X.heap.size X Y → (fun X => X.cell? ⟨w.heap.size, 0, none⟩ = some (.slice A0_0 l0_0.length c0_0) ∧ X.cell? ⟨w.heap.size, 1, none⟩ = some (.slice A0_1 l0_1.length c0_1) ∧ X.cell? ⟨w.heap.size, 2, none⟩ = some (.slice A0_2 l0_2.length c0_2)) X → (fun X => X.cell? ⟨w.heap.size, 0, none⟩ = some (.slice A0_0 l0_0.length c0_0) ∧ X.cell? ⟨w.heap.size, 1, none⟩ = some (.slice A0_1 l0_1.length c0_1) ∧ X.cell? ⟨w.heap.size, 2, none⟩ = some (.slice A0_2 l0_2.length c0_2)) Y := fun X Y h hh => ⟨pw_cell_below h hh.1, pw_cell_below h hh.2.1, pw_cell_below h hh.2.2⟩
 refine Ahd.wp_qz (start_ (S := (fun X => X.cell? ⟨w.heap.size, 0, none⟩ = some (.slice A0_0 l0_0.length c0_0) ∧ X.cell? ⟨w.heap.size, 1, none⟩ = some (.slice A0_1 l0_1.length c0_1) ∧ X.cell? ⟨w.heap.size, 2, none⟩ = some (.slice A0_2 l0_2.length c0_2))) (ds := []) #[false, false, false, false, false, false, false, false, false] (by kernel_rfl) rfl rfl hHeld (fun h0_ => ?_))
 clear h0_
 refine take_ (i := 0) (N := (some 17)) (v := ?_) (a' := ?_) #[true, false, false, false, false, false, false, false, false] rfl rfl (by kernel_rfl) (fun _ _ _ h => h) (Or.inl ⟨by rfl, ?_⟩) hHeld ?_ ?_
 rotate_left
 ·rintro w' ⟨s0, s1, s2⟩
  go_simp
  with_reducible rfl
 rotate_left
 ·simp only [Act.put, List.setIfInBounds_toArray, List.set_cons_zero, List.set_cons_succ]
  rfl
 refine take_ (i := 2) (N := (some 19)) (v := ?_) (a' := ?_) #[true, false, true, false, false, false, false, false, false] rfl rfl (by kernel_rfl) (fun _ _ _ h => h) (Or.inl ⟨by rfl, ?_⟩) hHeld ?_ ?_
 rotate_left
 ·rintro w' ⟨s0, s1, s2⟩
  go_simp
  with_reducible rfl
 rotate_left
 ·simp only [Act.put, List.setIfInBounds_toArray, List.set_cons_zero, List.set_cons_succ]
  rfl
 refine take_ (i := 4) (N := (some 21)) (v := ?_) (a' := ?_) #[true, false, true, false, true, false, false, false, false] rfl rfl (by kernel_rfl) (fun _ _ _ h => h) (Or.inl ⟨by rfl, ?_⟩) hHeld ?_ ?_
 rotate_left
 ·rintro w' ⟨s0, s1, s2⟩
  go_simp
  with_reducible rfl
 rotate_left
 ·simp only [Act.put, List.setIfInBounds_toArray, List.set_cons_zero, List.set_cons_succ]
  rfl
 refine one_ (i := 1) (N := (some 18)) #[true, true, true, false, true, false, false, false, false] rfl rfl (by kernel_rfl) (by decide) (fun K hK => ?_)
 refine goes_ Try.func12 (by kernel_rfl) rfl #[.agg #[.slice A0_0 l0_0.length c0_0, .slice A0_1 l0_1.length c0_1, .slice A0_2 l0_2.length c0_2]] (by rfl) rfl rfl (by first | rfl | (simp [Act.eval]; done) | (simp [go_sem]; done)) ?_
 refine (hf1 W2.drew hb2).mono ?_
 rintro e W3 ⟨v3, rfl, hR3, hB3⟩
 obtain ⟨B3, d3, hv3, hl3, hC3⟩ := Kd.R_reads hR3
 rw [e1] at hv3 hl3 hC3
 subst hv3
 have hb3 := hb2.trans (hB3.mono hb2.size)
 refine ⟨_, rfl, ?_⟩
 have hh3 := keep3 _ _ hB3 hHeld
 refine hK.out _ _ hh3 (fun h0_ => ?_)
 clear hK K h0_
 refine one_ (i := 3) (N := (some 20)) #[true, true, true, true, true, false, false, false, false] rfl rfl (by kernel_rfl) (by decide) (fun K hK => ?_)
 refine goes_ Try.func15 (by kernel_rfl) rfl #[.agg #[.slice A0_0 l0_0.length c0_0, .slice A0_1 l0_1.length c0_1, .slice A0_2 l0_2.length c0_2]] (by rfl) rfl rfl (by first | rfl | (simp [Act.eval]; done) | (simp [go_sem]; done)) ?_
 refine (hf2 W3 hb3).mono ?_
 rintro e W4 ⟨v4, rfl, hR4, hB4⟩
 obtain ⟨B4, d4, hv4, hl4, hC4⟩ := Kd.R_reads hR4
 rw [e2] at hv4 hl4 hC4
 subst hv4
 have hb4 := hb3.trans (hB4.mono hb3.size)
 refine ⟨_, rfl, ?_⟩
 have hh4 := keep3 _ _ hB4 hh3
 refine hK.out _ _ hh4 (fun h0_ => ?_)
 clear hK K h0_
 refine one_ (i := 5) (N := (some 22)) #[true, true, true, true, true, true, false, false, false] rfl rfl (by kernel_rfl) (by decide) (fun K hK => ?_)
 refine goes_ Try.func11 (by kernel_rfl) rfl #[.agg #[.slice A0_0 l0_0.length c0_0, .slice A0_1 l0_1.length c0_1, .slice A0_2 l0_2.length c0_2]] (by rfl) rfl rfl (by first | rfl | (simp [Act.eval]; done) | (simp [go_sem]; done)) ?_
 refine (hf3 W4 hb4).mono ?_
 rintro e W5 ⟨v5, rfl, hR5, hB5⟩
 obtain ⟨B5, d5, hv5, hl5, hC5⟩ := Kd.R_reads hR5
 rw [e3] at hv5 hl5 hC5
 subst hv5
 have hb5 := hb4.trans (hB5.mono hb4.size)
 refine ⟨_, rfl, ?_⟩
 have hh5 := keep3 _ _ hB5 hh4
 refine hK.out _ _ hh5 (fun h0_ => ?_)
 clear hK K h0_
 refine pure_ (i := 6) (N := (some 3)) (v := ?_) (a' := ?_) #[true, true, true, true, true, true, true, false, false] rfl rfl (by kernel_rfl) (fun _ _ _ h => h) (Or.inl ⟨by rfl, ?_⟩) ?_ ?_
 rotate_left
 ·intro w'
  go_simp
  with_reducible rfl
 rotate_left
 ·simp only [Act.put, List.setIfInBounds_toArray, List.set_cons_zero, List.set_cons_succ]
  rfl
 refine pure_ (i := 7) (N := (some 4)) (v := ?_) (a' := ?_) #[true, true, true, true, true, true, true, true, false] rfl rfl (by kernel_rfl) (fun _ _ _ h => h) (Or.inl ⟨by rfl, ?_⟩) ?_ ?_
 rotate_left
 ·intro w'
  go_simp
  with_reducible rfl
 rotate_left
 ·simp only [Act.put, List.setIfInBounds_toArray, List.set_cons_zero, List.set_cons_succ]
  rfl
 refine pure_ (i := 8) (N := (some 5)) (v := ?_) (a' := ?_) #[true, true, true, true, true, true, true, true, true] rfl rfl (by kernel_rfl) (fun _ _ _ h => h) (Or.inl ⟨by rfl, ?_⟩) ?_ ?_
 rotate_left
 ·intro w'
  go_simp
  with_reducible rfl
 rotate_left
 ·simp only [Act.put, List.setIfInBounds_toArray, List.set_cons_zero, List.set_cons_succ]
  rfl
 refine done_ (by kernel_rfl) ?_
 refine hK6 _ _ ?_
 obtain ⟨z0, z1, z2⟩ := hh5
 clear hK6 keep3 hHeld hh3 hh4 hfew hR3 hR4 hR5 hf1 hf2 hf3 e1 e2 e3 hW1
 obtain ⟨a3, rfl⟩ : ∃ a, B3 = some a := by obtain ⟨ad, _, _, e, _⟩ := RAhead.atL hC3 0 (by omega); exact ⟨ad, e⟩
 obtain ⟨a4, rfl⟩ : ∃ a, B4 = some a := by obtain ⟨ad, _, _, e, _⟩ := RAhead.atL hC4 0 (by omega); exact ⟨ad, e⟩
 obtain ⟨a5, rfl⟩ : ∃ a, B5 = some a := by obtain ⟨ad, e, _⟩ := Kd.at_bool hC5 0 (by omega) (by omega); exact ⟨ad, e⟩
 have C3 := Kd.C_below (Kd.C_below hC3 hB4) hB5
 have C4 := Kd.C_below hC4 hB5
 have hbw := hb5
 clear hC3 hC4 hb1 hb2 hb3 hb4 hB2 hB3 hB4 hB5 hb5
 have HC3 := Lib.hid C3
 have HC4 := Lib.hid C4
 have HC5 := Lib.hid hC5
 clear C3 C4 hC5
 have hpl : l0_2.length ≤ 9223372036854775807 := hr0_2.2.1
 go_wp2
 go_loopw [49] (fun i wr => ∃ q : Nat, i = .int .i64 (q : Int) ∧ q ≤ l0_2.length ∧ Below W5.heap.size W5 wr) (fun i _ => l0_2.length - (Go.RowKit.intOf i).toNat)
 case atStart => exact ⟨0, rfl, Nat.zero_le _, Below.refl _ _⟩
 case round =>
  obtain ⟨q, rfl, hq, hb⟩ := hrel
  by_cases hlt : q < l0_2.length
  ·obtain ⟨adp, AR, cR, rfl, f0', f1', f2', hlR, hCR⟩ := at_T40 hr0_2 (q : Int) (by omega) (by omega)
   simp only [Int.toNat_natCast] at f0' f1' f2'
   have hmp := rd_memP l0_2 q hlt
   obtain ⟨p, hp⟩ : ∃ p, rd_T40 l0_2 (q : Int) = p := ⟨_, rfl⟩
   rw [hp] at f0' f1' f2' hlR hCR hmp
   have hbq := hbw.trans (hb.mono hbw.size)
   have f0 := pw_cell_below hbq f0'
   have f1 := pw_cell_below hbq f1'
   have f2 := pw_cell_below hbq f2'
   obtain ⟨hcp, hpx⟩ := closL_at HCL.out.1 hmp
   have hpo := flOk_ps HCL.out.2 (prE p) (List.mem_map_of_mem hmp)
   have hp0 : 0 ≤ p.f0 := hpo.1.1
   have hp1 : p.f0 < (N : Int) := hpo.1.2.1
   have hRl : p.f1.length ≤ 9223372036854775807 := hCR.2.1
   have hit : ∀ x ∈ p.f1, 0 ≤ x.f0 ∧ x.f0 < (N : Int) := fun x hx => hpo.1.2.2 (itE x) (List.mem_map_of_mem hx)
   obtain ⟨alF, hal⟩ := Option.isSome_iff_exists.1 hcp
   rw [hal] at hpx
   have HK0 := Lib.hid (show closP k l0_0 l0_1 l0_2 em Ss FS p.f0 (p.f1.drop 0) true = some alF from hal)
   have HPX := Lib.hid hpx
   have HIT := Lib.hid hit
   clear hal hpx hcp hpo hmp hit hp f0' f1' f2'
   have alB : ∀ (W : World) (o : Obj), Below W.heap.size W (W.alloc o) := fun W o => (Below.refl _ _).alloc (Nat.le_refl _) o
   go_wp2
   have bp := blk_new wr (.cells #[.int .i64 p.f0, .slice AR p.f1.length cR, .int .i64 p.f2] 40)
   have hBp := alB wr (.cells #[.int .i64 p.f0, .slice AR p.f1.length cR, .int .i64 p.f2] 40)
   obtain ⟨Wp, hWp⟩ : ∃ W, wr.alloc (.cells #[.int .i64 p.f0, .slice AR p.f1.length cR, .int .i64 p.f2] 40) = W := ⟨_, rfl⟩
   rw [hWp] at bp hBp
   rw [hWp]
   obtain ⟨pb, hpb⟩ : ∃ pb, wr.heap.size = pb := ⟨_, rfl⟩
   have hb0 := hb.trans (hBp.mono hb.size)
   have szp : Wp.heap.size = pb + 1 := by rw [← hWp, ← hpb]; simp
   have h5p : W5.heap.size ≤ pb := by rw [← hpb]; exact hb.size
   rw [hpb] at bp
   rw [hpb]
   have BP := Lib.hid bp
   clear hWp hpb bp hBp hb hbq f0 f1 f2
   go_loopw [9, 56] (fun al i wx => ∃ (j : Nat) (a : Bool), i = .int .i64 (j : Int) ∧ al = .bool a ∧ j ≤ p.f1.length ∧ Hid (closP k l0_0 l0_1 l0_2 em Ss FS p.f0 (p.f1.drop j) a = some alF) ∧ Hid (wx.heap[pb]? = some (.cells #[.int .i64 p.f0, .slice AR p.f1.length cR, .int .i64 p.f2] 40 (0, 0))) ∧ Below W5.heap.size W5 wx ∧ pb < wx.heap.size) (fun _ i _ => p.f1.length - (Go.RowKit.intOf i).toNat)
   case atStart => exact ⟨0, true, rfl, rfl, Nat.zero_le _, HK0, BP, hb0, by omega⟩
   case round =>
    clear HK0 BP hb0 szp
    obtain ⟨j, a, rfl, rfl, hj, HK, BP, hb, hpw⟩ := hrel
    by_cases hlj : j < p.f1.length
    ·obtain ⟨adx, rfl, i0', i1', i2'⟩ := at_T48 hCR (j : Int) (by omega) (by omega)
     simp only [Int.toNat_natCast] at i0' i1' i2'
     have hmx := rd_memI p.f1 j hlj
     have hdx := rd_dropI p.f1 j hlj
     obtain ⟨x, hx⟩ : ∃ x, rd_T48 p.f1 (j : Int) = x := ⟨_, rfl⟩
     rw [hx] at i0' i1' i2' hmx hdx
     have hx0 := (HIT.out x hmx).1
     have hx1 := (HIT.out x hmx).2
     have hbq := hbw.trans (hb.mono hbw.size)
     have i0 := pw_cell_below hbq i0'
     have i1 := pw_cell_below hbq i1'
     have i2 := pw_cell_below hbq i2'
     have hk := HK.out
     rw [hdx] at hk
     simp only [closP] at hk
     split at hk
     case isFalse => cases hk
     rename_i hw1
     obtain ⟨RA, hra, hk⟩ := Option.bind_eq_some_iff.mp hk
     split at hk
     case isFalse => cases hk
     rename_i hw2
     obtain ⟨SX, hSX⟩ : ∃ S, Ss.getD x.f0.toNat [] = S := ⟨_, rfl⟩
     obtain ⟨SL, hSL⟩ : ∃ S, Ss.getD p.f0.toNat [] = S := ⟨_, rfl⟩
     obtain ⟨FX, hFX⟩ : ∃ S, FS.getD x.f0.toNat [] = S := ⟨_, rfl⟩
     obtain ⟨FL, hFL⟩ : ∃ S, FS.getD p.f0.toNat [] = S := ⟨_, rfl⟩
     obtain ⟨_, Ax, cx, e1, kx, lx, Cx⟩ := RAhead.atL HC3.out x.f0.toNat (by omega)
     cases e1
     obtain ⟨_, Ay, cy, e1, ky, ly, Cy⟩ := RAhead.atL HC3.out p.f0.toNat (by omega)
     cases e1
     obtain ⟨_, Af, cf, e1, kf, lf, Cf⟩ := RAhead.atL HC4.out x.f0.toNat (by omega)
     cases e1
     obtain ⟨_, Ae, ce, e1, ke, le, Ce⟩ := RAhead.atL HC4.out p.f0.toNat (by omega)
     cases e1
     obtain ⟨_, e1, km⟩ := Kd.at_bool HC5.out x.f0 hx0 hx1
     cases e1
     have km' : W5.cell? (a5.add x.f0.toNat) = some (.bool (Deri.at_ em x.f0)) := km
     rw [hSX] at kx lx Cx
     rw [hSL] at ky ly Cy
     rw [hFX] at kf lf Cf
     rw [hFL] at ke le Ce
     rw [hSX, hSL] at hw1
     rw [hFL] at hra
     rw [hFX] at hw2
     have HRA := Lib.hid hra
     have HW2 := Lib.hid hw2
     have HKn := Lib.hid hk
     have HW1' := Lib.hid hw1
     clear hk hw1 hw2 hra hSX hSL hFX hFL hmx hdx hx km HK
     clear hk
     have l0 := pw_cell_below hb kx
     have l1 := pw_cell_below hb ky
     have hlx9 : SX.length ≤ 9223372036854775807 := Cx.2.1
     go_wp2
     rename_i K6 hK6
     have bx := blk_new wr (.cells #[.int .i64 x.f0, .string x.f1, .string x.f2] 48)
     have hBx := alB wr (.cells #[.int .i64 x.f0, .string x.f1, .string x.f2] 48)
     obtain ⟨Wx, hWx⟩ : ∃ W, wr.alloc (.cells #[.int .i64 x.f0, .string x.f1, .string x.f2] 48) = W := ⟨_, rfl⟩
     rw [hWx] at bx hBx
     rw [hWx]
     obtain ⟨xb, hxb⟩ : ∃ xb, wr.heap.size = xb := ⟨_, rfl⟩
     have hbx := hb.trans (hBx.mono hb.size)
     have bpx := blk_below BP.out hBx
     rw [hxb] at bx
     rw [hxb]
     have hbd : Below W5.heap.size W5 Wx.drew := below_drew hbx
     have hpx : pb < Wx.heap.size := blk_lt bpx
     have hxx : xb < Wx.heap.size := blk_lt bx
     obtain ⟨Wd, hWd⟩ : ∃ W, Wx.drew = W := ⟨_, rfl⟩
     have d0 : Wd.heap[xb]? = some (.cells #[.int .i64 x.f0, .string x.f1, .string x.f2] 48 (0, 0)) := by rw [← hWd]; exact blk_drew bx
     have d1 : Wd.heap[pb]? = some (.cells #[.int .i64 p.f0, .slice (some adx) p.f1.length cR, .int .i64 p.f2] 40 (0, 0)) := by rw [← hWd]; exact blk_drew bpx
     rw [hWd] at hbd
     have hHeld : (fun X => X.cell? ⟨xb, 0, none⟩ = some (.int .i64 x.f0) ∧ X.cell? ⟨pb, 0, none⟩ = some (.int .i64 p.f0) ∧ X.cell? (a3.add x.f0.toNat) = some (.slice Ax SX.length cx) ∧ X.cell? (a3.add p.f0.toNat) = some (.slice Ay SL.length cy)) Wd := ⟨blk_cell d0 0, blk_cell d1 0, pw_cell_below hbd kx, pw_cell_below hbd ky⟩
     have hHeldX : (fun X => X.cell? ⟨xb, 0, none⟩ = some (.int .i64 x.f0) ∧ X.cell? ⟨pb, 0, none⟩ = some (.int .i64 p.f0) ∧ X.cell? (a3.add x.f0.toNat) = some (.slice Ax SX.length cx) ∧ X.cell? (a3.add p.f0.toNat) = some (.slice Ay SL.length cy)) Wx.drew := by rw [hWd]; exact hHeld
     have keep14 : ∀ X Y : World, Below X.heap.size X Y → (fun X => X.cell? ⟨xb, 0, none⟩ = some (.int .i64 x.f0) ∧ X.cell? ⟨pb, 0, none⟩ = some (.int .i64 p.f0) ∧ X.cell? (a3.add x.f0.toNat) = some (.slice Ax SX.length cx) ∧ X.cell? (a3.add p.f0.toNat) = some (.slice Ay SL.length cy)) X → (fun X => X.cell? ⟨xb, 0, none⟩ = some (.int .i64 x.f0) ∧ X.cell? ⟨pb, 0, none⟩ = some (.int .i64 p.f0) ∧ X.cell? (a3.add x.f0.toNat) = some (.slice Ax SX.length cx) ∧ X.cell? (a3.add p.f0.toNat) = some (.slice Ay SL.length cy)) Y := fun X Y h hh => ⟨pw_cell_below h hh.1, pw_cell_below h hh.2.1, pw_cell_below h hh.2.2.1, pw_cell_below h hh.2.2.2⟩
     have D0 := Lib.hid d0
     have D1 := Lib.hid d1
     clear hWx hxb bx hBx hbx bpx d0 d1 i0 i1 i2 l0 l1 BP hb hbq
     have main : ∀ W8 : World, Below Wd.heap.size Wd W8 → Below W5.heap.size W5 W8 := fun W8 h => hbd.trans (h.mono hbd.size)
     cases a with
     | true =>
      have HW1 := Lib.hid (HW1'.out rfl)
      obtain ⟨ab, hab⟩ : ∃ ab, Deri.at_ em x.f0 = ab := ⟨_, rfl⟩
      have hkn : closP k l0_0 l0_1 l0_2 em Ss FS p.f0 (p.f1.drop (j + 1)) (Deri.at_ em x.f0) = some alF := HKn.out
      rw [hab] at km' hkn
      clear hab HKn HW1'
      have HKn := Lib.hid hkn
      clear hkn
      refine Ahd.wp_qz (start_ (S := (fun X => X.cell? ⟨xb, 0, none⟩ = some (.int .i64 x.f0) ∧ X.cell? ⟨pb, 0, none⟩ = some (.int .i64 p.f0) ∧ X.cell? (a3.add x.f0.toNat) = some (.slice Ax SX.length cx) ∧ X.cell? (a3.add p.f0.toNat) = some (.slice Ay SL.length cy))) (ds := []) #[false, false, false, false, false, false, false, false, false, false, false, false, false, false, false, false, false] (by kernel_rfl) rfl rfl hHeldX (fun h0_ => ?_))
      clear h0_
      rw [hWd]
      refine pure_ (i := 0) (N := (some 61)) (v := ?_) (a' := ?_) #[true, false, false, false, false, false, false, false, false, false, false, false, false, false, false, false, false] rfl rfl (by kernel_rfl) (fun _ _ _ h => h) (Or.inl ⟨by rfl, ?_⟩) ?_ ?_
      rotate_left
      ·intro w'
       go_simp
       with_reducible rfl
      rotate_left
      ·simp only [Act.put, List.setIfInBounds_toArray, List.set_cons_zero, List.set_cons_succ]
       rfl
      refine pure_ (i := 1) (N := (some 62)) (v := ?_) (a' := ?_) #[true, true, false, false, false, false, false, false, false, false, false, false, false, false, false, false, false] rfl rfl (by kernel_rfl) (fun _ _ _ h => h) (Or.inl ⟨by rfl, ?_⟩) ?_ ?_
      rotate_left
      ·intro w'
       go_simp
       with_reducible rfl
      rotate_left
      ·simp only [Act.put, List.setIfInBounds_toArray, List.set_cons_zero, List.set_cons_succ]
       rfl
      refine pure_ (i := 2) (N := (some 63)) (v := ?_) (a' := ?_) #[true, true, true, false, false, false, false, false, false, false, false, false, false, false, false, false, false] rfl rfl (by kernel_rfl) (fun _ _ _ h => h) (Or.inl ⟨by rfl, ?_⟩) ?_ ?_
      rotate_left
      ·intro w'
       go_simp
       with_reducible rfl
      rotate_left
      ·simp only [Act.put, List.setIfInBounds_toArray, List.set_cons_zero, List.set_cons_succ]
       rfl
      refine pure_ (i := 3) (N := (some 64)) (v := ?_) (a' := ?_) #[true, true, true, true, false, false, false, false, false, false, false, false, false, false, false, false, false] rfl rfl (by kernel_rfl) (fun _ _ _ h => h) (Or.inl ⟨by rfl, ?_⟩) ?_ ?_
      rotate_left
      ·intro w'
       go_simp
       with_reducible rfl
      rotate_left
      ·simp only [Act.put, List.setIfInBounds_toArray, List.set_cons_zero, List.set_cons_succ]
       rfl
      refine take_ (i := 4) (N := (some 65)) (v := ?_) (a' := ?_) #[true, true, true, true, true, false, false, false, false, false, false, false, false, false, false, false, false] rfl rfl (by kernel_rfl) (fun _ _ _ h => h) (Or.inl ⟨by rfl, ?_⟩) hHeld ?_ ?_
      rotate_left
      ·rintro w' ⟨s0, s1, s2, s3⟩
       go_simp
       with_reducible rfl
      rotate_left
      ·simp only [Act.put, List.setIfInBounds_toArray, List.set_cons_zero, List.set_cons_succ]
       rfl
      refine pure_ (i := 5) (N := (some 66)) (v := ?_) (a' := ?_) #[true, true, true, true, true, true, false, false, false, false, false, false, false, false, false, false, false] rfl rfl (by kernel_rfl) (fun _ _ _ h => h) (Or.inl ⟨by rfl, ?_⟩) ?_ ?_
      rotate_left
      ·intro w'
       go_simp
       with_reducible rfl
      rotate_left
      ·simp only [Act.put, List.setIfInBounds_toArray, List.set_cons_zero, List.set_cons_succ]
       rfl
      refine take_ (i := 6) (N := (some 67)) (v := ?_) (a' := ?_) #[true, true, true, true, true, true, true, false, false, false, false, false, false, false, false, false, false] rfl rfl (by kernel_rfl) (fun _ _ _ h => h) (Or.inl ⟨by rfl, ?_⟩) hHeld ?_ ?_
      rotate_left
      ·rintro w' ⟨s0, s1, s2, s3⟩
       go_simp
       with_reducible rfl
      rotate_left
      ·simp only [Act.put, List.setIfInBounds_toArray, List.set_cons_zero, List.set_cons_succ]
       rfl
      refine pure_ (i := 8) (N := (some 69)) (v := ?_) (a' := ?_) #[true, true, true, true, true, true, true, false, true, false, false, false, false, false, false, false, false] rfl rfl (by kernel_rfl) (fun _ _ _ h => h) (Or.inl ⟨by rfl, ?_⟩) ?_ ?_
      rotate_left
      ·intro w'
       go_simp
       with_reducible rfl
      rotate_left
      ·simp only [Act.put, List.setIfInBounds_toArray, List.set_cons_zero, List.set_cons_succ]
       rfl
      refine pure_ (i := 9) (N := (some 70)) (v := ?_) (a' := ?_) #[true, true, true, true, true, true, true, false, true, true, false, false, false, false, false, false, false] rfl rfl (by kernel_rfl) (fun _ _ _ h => h) (Or.inl ⟨by rfl, ?_⟩) ?_ ?_
      rotate_left
      ·intro w'
       go_simp
       with_reducible rfl
      rotate_left
      ·simp only [Act.put, List.setIfInBounds_toArray, List.set_cons_zero, List.set_cons_succ]
       rfl
      refine take_ (i := 10) (N := (some 71)) (v := ?_) (a' := ?_) #[true, true, true, true, true, true, true, false, true, true, true, false, false, false, false, false, false] rfl rfl (by kernel_rfl) (fun _ _ _ h => h) (Or.inl ⟨by rfl, ?_⟩) hHeld ?_ ?_
      rotate_left
      ·rintro w' ⟨s0, s1, s2, s3⟩
       go_simp
       with_reducible rfl
      rotate_left
      ·simp only [Act.put, List.setIfInBounds_toArray, List.set_cons_zero, List.set_cons_succ]
       rfl
      refine pure_ (i := 11) (N := (some 72)) (v := ?_) (a' := ?_) #[true, true, true, true, true, true, true, false, true, true, true, true, false, false, false, false, false] rfl rfl (by kernel_rfl) (fun _ _ _ h => h) (Or.inl ⟨by rfl, ?_⟩) ?_ ?_
      rotate_left
      ·intro w'
       go_simp
       with_reducible rfl
      rotate_left
      ·simp only [Act.put, List.setIfInBounds_toArray, List.set_cons_zero, List.set_cons_succ]
       rfl
      refine take_ (i := 12) (N := (some 73)) (v := ?_) (a' := ?_) #[true, true, true, true, true, true, true, false, true, true, true, true, true, false, false, false, false] rfl rfl (by kernel_rfl) (fun _ _ _ h => h) (Or.inl ⟨by rfl, ?_⟩) hHeld ?_ ?_
      rotate_left
      ·rintro w' ⟨s0, s1, s2, s3⟩
       go_simp
       with_reducible rfl
      rotate_left
      ·simp only [Act.put, List.setIfInBounds_toArray, List.set_cons_zero, List.set_cons_succ]
       rfl
      refine join_ (σ := Nat × Nat) 3 #[true, true, true, true, true, true, true, true, true, true, true, true, true, true, false, false, false] (fun s => [(68, .slice (some ⟨s.1, 0, none⟩) 1 1), (74, .slice (some ⟨s.2, 0, none⟩) 1 1)]) (fun s w' => Below Wd.heap.size Wd w' ∧ w'.heap[s.1]? = some (.cells [Value.slice Ax SX.length cx].toArray 26 (0, 0)) ∧ w'.heap[s.2]? = some (.cells [Value.slice Ay SL.length cy].toArray 26 (0, 0)) ∧ (fun X => X.cell? ⟨xb, 0, none⟩ = some (.int .i64 x.f0) ∧ X.cell? ⟨pb, 0, none⟩ = some (.int .i64 p.f0) ∧ X.cell? (a3.add x.f0.toNat) = some (.slice Ax SX.length cx) ∧ X.cell? (a3.add p.f0.toNat) = some (.slice Ay SL.length cy)) w') ?_ ?_
      rotate_left
      ·intro hCont
       refine two_ (i := 7) (j := 13) (Ni := (some 68)) (Nj := (some 74)) #[true, true, true, true, true, true, true, true, true, true, true, true, true, false, false, false, false] #[true, true, true, true, true, true, true, false, true, true, true, true, true, true, false, false, false] rfl rfl rfl rfl (by kernel_rfl) (by decide) (by decide) (fun K hK => ?_) (fun K hK => ?_)
       ·skip
        refine value_ (w1 := Wd.alloc (Obj.cells #[Value.slice Ax SX.length cx] 26)) (v := .slice (some ⟨Wd.heap.size, 0, none⟩) 1 1) (by rfl) rfl ?_ ?_
        ·go_simp
        have hhA := keep14 Wd (Wd.alloc (Obj.cells #[Value.slice Ax SX.length cx] 26)) (alB _ _) hHeld
        refine hK.out _ _ hhA (fun h0_ => ?_)
        clear hK K h0_
        refine norm_ (a' := ?_) ?_ ?_
        rotate_left
        ·show Act.put _ (some 68) _ = _
         simp only [Act.put, List.setIfInBounds_toArray, List.set_cons_zero, List.set_cons_succ]
         rfl
        refine one_ (i := 13) (N := (some 74)) #[true, true, true, true, true, true, true, true, true, true, true, true, true, true, false, false, false] rfl rfl (by kernel_rfl) (by decide) (fun K hK => ?_)
        refine value_ (w1 := (Wd.alloc (Obj.cells #[Value.slice Ax SX.length cx] 26)).alloc (Obj.cells #[Value.slice Ay SL.length cy] 26)) (v := .slice (some ⟨Wd.heap.size + 1, 0, none⟩) 1 1) (by rfl) rfl ?_ ?_
        ·go_simp
        have hhB := keep14 (Wd.alloc (Obj.cells #[Value.slice Ax SX.length cx] 26)) ((Wd.alloc (Obj.cells #[Value.slice Ax SX.length cx] 26)).alloc (Obj.cells #[Value.slice Ay SL.length cy] 26)) (alB _ _) hhA
        refine hK.out _ _ hhB (fun h0_ => ?_)
        clear hK K h0_
        refine norm_ (a' := ?_) ?_ ?_
        rotate_left
        ·show Act.put _ (some 74) _ = _
         simp only [Act.put, List.setIfInBounds_toArray, List.set_cons_zero, List.set_cons_succ]
         rfl
        exact norm_ (by first | (simp only [putAll, Act.put, List.setIfInBounds_toArray, List.set_cons_zero, List.set_cons_succ]; done) | (simp only [putAll, Act.put, List.setIfInBounds_toArray, List.set_cons_zero, List.set_cons_succ]; rfl)) (hCont (Wd.heap.size, Wd.heap.size + 1) _ ⟨((alB Wd (Obj.cells #[Value.slice Ax SX.length cx] 26)).trans ((alB (Wd.alloc (Obj.cells #[Value.slice Ax SX.length cx] 26)) (Obj.cells #[Value.slice Ay SL.length cy] 26)).mono (alB Wd (Obj.cells #[Value.slice Ax SX.length cx] 26)).size)), blk_alloc (blk_new Wd (Obj.cells #[Value.slice Ax SX.length cx] 26)) _, (by have := blk_new (Wd.alloc (Obj.cells #[Value.slice Ax SX.length cx] 26)) (Obj.cells #[Value.slice Ay SL.length cy] 26); simpa using this), hhB⟩)
       ·skip
        refine value_ (w1 := Wd.alloc (Obj.cells #[Value.slice Ay SL.length cy] 26)) (v := .slice (some ⟨Wd.heap.size, 0, none⟩) 1 1) (by rfl) rfl ?_ ?_
        ·go_simp
        have hhA := keep14 Wd (Wd.alloc (Obj.cells #[Value.slice Ay SL.length cy] 26)) (alB _ _) hHeld
        refine hK.out _ _ hhA (fun h0_ => ?_)
        clear hK K h0_
        refine norm_ (a' := ?_) ?_ ?_
        rotate_left
        ·show Act.put _ (some 74) _ = _
         simp only [Act.put, List.setIfInBounds_toArray, List.set_cons_zero, List.set_cons_succ]
         rfl
        refine one_ (i := 7) (N := (some 68)) #[true, true, true, true, true, true, true, true, true, true, true, true, true, true, false, false, false] rfl rfl (by kernel_rfl) (by decide) (fun K hK => ?_)
        refine value_ (w1 := (Wd.alloc (Obj.cells #[Value.slice Ay SL.length cy] 26)).alloc (Obj.cells #[Value.slice Ax SX.length cx] 26)) (v := .slice (some ⟨Wd.heap.size + 1, 0, none⟩) 1 1) (by rfl) rfl ?_ ?_
        ·go_simp
        have hhB := keep14 (Wd.alloc (Obj.cells #[Value.slice Ay SL.length cy] 26)) ((Wd.alloc (Obj.cells #[Value.slice Ay SL.length cy] 26)).alloc (Obj.cells #[Value.slice Ax SX.length cx] 26)) (alB _ _) hhA
        refine hK.out _ _ hhB (fun h0_ => ?_)
        clear hK K h0_
        refine norm_ (a' := ?_) ?_ ?_
        rotate_left
        ·show Act.put _ (some 68) _ = _
         simp only [Act.put, List.setIfInBounds_toArray, List.set_cons_zero, List.set_cons_succ]
         rfl
        exact norm_ (by first | (simp only [putAll, Act.put, List.setIfInBounds_toArray, List.set_cons_zero, List.set_cons_succ]; done) | (simp only [putAll, Act.put, List.setIfInBounds_toArray, List.set_cons_zero, List.set_cons_succ]; rfl)) (hCont (Wd.heap.size + 1, Wd.heap.size) _ ⟨((alB Wd (Obj.cells #[Value.slice Ay SL.length cy] 26)).trans ((alB (Wd.alloc (Obj.cells #[Value.slice Ay SL.length cy] 26)) (Obj.cells #[Value.slice Ax SX.length cx] 26)).mono (alB Wd (Obj.cells #[Value.slice Ay SL.length cy] 26)).size)), (by have := blk_new (Wd.alloc (Obj.cells #[Value.slice Ay SL.length cy] 26)) (Obj.cells #[Value.slice Ax SX.length cx] 26); simpa using this), blk_alloc (blk_new Wd (Obj.cells #[Value.slice Ay SL.length cy] 26)) _, hhB⟩)
      rintro ⟨g1, g2⟩ W6 ⟨hB6, hg1, hg2, hHeld⟩
      have hb6 := hbd.trans (hB6.mono hbd.size)
      refine norm_ (a' := ?_) ?_ ?_
      rotate_left
      ·simp only [putAll, Act.put, List.setIfInBounds_toArray, List.set_cons_zero, List.set_cons_succ]
       rfl
      refine one_ (i := 14) (N := (some 75)) #[true, true, true, true, true, true, true, true, true, true, true, true, true, true, true, false, false] rfl rfl (by kernel_rfl) (by decide) (fun K hK => ?_)
      refine goes_ Try.func14 (by kernel_rfl) rfl #[.slice (some ⟨g1, 0, none⟩) 1 1, .slice (some ⟨g2, 0, none⟩) 1 1] (by rfl) rfl rfl (by first | rfl | (simp [Act.eval]; done) | (simp [go_sem]; done)) ?_
      refine (bramblelaw10_within.calls k (some ⟨g1, 0, none⟩) 1 [SX] (some ⟨g2, 0, none⟩) 1 [SL] true W6 (exC1 (d := Kd.slice 3 (Kd.int .i64)) rfl hg1 ⟨Ax, cx, rfl, lx, Kd.C_below Cx hb6⟩) (Nat.le_refl _) (exC1 (d := Kd.slice 3 (Kd.int .i64)) rfl hg2 ⟨Ay, cy, rfl, ly, Kd.C_below Cy hb6⟩) (Nat.le_refl _) HW1.out).mono ?_
      rintro e W7 ⟨rfl, hB7⟩
      have hb7 := hb6.trans (hB7.mono hb6.size)
      refine ⟨_, rfl, ?_⟩
      have hh7 := keep14 _ _ hB7 hHeld
      refine hK.out _ _ hh7 (fun h0_ => ?_)
      clear hK K h0_
      refine pure_ (i := 15) (N := (some 76)) (v := ?_) (a' := ?_) #[true, true, true, true, true, true, true, true, true, true, true, true, true, true, true, true, false] rfl rfl (by kernel_rfl) (fun _ _ _ h => h) (Or.inl ⟨by rfl, ?_⟩) ?_ ?_
      rotate_left
      ·intro w'
       go_simp
       with_reducible rfl
      rotate_left
      ·simp only [Act.put, List.setIfInBounds_toArray, List.set_cons_zero, List.set_cons_succ]
       rfl
      refine pure_ (i := 16) (N := (some 77)) (v := ?_) (a' := ?_) #[true, true, true, true, true, true, true, true, true, true, true, true, true, true, true, true, true] rfl rfl (by kernel_rfl) (fun _ _ _ h => h) (Or.inl ⟨by rfl, ?_⟩) ?_ ?_
      rotate_left
      ·intro w'
       go_simp
       with_reducible rfl
      rotate_left
      ·simp only [Act.put, List.setIfInBounds_toArray, List.set_cons_zero, List.set_cons_succ]
       rfl
      refine done_ (by kernel_rfl) ?_
      have hBd7 : Below Wd.heap.size Wd W7 := hB6.trans (hB7.mono hB6.size)
      refine hK6 _ _ ?_
      clear hK6 keep14 hHeld hHeldX hh7 hB6 hB7 hg1 hg2 hb6 hb7
      have hbv : Below W5.heap.size W5 W7 := main W7 hBd7
      have vx := blk_below D0.out (hBd7)
      have vp := blk_below D1.out (hBd7)
      have x0 : W7.cell? ⟨xb, 0, none⟩ = some (.int .i64 x.f0) := blk_cell vx 0
      have em0 := pw_cell_below hbv km'
      have HVX := Lib.hid vx
      have HVP := Lib.hid vp
      obtain ⟨Ad, hAd⟩ : ∃ Ad : Option Addr, (if cR = j + 1 then some adx else some (adx.add ((j + 1) * 3))) = Ad := ⟨_, rfl⟩
      have hCd : Kd.C k48 w Ad (p.f1.drop (j + 1)).length (p.f1.drop (j + 1)) := by rw [← hAd]; exact Kd.C_drop hCR (by omega) hlR
      have hdl : (p.f1.drop (j + 1)).length = p.f1.length - (j + 1) := List.length_drop
      have HDL := Lib.hid hdl
      have hwr1 : IntKind.i64.wrap ((j : Int) + 1) = (j : Int) + 1 := by rw [IntKind.wrap_i64]; omega
      have hwr2 : (0 : Int) ≤ (j : Int) + 1 := by omega
      have hwr3 : (j : Int) + 1 ≤ (p.f1.length : Int) := by omega
      clear vx vp hdl D0 D1
      go_wp2
      rename_i K8 hK8
      have hb8d : Below W5.heap.size W5 W7.drew := below_drew hbv
      have hw8 : Below w.heap.size w W7.drew := hbw.trans (hb8d.mono hbw.size)
      have y0 : W7.drew.cell? ⟨w.heap.size, 0, none⟩ = some (.slice A0_0 l0_0.length c0_0) ∧ W7.drew.cell? ⟨w.heap.size, 1, none⟩ = some (.slice A0_1 l0_1.length c0_1) ∧ W7.drew.cell? ⟨w.heap.size, 2, none⟩ = some (.slice (some adp) l0_2.length c0_2) := ⟨pw_cell_below hb8d z0, pw_cell_below hb8d z1, pw_cell_below hb8d z2⟩
      have hHeld : (fun X => X.cell? ⟨w.heap.size, 0, none⟩ = some (.slice A0_0 l0_0.length c0_0) ∧ X.cell? ⟨w.heap.size, 1, none⟩ = some (.slice A0_1 l0_1.length c0_1) ∧ X.cell? ⟨w.heap.size, 2, none⟩ = some (.slice (some adp) l0_2.length c0_2) ∧ X.cell? ⟨pb, 0, none⟩ = some (.int .i64 p.f0) ∧ X.cell? ⟨pb, 1, none⟩ = some (.slice (some adx) p.f1.length cR) ∧ X.cell? (a4.add p.f0.toNat) = some (.slice Ae FL.length ce)) W7.drew := ⟨y0.1, y0.2.1, y0.2.2, blk_cell HVP.out 0, blk_cell HVP.out 1, pw_cell_below hb8d ke⟩
      have keep17 : ∀ X Y : World, Below X.heap.size X Y → (fun X => X.cell? ⟨w.heap.size, 0, none⟩ = some (.slice A0_0 l0_0.length c0_0) ∧ X.cell? ⟨w.heap.size, 1, none⟩ = some (.slice A0_1 l0_1.length c0_1) ∧ X.cell? ⟨w.heap.size, 2, none⟩ = some (.slice (some adp) l0_2.length c0_2) ∧ X.cell? ⟨pb, 0, none⟩ = some (.int .i64 p.f0) ∧ X.cell? ⟨pb, 1, none⟩ = some (.slice (some adx) p.f1.length cR) ∧ X.cell? (a4.add p.f0.toNat) = some (.slice Ae FL.length ce)) X → (fun X => X.cell? ⟨w.heap.size, 0, none⟩ = some (.slice A0_0 l0_0.length c0_0) ∧ X.cell? ⟨w.heap.size, 1, none⟩ = some (.slice A0_1 l0_1.length c0_1) ∧ X.cell? ⟨w.heap.size, 2, none⟩ = some (.slice (some adp) l0_2.length c0_2) ∧ X.cell? ⟨pb, 0, none⟩ = some (.int .i64 p.f0) ∧ X.cell? ⟨pb, 1, none⟩ = some (.slice (some adx) p.f1.length cR) ∧ X.cell? (a4.add p.f0.toNat) = some (.slice Ae FL.length ce)) Y := fun X Y h hh => ⟨pw_cell_below h hh.1, pw_cell_below h hh.2.1, pw_cell_below h hh.2.2.1, pw_cell_below h hh.2.2.2.1, pw_cell_below h hh.2.2.2.2.1, pw_cell_below h hh.2.2.2.2.2⟩
      refine Ahd.wp_qz (start_ (S := (fun X => X.cell? ⟨w.heap.size, 0, none⟩ = some (.slice A0_0 l0_0.length c0_0) ∧ X.cell? ⟨w.heap.size, 1, none⟩ = some (.slice A0_1 l0_1.length c0_1) ∧ X.cell? ⟨w.heap.size, 2, none⟩ = some (.slice (some adp) l0_2.length c0_2) ∧ X.cell? ⟨pb, 0, none⟩ = some (.int .i64 p.f0) ∧ X.cell? ⟨pb, 1, none⟩ = some (.slice (some adx) p.f1.length cR) ∧ X.cell? (a4.add p.f0.toNat) = some (.slice Ae FL.length ce))) (ds := []) #[false, false, false, false, false, false, false, false, false, false, false, false, false] (by kernel_rfl) rfl rfl hHeld (fun h0_ => ?_))
      clear h0_
      refine take_ (i := 0) (N := (some 86)) (v := ?_) (a' := ?_) #[true, false, false, false, false, false, false, false, false, false, false, false, false] rfl rfl (by kernel_rfl) (fun _ _ _ h => h) (Or.inl ⟨by rfl, ?_⟩) hHeld ?_ ?_
      rotate_left
      ·rintro w' ⟨s0, s1, s2, s3, s4, s5⟩
       go_simp
       with_reducible rfl
      rotate_left
      ·simp only [Act.put, List.setIfInBounds_toArray, List.set_cons_zero, List.set_cons_succ]
       rfl
      refine pure_ (i := 1) (N := (some 87)) (v := ?_) (a' := ?_) #[true, true, false, false, false, false, false, false, false, false, false, false, false] rfl rfl (by kernel_rfl) (fun _ _ _ h => h) (Or.inl ⟨by rfl, ?_⟩) ?_ ?_
      rotate_left
      ·intro w'
       go_simp
       with_reducible rfl
      rotate_left
      ·simp only [Act.put, List.setIfInBounds_toArray, List.set_cons_zero, List.set_cons_succ]
       rfl
      refine take_ (i := 2) (N := (some 88)) (v := ?_) (a' := ?_) #[true, true, true, false, false, false, false, false, false, false, false, false, false] rfl rfl (by kernel_rfl) (fun _ _ _ h => h) (Or.inl ⟨by rfl, ?_⟩) hHeld ?_ ?_
      rotate_left
      ·rintro w' ⟨s0, s1, s2, s3, s4, s5⟩
       go_simp
       with_reducible rfl
      rotate_left
      ·simp only [Act.put, List.setIfInBounds_toArray, List.set_cons_zero, List.set_cons_succ]
       rfl
      refine pure_ (i := 3) (N := (some 89)) (v := ?_) (a' := ?_) #[true, true, true, true, false, false, false, false, false, false, false, false, false] rfl rfl (by kernel_rfl) (fun _ _ _ h => h) (Or.inl ⟨by rfl, ?_⟩) ?_ ?_
      rotate_left
      ·intro w'
       go_simp
       with_reducible rfl
      rotate_left
      ·simp only [Act.put, List.setIfInBounds_toArray, List.set_cons_zero, List.set_cons_succ]
       rfl
      refine pure_ (i := 4) (N := (some 90)) (v := ?_) (a' := ?_) #[true, true, true, true, true, false, false, false, false, false, false, false, false] rfl rfl (by kernel_rfl) (fun _ _ _ h => h) (Or.inl ⟨by rfl, ?_⟩) ?_ ?_
      rotate_left
      ·intro w'
       go_simp
       with_reducible rfl
      rotate_left
      ·simp only [Act.put, List.setIfInBounds_toArray, List.set_cons_zero, List.set_cons_succ]
       rfl
      refine pure_ (i := 5) (N := (some 91)) (v := ?_) (a' := ?_) #[true, true, true, true, true, true, false, false, false, false, false, false, false] rfl rfl (by kernel_rfl) (fun _ _ _ h => h) (Or.inl ⟨by rfl, ?_⟩) ?_ ?_
      rotate_left
      ·intro w'
       go_simp
       with_reducible rfl
      rotate_left
      ·simp only [Act.put, List.setIfInBounds_toArray, List.set_cons_zero, List.set_cons_succ]
       rfl
      refine pure_ (i := 6) (N := (some 92)) (v := ?_) (a' := ?_) #[true, true, true, true, true, true, true, false, false, false, false, false, false] rfl rfl (by kernel_rfl) (fun _ _ _ h => h) (Or.inl ⟨by rfl, ?_⟩) ?_ ?_
      rotate_left
      ·intro w'
       go_simp
       with_reducible rfl
      rotate_left
      ·simp only [Act.put, List.setIfInBounds_toArray, List.set_cons_zero, List.set_cons_succ]
       rfl
      refine pure_ (i := 7) (N := (some 93)) (v := ?_) (a' := ?_) #[true, true, true, true, true, true, true, true, false, false, false, false, false] rfl rfl (by kernel_rfl) (fun _ _ _ h => h) (Or.inl ⟨by rfl, ?_⟩) ?_ ?_
      rotate_left
      ·intro w'
       go_simp
       with_reducible rfl
      rotate_left
      ·simp only [Act.put, List.setIfInBounds_toArray, List.set_cons_zero, List.set_cons_succ]
       rfl
      refine take_ (i := 8) (N := (some 94)) (v := ?_) (a' := ?_) #[true, true, true, true, true, true, true, true, true, false, false, false, false] rfl rfl (by kernel_rfl) (fun _ _ _ h => h) (Or.inl ⟨by rfl, ?_⟩) hHeld ?_ ?_
      rotate_left
      ·rintro w' ⟨s0, s1, s2, s3, s4, s5⟩
       go_simp
       with_reducible rfl
      rotate_left
      ·simp only [Act.put, List.setIfInBounds_toArray, List.set_cons_zero, List.set_cons_succ]
       rfl
      refine pure_ (i := 9) (N := (some 95)) (v := ?_) (a' := ?_) #[true, true, true, true, true, true, true, true, true, true, false, false, false] rfl rfl (by kernel_rfl) (fun _ _ _ h => h) (Or.inl ⟨by rfl, ?_⟩) ?_ ?_
      rotate_left
      ·intro w'
       go_simp
       with_reducible rfl
      rotate_left
      ·simp only [Act.put, List.setIfInBounds_toArray, List.set_cons_zero, List.set_cons_succ]
       rfl
      refine take_ (i := 10) (N := (some 96)) (v := ?_) (a' := ?_) #[true, true, true, true, true, true, true, true, true, true, true, false, false] rfl rfl (by kernel_rfl) (fun _ _ _ h => h) (Or.inl ⟨by rfl, ?_⟩) hHeld ?_ ?_
      rotate_left
      ·rintro w' ⟨s0, s1, s2, s3, s4, s5⟩
       go_simp
       with_reducible rfl
      rotate_left
      ·simp only [Act.put, List.setIfInBounds_toArray, List.set_cons_zero, List.set_cons_succ]
       rfl
      refine one_ (i := 11) (N := (some 97)) #[true, true, true, true, true, true, true, true, true, true, true, true, false] rfl rfl (by kernel_rfl) (by decide) (fun K hK => ?_)
      refine goes_ Try.func23 (by kernel_rfl) rfl #[.agg #[.slice A0_0 l0_0.length c0_0, .slice A0_1 l0_1.length c0_1, .slice (some adp) l0_2.length c0_2], .slice Ad (p.f1.length - (j + 1)) (cR - (j + 1)), .slice Ae FL.length ce] (by rfl) rfl rfl (by first | rfl | (simp [Act.eval]; done) | (simp [go_sem]; done)) ?_
      have hah := sets_Ahead.calls k A0_0 c0_0 l0_0 A0_1 c0_1 l0_1 (some adp) c0_2 l0_2 Ad (cR - (j + 1)) (p.f1.drop (j + 1)) Ae ce FL RA W7.drew (Kd.C_below hr0_0 hw8) hc0_0 (Kd.C_below hr0_1 hw8) hc0_1 (Kd.C_below hr0_2 hw8) hc0_2 (Kd.C_below hCd hw8) (by rw [List.length_drop]; omega) (Kd.C_below Ce hb8d) le HRA.out
      rw [List.length_drop] at hah
      refine hah.mono ?_
      rintro e W9 ⟨v9, rfl, hR9, hB9⟩
      obtain ⟨A9, c9, rfl, hl9, hC9⟩ := Kd.R_reads hR9
      have hb9 := hb8d.trans (hB9.mono hb8d.size)
      refine ⟨_, rfl, ?_⟩
      have hh9 := keep17 _ _ hB9 hHeld
      refine hK.out _ _ hh9 (fun h0_ => ?_)
      clear hK K h0_
      refine pure_ (i := 12) (N := (some 12)) (v := ?_) (a' := ?_) #[true, true, true, true, true, true, true, true, true, true, true, true, true] rfl rfl (by kernel_rfl) (fun _ _ _ h => h) (Or.inl ⟨by rfl, ?_⟩) ?_ ?_
      rotate_left
      ·intro w'
       go_simp
       with_reducible rfl
      rotate_left
      ·simp only [Act.put, List.setIfInBounds_toArray, List.set_cons_zero, List.set_cons_succ]
       rfl
      refine done_ (by kernel_rfl) ?_
      refine hK8 _ _ ?_
      have hB89 : Below W7.heap.size W7 W9 := (below_drew (Below.refl W7.heap.size W7)).trans hB9
      have vx9 := blk_below HVX.out hB89
      have vp9 := blk_below HVP.out hB89
      have x9 : W9.cell? ⟨xb, 0, none⟩ = some (.int .i64 x.f0) := blk_cell vx9 0
      have z09 := pw_cell_below hb9 z0
      have z19 := pw_cell_below hb9 z1
      have z29 := pw_cell_below hb9 z2
      have k9 := pw_cell_below hb9 kf
      have HVP9 := Lib.hid vp9
      have hpw9 : pb < W9.heap.size := blk_lt vp9
      clear hK8 keep17 hHeld hh9 y0 hwr1 hwr2 hwr3 hAd hCd vx9 vp9 hR9 x0 em0
      by_cases hxt : (l0_0.length : Int) ≤ x.f0
      ·have n2 : ((W9.alloc (.cells [Value.slice A9 RA.length c9].toArray 26)).alloc (.cells [Value.slice Af FX.length cf].toArray 26)).heap[W9.heap.size + 1]? = some (.cells [Value.slice Af FX.length cf].toArray 26 (0, 0)) := by
        have := blk_new (W9.alloc (.cells [Value.slice A9 RA.length c9].toArray 26)) (.cells [Value.slice Af FX.length cf].toArray 26)
        rwa [World.size_alloc] at this
       have N2 := Lib.hid n2
       have x9a := pw_cell_below (alB W9 (.cells #[.slice A9 RA.length c9] 26)) x9
       have k9a := pw_cell_below (alB W9 (.cells #[.slice A9 RA.length c9] 26)) k9
       clear n2
       go_wp2_with fail
       have n2 := N2.out
       refine (bramblelaw10_within.calls k _ 1 [RA] _ 1 [FX] true _ (exC1 (d := Kd.slice 3 (Kd.int .i64)) rfl (blk_alloc (blk_new W9 (.cells [Value.slice A9 RA.length c9].toArray 26)) _) ⟨A9, c9, rfl, hl9, Kd.C_below (Kd.C_below hC9 (alB _ _)) (alB _ _)⟩) (Nat.le_refl _) (exC1 (d := Kd.slice 3 (Kd.int .i64)) rfl n2 ⟨Af, cf, rfl, lf, Kd.C_below (Kd.C_below (Kd.C_below Cf hb9) (alB _ _)) (alB _ _)⟩) (Nat.le_refl _) (HW2.out hxt)).mono ?_
       rintro e W10 ⟨rfl, hB10⟩
       have hB910 : Below W9.heap.size W9 W10 := ((alB _ _).trans ((alB _ _).mono (alB _ _).size)).trans (hB10.mono ((alB _ _).trans ((alB _ _).mono (alB _ _).size)).size)
       have hb10 := hb9.trans (hB910.mono hb9.size)
       have HVP10 := Lib.hid (blk_below HVP9.out hB910)
       have hpw10 : pb < W10.heap.size := blk_lt HVP10.out
       go_wp2
       go_roundw
       case rel => exact ⟨j + 1, ab, by go_num, rfl, by omega, HKn, HVP10, hb10, hpw10⟩
       case measure => simp [Go.RowKit.intOf]; omega
      ·go_wp2
       go_roundw
       case rel => exact ⟨j + 1, ab, by go_num, rfl, by omega, HKn, HVP9, hb9, hpw9⟩
       case measure => simp [Go.RowKit.intOf]; omega
     | false =>
      have hkn : closP k l0_0 l0_1 l0_2 em Ss FS p.f0 (p.f1.drop (j + 1)) false = some alF := HKn.out
      clear HKn HW1'
      have HKn := Lib.hid hkn
      clear hkn
      refine Ahd.wp_qz (start_ (S := (fun X => X.cell? ⟨xb, 0, none⟩ = some (.int .i64 x.f0) ∧ X.cell? ⟨pb, 0, none⟩ = some (.int .i64 p.f0) ∧ X.cell? (a3.add x.f0.toNat) = some (.slice Ax SX.length cx) ∧ X.cell? (a3.add p.f0.toNat) = some (.slice Ay SL.length cy))) (ds := []) #[false, false, false, false, false, false, false, false, false, false, false, false, false, false, false, false, false] (by kernel_rfl) rfl rfl hHeldX (fun h0_ => ?_))
      clear h0_
      rw [hWd]
      refine pure_ (i := 0) (N := (some 61)) (v := ?_) (a' := ?_) #[true, false, false, false, false, false, false, false, false, false, false, false, false, false, false, false, false] rfl rfl (by kernel_rfl) (fun _ _ _ h => h) (Or.inl ⟨by rfl, ?_⟩) ?_ ?_
      rotate_left
      ·intro w'
       go_simp
       with_reducible rfl
      rotate_left
      ·simp only [Act.put, List.setIfInBounds_toArray, List.set_cons_zero, List.set_cons_succ]
       rfl
      refine pure_ (i := 1) (N := (some 62)) (v := ?_) (a' := ?_) #[true, true, false, false, false, false, false, false, false, false, false, false, false, false, false, false, false] rfl rfl (by kernel_rfl) (fun _ _ _ h => h) (Or.inl ⟨by rfl, ?_⟩) ?_ ?_
      rotate_left
      ·intro w'
       go_simp
       with_reducible rfl
      rotate_left
      ·simp only [Act.put, List.setIfInBounds_toArray, List.set_cons_zero, List.set_cons_succ]
       rfl
      refine pure_ (i := 2) (N := (some 63)) (v := undef) (a' := ?_) #[true, true, true, false, false, false, false, false, false, false, false, false, false, false, false, false, false] rfl rfl (by kernel_rfl) (fun _ _ _ h => h) (Or.inr ⟨by rfl, rfl⟩) ?_ ?_
      rotate_left
      ·simp only [Act.put, List.setIfInBounds_toArray, List.set_cons_zero, List.set_cons_succ]
       rfl
      refine pure_ (i := 3) (N := (some 64)) (v := undef) (a' := ?_) #[true, true, true, true, false, false, false, false, false, false, false, false, false, false, false, false, false] rfl rfl (by kernel_rfl) (fun _ _ _ h => h) (Or.inr ⟨by rfl, rfl⟩) ?_ ?_
      rotate_left
      ·simp only [Act.put, List.setIfInBounds_toArray, List.set_cons_zero, List.set_cons_succ]
       rfl
      refine pure_ (i := 4) (N := (some 65)) (v := undef) (a' := ?_) #[true, true, true, true, true, false, false, false, false, false, false, false, false, false, false, false, false] rfl rfl (by kernel_rfl) (fun _ _ _ h => h) (Or.inr ⟨by rfl, rfl⟩) ?_ ?_
      rotate_left
      ·simp only [Act.put, List.setIfInBounds_toArray, List.set_cons_zero, List.set_cons_succ]
       rfl
      refine pure_ (i := 5) (N := (some 66)) (v := undef) (a' := ?_) #[true, true, true, true, true, true, false, false, false, false, false, false, false, false, false, false, false] rfl rfl (by kernel_rfl) (fun _ _ _ h => h) (Or.inr ⟨by rfl, rfl⟩) ?_ ?_
      rotate_left
      ·simp only [Act.put, List.setIfInBounds_toArray, List.set_cons_zero, List.set_cons_succ]
       rfl
      refine pure_ (i := 6) (N := (some 67)) (v := undef) (a' := ?_) #[true, true, true, true, true, true, true, false, false, false, false, false, false, false, false, false, false] rfl rfl (by kernel_rfl) (fun _ _ _ h => h) (Or.inr ⟨by rfl, rfl⟩) ?_ ?_
      rotate_left
      ·simp only [Act.put, List.setIfInBounds_toArray, List.set_cons_zero, List.set_cons_succ]
       rfl
      refine pure_ (i := 7) (N := (some 68)) (v := undef) (a' := ?_) #[true, true, true, true, true, true, true, true, false, false, false, false, false, false, false, false, false] rfl rfl (by kernel_rfl) (fun _ _ _ h => h) (Or.inr ⟨by rfl, rfl⟩) ?_ ?_
      rotate_left
      ·simp only [Act.put, List.setIfInBounds_toArray, List.set_cons_zero, List.set_cons_succ]
       rfl
      refine pure_ (i := 8) (N := (some 69)) (v := undef) (a' := ?_) #[true, true, true, true, true, true, true, true, true, false, false, false, false, false, false, false, false] rfl rfl (by kernel_rfl) (fun _ _ _ h => h) (Or.inr ⟨by rfl, rfl⟩) ?_ ?_
      rotate_left
      ·simp only [Act.put, List.setIfInBounds_toArray, List.set_cons_zero, List.set_cons_succ]
       rfl
      refine pure_ (i := 9) (N := (some 70)) (v := undef) (a' := ?_) #[true, true, true, true, true, true, true, true, true, true, false, false, false, false, false, false, false] rfl rfl (by kernel_rfl) (fun _ _ _ h => h) (Or.inr ⟨by rfl, rfl⟩) ?_ ?_
      rotate_left
      ·simp only [Act.put, List.setIfInBounds_toArray, List.set_cons_zero, List.set_cons_succ]
       rfl
      refine pure_ (i := 10) (N := (some 71)) (v := undef) (a' := ?_) #[true, true, true, true, true, true, true, true, true, true, true, false, false, false, false, false, false] rfl rfl (by kernel_rfl) (fun _ _ _ h => h) (Or.inr ⟨by rfl, rfl⟩) ?_ ?_
      rotate_left
      ·simp only [Act.put, List.setIfInBounds_toArray, List.set_cons_zero, List.set_cons_succ]
       rfl
      refine pure_ (i := 11) (N := (some 72)) (v := undef) (a' := ?_) #[true, true, true, true, true, true, true, true, true, true, true, true, false, false, false, false, false] rfl rfl (by kernel_rfl) (fun _ _ _ h => h) (Or.inr ⟨by rfl, rfl⟩) ?_ ?_
      rotate_left
      ·simp only [Act.put, List.setIfInBounds_toArray, List.set_cons_zero, List.set_cons_succ]
       rfl
      refine pure_ (i := 12) (N := (some 73)) (v := undef) (a' := ?_) #[true, true, true, true, true, true, true, true, true, true, true, true, true, false, false, false, false] rfl rfl (by kernel_rfl) (fun _ _ _ h => h) (Or.inr ⟨by rfl, rfl⟩) ?_ ?_
      rotate_left
      ·simp only [Act.put, List.setIfInBounds_toArray, List.set_cons_zero, List.set_cons_succ]
       rfl
      refine pure_ (i := 13) (N := (some 74)) (v := undef) (a' := ?_) #[true, true, true, true, true, true, true, true, true, true, true, true, true, true, false, false, false] rfl rfl (by kernel_rfl) (fun _ _ _ h => h) (Or.inr ⟨by rfl, rfl⟩) ?_ ?_
      rotate_left
      ·simp only [Act.put, List.setIfInBounds_toArray, List.set_cons_zero, List.set_cons_succ]
       rfl
      refine pure_ (i := 14) (N := (some 75)) (v := undef) (a' := ?_) #[true, true, true, true, true, true, true, true, true, true, true, true, true, true, true, false, false] rfl rfl (by kernel_rfl) (fun _ _ _ h => h) (Or.inr ⟨by rfl, rfl⟩) ?_ ?_
      rotate_left
      ·simp only [Act.put, List.setIfInBounds_toArray, List.set_cons_zero, List.set_cons_succ]
       rfl
      refine pure_ (i := 15) (N := (some 76)) (v := undef) (a' := ?_) #[true, true, true, true, true, true, true, true, true, true, true, true, true, true, true, true, false] rfl rfl (by kernel_rfl) (fun _ _ _ h => h) (Or.inr ⟨by rfl, rfl⟩) ?_ ?_
      rotate_left
      ·simp only [Act.put, List.setIfInBounds_toArray, List.set_cons_zero, List.set_cons_succ]
       rfl
      refine pure_ (i := 16) (N := (some 77)) (v := ?_) (a' := ?_) #[true, true, true, true, true, true, true, true, true, true, true, true, true, true, true, true, true] rfl rfl (by kernel_rfl) (fun _ _ _ h => h) (Or.inl ⟨by rfl, ?_⟩) ?_ ?_
      rotate_left
      ·intro w'
       go_simp
       with_reducible rfl
      rotate_left
      ·simp only [Act.put, List.setIfInBounds_toArray, List.set_cons_zero, List.set_cons_succ]
       rfl
      refine done_ (by kernel_rfl) ?_
      have hBd7 : Below Wd.heap.size Wd Wd := Below.refl _ _
      refine hK6 _ _ ?_
      clear hK6 keep14 hHeld hHeldX 
      have hbv : Below W5.heap.size W5 Wd := main Wd hBd7
      have vx := blk_below D0.out (hBd7)
      have vp := blk_below D1.out (hBd7)
      have x0 : Wd.cell? ⟨xb, 0, none⟩ = some (.int .i64 x.f0) := blk_cell vx 0
      have em0 := pw_cell_below hbv km'
      have HVX := Lib.hid vx
      have HVP := Lib.hid vp
      obtain ⟨Ad, hAd⟩ : ∃ Ad : Option Addr, (if cR = j + 1 then some adx else some (adx.add ((j + 1) * 3))) = Ad := ⟨_, rfl⟩
      have hCd : Kd.C k48 w Ad (p.f1.drop (j + 1)).length (p.f1.drop (j + 1)) := by rw [← hAd]; exact Kd.C_drop hCR (by omega) hlR
      have hdl : (p.f1.drop (j + 1)).length = p.f1.length - (j + 1) := List.length_drop
      have HDL := Lib.hid hdl
      have hwr1 : IntKind.i64.wrap ((j : Int) + 1) = (j : Int) + 1 := by rw [IntKind.wrap_i64]; omega
      have hwr2 : (0 : Int) ≤ (j : Int) + 1 := by omega
      have hwr3 : (j : Int) + 1 ≤ (p.f1.length : Int) := by omega
      clear vx vp hdl D0 D1
      go_wp2
      rename_i K8 hK8
      have hb8d : Below W5.heap.size W5 Wd.drew := below_drew hbv
      have hw8 : Below w.heap.size w Wd.drew := hbw.trans (hb8d.mono hbw.size)
      have y0 : Wd.drew.cell? ⟨w.heap.size, 0, none⟩ = some (.slice A0_0 l0_0.length c0_0) ∧ Wd.drew.cell? ⟨w.heap.size, 1, none⟩ = some (.slice A0_1 l0_1.length c0_1) ∧ Wd.drew.cell? ⟨w.heap.size, 2, none⟩ = some (.slice (some adp) l0_2.length c0_2) := ⟨pw_cell_below hb8d z0, pw_cell_below hb8d z1, pw_cell_below hb8d z2⟩
      have hHeld : (fun X => X.cell? ⟨w.heap.size, 0, none⟩ = some (.slice A0_0 l0_0.length c0_0) ∧ X.cell? ⟨w.heap.size, 1, none⟩ = some (.slice A0_1 l0_1.length c0_1) ∧ X.cell? ⟨w.heap.size, 2, none⟩ = some (.slice (some adp) l0_2.length c0_2) ∧ X.cell? ⟨pb, 0, none⟩ = some (.int .i64 p.f0) ∧ X.cell? ⟨pb, 1, none⟩ = some (.slice (some adx) p.f1.length cR) ∧ X.cell? (a4.add p.f0.toNat) = some (.slice Ae FL.length ce)) Wd.drew := ⟨y0.1, y0.2.1, y0.2.2, blk_cell HVP.out 0, blk_cell HVP.out 1, pw_cell_below hb8d ke⟩
      have keep17 : ∀ X Y : World, Below X.heap.size X Y → (fun X => X.cell? ⟨w.heap.size, 0, none⟩ = some (.slice A0_0 l0_0.length c0_0) ∧ X.cell? ⟨w.heap.size, 1, none⟩ = some (.slice A0_1 l0_1.length c0_1) ∧ X.cell? ⟨w.heap.size, 2, none⟩ = some (.slice (some adp) l0_2.length c0_2) ∧ X.cell? ⟨pb, 0, none⟩ = some (.int .i64 p.f0) ∧ X.cell? ⟨pb, 1, none⟩ = some (.slice (some adx) p.f1.length cR) ∧ X.cell? (a4.add p.f0.toNat) = some (.slice Ae FL.length ce)) X → (fun X => X.cell? ⟨w.heap.size, 0, none⟩ = some (.slice A0_0 l0_0.length c0_0) ∧ X.cell? ⟨w.heap.size, 1, none⟩ = some (.slice A0_1 l0_1.length c0_1) ∧ X.cell? ⟨w.heap.size, 2, none⟩ = some (.slice (some adp) l0_2.length c0_2) ∧ X.cell? ⟨pb, 0, none⟩ = some (.int .i64 p.f0) ∧ X.cell? ⟨pb, 1, none⟩ = some (.slice (some adx) p.f1.length cR) ∧ X.cell? (a4.add p.f0.toNat) = some (.slice Ae FL.length ce)) Y := fun X Y h hh => ⟨pw_cell_below h hh.1, pw_cell_below h hh.2.1, pw_cell_below h hh.2.2.1, pw_cell_below h hh.2.2.2.1, pw_cell_below h hh.2.2.2.2.1, pw_cell_below h hh.2.2.2.2.2⟩
      refine Ahd.wp_qz (start_ (S := (fun X => X.cell? ⟨w.heap.size, 0, none⟩ = some (.slice A0_0 l0_0.length c0_0) ∧ X.cell? ⟨w.heap.size, 1, none⟩ = some (.slice A0_1 l0_1.length c0_1) ∧ X.cell? ⟨w.heap.size, 2, none⟩ = some (.slice (some adp) l0_2.length c0_2) ∧ X.cell? ⟨pb, 0, none⟩ = some (.int .i64 p.f0) ∧ X.cell? ⟨pb, 1, none⟩ = some (.slice (some adx) p.f1.length cR) ∧ X.cell? (a4.add p.f0.toNat) = some (.slice Ae FL.length ce))) (ds := []) #[false, false, false, false, false, false, false, false, false, false, false, false, false] (by kernel_rfl) rfl rfl hHeld (fun h0_ => ?_))
      clear h0_
      refine take_ (i := 0) (N := (some 86)) (v := ?_) (a' := ?_) #[true, false, false, false, false, false, false, false, false, false, false, false, false] rfl rfl (by kernel_rfl) (fun _ _ _ h => h) (Or.inl ⟨by rfl, ?_⟩) hHeld ?_ ?_
      rotate_left
      ·rintro w' ⟨s0, s1, s2, s3, s4, s5⟩
       go_simp
       with_reducible rfl
      rotate_left
      ·simp only [Act.put, List.setIfInBounds_toArray, List.set_cons_zero, List.set_cons_succ]
       rfl
      refine pure_ (i := 1) (N := (some 87)) (v := ?_) (a' := ?_) #[true, true, false, false, false, false, false, false, false, false, false, false, false] rfl rfl (by kernel_rfl) (fun _ _ _ h => h) (Or.inl ⟨by rfl, ?_⟩) ?_ ?_
      rotate_left
      ·intro w'
       go_simp
       with_reducible rfl
      rotate_left
      ·simp only [Act.put, List.setIfInBounds_toArray, List.set_cons_zero, List.set_cons_succ]
       rfl
      refine take_ (i := 2) (N := (some 88)) (v := ?_) (a' := ?_) #[true, true, true, false, false, false, false, false, false, false, false, false, false] rfl rfl (by kernel_rfl) (fun _ _ _ h => h) (Or.inl ⟨by rfl, ?_⟩) hHeld ?_ ?_
      rotate_left
      ·rintro w' ⟨s0, s1, s2, s3, s4, s5⟩
       go_simp
       with_reducible rfl
      rotate_left
      ·simp only [Act.put, List.setIfInBounds_toArray, List.set_cons_zero, List.set_cons_succ]
       rfl
      refine pure_ (i := 3) (N := (some 89)) (v := ?_) (a' := ?_) #[true, true, true, true, false, false, false, false, false, false, false, false, false] rfl rfl (by kernel_rfl) (fun _ _ _ h => h) (Or.inl ⟨by rfl, ?_⟩) ?_ ?_
      rotate_left
      ·intro w'
       go_simp
       with_reducible rfl
      rotate_left
      ·simp only [Act.put, List.setIfInBounds_toArray, List.set_cons_zero, List.set_cons_succ]
       rfl
      refine pure_ (i := 4) (N := (some 90)) (v := ?_) (a' := ?_) #[true, true, true, true, true, false, false, false, false, false, false, false, false] rfl rfl (by kernel_rfl) (fun _ _ _ h => h) (Or.inl ⟨by rfl, ?_⟩) ?_ ?_
      rotate_left
      ·intro w'
       go_simp
       with_reducible rfl
      rotate_left
      ·simp only [Act.put, List.setIfInBounds_toArray, List.set_cons_zero, List.set_cons_succ]
       rfl
      refine pure_ (i := 5) (N := (some 91)) (v := ?_) (a' := ?_) #[true, true, true, true, true, true, false, false, false, false, false, false, false] rfl rfl (by kernel_rfl) (fun _ _ _ h => h) (Or.inl ⟨by rfl, ?_⟩) ?_ ?_
      rotate_left
      ·intro w'
       go_simp
       with_reducible rfl
      rotate_left
      ·simp only [Act.put, List.setIfInBounds_toArray, List.set_cons_zero, List.set_cons_succ]
       rfl
      refine pure_ (i := 6) (N := (some 92)) (v := ?_) (a' := ?_) #[true, true, true, true, true, true, true, false, false, false, false, false, false] rfl rfl (by kernel_rfl) (fun _ _ _ h => h) (Or.inl ⟨by rfl, ?_⟩) ?_ ?_
      rotate_left
      ·intro w'
       go_simp
       with_reducible rfl
      rotate_left
      ·simp only [Act.put, List.setIfInBounds_toArray, List.set_cons_zero, List.set_cons_succ]
       rfl
      refine pure_ (i := 7) (N := (some 93)) (v := ?_) (a' := ?_) #[true, true, true, true, true, true, true, true, false, false, false, false, false] rfl rfl (by kernel_rfl) (fun _ _ _ h => h) (Or.inl ⟨by rfl, ?_⟩) ?_ ?_
      rotate_left
      ·intro w'
       go_simp
       with_reducible rfl
      rotate_left
      ·simp only [Act.put, List.setIfInBounds_toArray, List.set_cons_zero, List.set_cons_succ]
       rfl
      refine take_ (i := 8) (N := (some 94)) (v := ?_) (a' := ?_) #[true, true, true, true, true, true, true, true, true, false, false, false, false] rfl rfl (by kernel_rfl) (fun _ _ _ h => h) (Or.inl ⟨by rfl, ?_⟩) hHeld ?_ ?_
      rotate_left
      ·rintro w' ⟨s0, s1, s2, s3, s4, s5⟩
       go_simp
       with_reducible rfl
      rotate_left
      ·simp only [Act.put, List.setIfInBounds_toArray, List.set_cons_zero, List.set_cons_succ]
       rfl
      refine pure_ (i := 9) (N := (some 95)) (v := ?_) (a' := ?_) #[true, true, true, true, true, true, true, true, true, true, false, false, false] rfl rfl (by kernel_rfl) (fun _ _ _ h => h) (Or.inl ⟨by rfl, ?_⟩) ?_ ?_
      rotate_left
      ·intro w'
       go_simp
       with_reducible rfl
      rotate_left
      ·simp only [Act.put, List.setIfInBounds_toArray, List.set_cons_zero, List.set_cons_succ]
       rfl
      refine take_ (i := 10) (N := (some 96)) (v := ?_) (a' := ?_) #[true, true, true, true, true, true, true, true, true, true, true, false, false] rfl rfl (by kernel_rfl) (fun _ _ _ h => h) (Or.inl ⟨by rfl, ?_⟩) hHeld ?_ ?_
      rotate_left
      ·rintro w' ⟨s0, s1, s2, s3, s4, s5⟩
       go_simp
       with_reducible rfl
      rotate_left
      ·simp only [Act.put, List.setIfInBounds_toArray, List.set_cons_zero, List.set_cons_succ]
       rfl
      refine one_ (i := 11) (N := (some 97)) #[true, true, true, true, true, true, true, true, true, true, true, true, false] rfl rfl (by kernel_rfl) (by decide) (fun K hK => ?_)
      refine goes_ Try.func23 (by kernel_rfl) rfl #[.agg #[.slice A0_0 l0_0.length c0_0, .slice A0_1 l0_1.length c0_1, .slice (some adp) l0_2.length c0_2], .slice Ad (p.f1.length - (j + 1)) (cR - (j + 1)), .slice Ae FL.length ce] (by rfl) rfl rfl (by first | rfl | (simp [Act.eval]; done) | (simp [go_sem]; done)) ?_
      have hah := sets_Ahead.calls k A0_0 c0_0 l0_0 A0_1 c0_1 l0_1 (some adp) c0_2 l0_2 Ad (cR - (j + 1)) (p.f1.drop (j + 1)) Ae ce FL RA Wd.drew (Kd.C_below hr0_0 hw8) hc0_0 (Kd.C_below hr0_1 hw8) hc0_1 (Kd.C_below hr0_2 hw8) hc0_2 (Kd.C_below hCd hw8) (by rw [List.length_drop]; omega) (Kd.C_below Ce hb8d) le HRA.out
      rw [List.length_drop] at hah
      refine hah.mono ?_
      rintro e W9 ⟨v9, rfl, hR9, hB9⟩
      obtain ⟨A9, c9, rfl, hl9, hC9⟩ := Kd.R_reads hR9
      have hb9 := hb8d.trans (hB9.mono hb8d.size)
      refine ⟨_, rfl, ?_⟩
      have hh9 := keep17 _ _ hB9 hHeld
      refine hK.out _ _ hh9 (fun h0_ => ?_)
      clear hK K h0_
      refine pure_ (i := 12) (N := (some 12)) (v := ?_) (a' := ?_) #[true, true, true, true, true, true, true, true, true, true, true, true, true] rfl rfl (by kernel_rfl) (fun _ _ _ h => h) (Or.inl ⟨by rfl, ?_⟩) ?_ ?_
      rotate_left
      ·intro w'
       go_simp
       with_reducible rfl
      rotate_left
      ·simp only [Act.put, List.setIfInBounds_toArray, List.set_cons_zero, List.set_cons_succ]
       rfl
      refine done_ (by kernel_rfl) ?_
      refine hK8 _ _ ?_
      have hB89 : Below Wd.heap.size Wd W9 := (below_drew (Below.refl Wd.heap.size Wd)).trans hB9
      have vx9 := blk_below HVX.out hB89
      have vp9 := blk_below HVP.out hB89
      have x9 : W9.cell? ⟨xb, 0, none⟩ = some (.int .i64 x.f0) := blk_cell vx9 0
      have z09 := pw_cell_below hb9 z0
      have z19 := pw_cell_below hb9 z1
      have z29 := pw_cell_below hb9 z2
      have k9 := pw_cell_below hb9 kf
      have HVP9 := Lib.hid vp9
      have hpw9 : pb < W9.heap.size := blk_lt vp9
      clear hK8 keep17 hHeld hh9 y0 hwr1 hwr2 hwr3 hAd hCd vx9 vp9 hR9 x0 em0
      by_cases hxt : (l0_0.length : Int) ≤ x.f0
      ·have n2 : ((W9.alloc (.cells [Value.slice A9 RA.length c9].toArray 26)).alloc (.cells [Value.slice Af FX.length cf].toArray 26)).heap[W9.heap.size + 1]? = some (.cells [Value.slice Af FX.length cf].toArray 26 (0, 0)) := by
        have := blk_new (W9.alloc (.cells [Value.slice A9 RA.length c9].toArray 26)) (.cells [Value.slice Af FX.length cf].toArray 26)
        rwa [World.size_alloc] at this
       have N2 := Lib.hid n2
       have x9a := pw_cell_below (alB W9 (.cells #[.slice A9 RA.length c9] 26)) x9
       have k9a := pw_cell_below (alB W9 (.cells #[.slice A9 RA.length c9] 26)) k9
       clear n2
       go_wp2_with fail
       have n2 := N2.out
       refine (bramblelaw10_within.calls k _ 1 [RA] _ 1 [FX] true _ (exC1 (d := Kd.slice 3 (Kd.int .i64)) rfl (blk_alloc (blk_new W9 (.cells [Value.slice A9 RA.length c9].toArray 26)) _) ⟨A9, c9, rfl, hl9, Kd.C_below (Kd.C_below hC9 (alB _ _)) (alB _ _)⟩) (Nat.le_refl _) (exC1 (d := Kd.slice 3 (Kd.int .i64)) rfl n2 ⟨Af, cf, rfl, lf, Kd.C_below (Kd.C_below (Kd.C_below Cf hb9) (alB _ _)) (alB _ _)⟩) (Nat.le_refl _) (HW2.out hxt)).mono ?_
       rintro e W10 ⟨rfl, hB10⟩
       have hB910 : Below W9.heap.size W9 W10 := ((alB _ _).trans ((alB _ _).mono (alB _ _).size)).trans (hB10.mono ((alB _ _).trans ((alB _ _).mono (alB _ _).size)).size)
       have hb10 := hb9.trans (hB910.mono hb9.size)
       have HVP10 := Lib.hid (blk_below HVP9.out hB910)
       have hpw10 : pb < W10.heap.size := blk_lt HVP10.out
       go_wp2
       go_roundw
       case rel => exact ⟨j + 1, false, by go_num, rfl, by omega, HKn, HVP10, hb10, hpw10⟩
       case measure => simp [Go.RowKit.intOf]; omega
      ·go_wp2
       go_roundw
       case rel => exact ⟨j + 1, false, by go_num, rfl, by omega, HKn, HVP9, hb9, hpw9⟩
       case measure => simp [Go.RowKit.intOf]; omega
    ·obtain rfl : j = p.f1.length := by omega
     have hk := HK.out
     rw [List.drop_length] at hk
     have hae : a = alF := by simpa [closP] using hk
     subst hae
     have b0 : wr.cell? ⟨pb, 0, none⟩ = some (.int .i64 p.f0) := blk_cell BP.out 0
     obtain ⟨_, e1, km⟩ := Kd.at_bool HC5.out p.f0 hp0 hp1
     cases e1
     have km' : W5.cell? (a5.add p.f0.toNat) = some (.bool (Deri.at_ em p.f0)) := km
     have km2 := pw_cell_below hb km'
     clear hk km km' HK BP
     cases a with
     | true =>
      rw [HPX.out rfl] at km2
      clear HPX
      go_wp2
      go_roundw
      case rel => exact ⟨q + 1, by go_num, by omega, hb⟩
      case measure => simp [Go.RowKit.intOf]; omega
     | false =>
      clear HPX
      go_wp2
      go_roundw
      case rel => exact ⟨q + 1, by go_num, by omega, hb⟩
      case measure => simp [Go.RowKit.intOf]; omega
  ·obtain rfl : q = l0_2.length := by omega
   go_wp2_with (go_at_call 8; refine (haw _).mono ?_; rintro e W6 ⟨rfl, hB6⟩)
   go_ret
   exact ⟨rfl, (hbw.trans (hb.mono hbw.size)).trans (hB6.mono (hbw.trans (hb.mono hbw.size)).size)⟩
end Go.Proofs.Ytkfpmolplemdlaa.PSetsClosed
