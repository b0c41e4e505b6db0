/- sets.sorted and slices.Sorted walked: the sets as rising rows. Over sets that are there. -/
import Derived.Test.YtkfpmolplemdlaaSrt
import Derived.Test.YtkfpmolplemdlaaBegun
namespace Go.Proofs.Ytkfpmolplemdlaa.Sorts
open Go Go.RowKit Go.Shelf Go.Maps Go.Sort Go.Proofs.YtkfpmolplemdlaaW.PrintWords Go.Proofs.YtkfpmolplemdlaaW.PrintLast Go.Proofs.Ytkfpmolplemdlaa.Round Go.Proofs.Ytkfpmolplemdlaa.RangeG Go.Proofs.Ytkfpmolplemdlaa.RangeH Go.Proofs.Ytkfpmolplemdlaa.Fl Go.Proofs.Ytkfpmolplemdlaa.Grow Go.Proofs.Ytkfpmolplemdlaa.Deri Go.Proofs.Ytkfpmolplemdlaa.Seqs Go.Proofs.Ytkfpmolplemdlaa.MSet Go.Proofs.Ytkfpmolplemdlaa.Ahd Go.Proofs.Ytkfpmolplemdlaa.Begin Go.Proofs.Ytkfpmolplemdlaa.Begun Go.Proofs.Ytkfpmolplemdlaa.Srt
attribute [local go_sem] Oper.semAt_some
set_option linter.unusedVariables false
set_option linter.unusedSimpArgs false
theorem ints_nums (xs : List I64) : ints xs = Srt.nums (vals xs) := by
  simp only [ints, Srt.nums, vals, List.map_map]
  rfl
set_option maxRecDepth 100000 in
set_option maxHeartbeats 4000000 in
theorem sortedf_calls (gf : Nat) (lb : Array Value) (heg : ∀ args w, (callFunc gf args).run Try.prog w = .ok (.enter gf args) w) (w : World)
    (S Sp : List I64 → Prop) (N : Nat) (hN : N ≤ 1000000000000) (hseq : SeqH 2 Try.prog gf lb encX (KeepH w.heap.size) S Sp N w) :
    Calls Try.prog 43 #[.func (.func gf) #[] lb] w fun e w' => ∃ v xs, e = .returned v ∧ S xs ∧ xs.length ≤ N ∧ w'.ownsRow w.heap.size TI 1 v (Srt.sorted (vals xs)).length (Srt.nums (Srt.sorted (vals xs))) ∧ Below w.heap.size w w' := by
  have hc := collect_calls gf lb heg w S Sp N hN hseq
  go_enter Try.func43, Try.ntmps43
  go_wp2_with (first
    | (go_at_call 36; refine hc.mono ?_; rintro e w1 ⟨v, xs, rfl, h1, h2, h3, h4⟩; have hl : (vals xs).length = xs.length := by { simp [vals] }; have hs := sort_own w.heap.size v (vals xs) w1 (by rw [hl, ← ints_nums]; exact h3) (by omega))
    | (go_at_call 58; refine hs.mono ?_; rintro e w2 ⟨rfl, h5, h6⟩))
  go_ret
  have hsl : (Srt.sorted (vals xs)).length = (vals xs).length := List.length_mergeSort _
  refine ⟨v, xs, rfl, h1, h2, by rw [hsl]; exact h5, h4.grown h6 h4.size (fun k hk => own_base h3 k hk)⟩
theorem sorted_eq {xs : List I64} {S : List Int} (h1 : (vals xs).Nodup) (h2 : ∀ x, x ∈ vals xs ↔ x ∈ S) (hS : Rises S) : Srt.sorted (vals xs) = S := by
  have hp : (Srt.sorted (vals xs)).Perm (vals xs) := List.mergeSort_perm _ _
  have hs : (Srt.sorted (vals xs)).Pairwise fun x y => decide (x ≤ y) = true := List.pairwise_mergeSort (by intro a b c h1 h2; simp at *; omega) (by intro a b; simp; omega) _
  have hn : (Srt.sorted (vals xs)).Nodup := hp.nodup_iff.2 h1
  refine rises_one ?_ hS (fun x => by rw [hp.mem_iff, h2])
  refine (hs.and hn).imp ?_
  rintro a b ⟨h, h'⟩
  simp at h
  omega
theorem own_R {w : World} {base : Nat} {v : Value} {l : List Int} (h : w.ownsRow base TI 1 v l.length (Srt.nums l)) : Kd.R (Kd.int .i64) TI w base (fun _ => True) v l := by
  refine Kd.R_of_own (enc := Value.int .i64) (h1 := fun _ => rfl) ?_ (fun _ _ => trivial)
  exact h
theorem infoL : (Try.prog.info? 26).map (fun i => (i.zero, i.size, i.bytes)) = some (some (.slice none 0 0), 1, 24) := by kernel_rfl
set_option maxRecDepth 100000 in
set_option maxHeartbeats 4000000 in
theorem sorts_calls (gr cr N : Nat) (cs : Array Value) (bs : List Nat) (Ss : List (List Int)) (w : World) (hN : N ≤ 1000000) (hr : w.heap[gr]? = some (.cells cs 62 (0, 0))) (hc : ∀ (i : Nat) b, bs[i]? = some b → cs[i]? = some (.map (some b))) (hbl : bs.length = N) (hsl : Ss.length = N)
    (hS : ∀ (i : Nat) b S, bs[i]? = some b → Ss[i]? = some S → SetAt b S w) (hlen : ∀ S ∈ Ss, S.length ≤ 1000000) :
    Calls Try.prog 29 #[.slice (some ⟨gr, 0, none⟩) N cr] w fun e w' => ∃ v, e = .returned v ∧ Kd.R (Kd.slice TI (Kd.int .i64)) 26 w' w.heap.size (fun _ => True) v Ss ∧ Below w.heap.size w w' := by
  go_enter Try.func29, Try.ntmps29
  go_wp2
  go_loopw [8, 3] (fun i o wr => ∃ j : Nat, i = .int .i64 j ∧ j ≤ N ∧ Kd.R (Kd.slice TI (Kd.int .i64)) 26 wr w.heap.size (fun _ => True) o (Ss.take j) ∧ Below w.heap.size w wr) (fun i _ _ => N - (Go.RowKit.intOf i).toNat)
  case atStart => exact ⟨0, rfl, Nat.zero_le _, Kd.R_nil _ _ _ _ _, Below.refl _ _⟩
  case round =>
    obtain ⟨j, rfl, hj, hR, hb⟩ := hrel
    by_cases hlt : j < N
    · obtain ⟨b, hbj⟩ : ∃ b, bs[j]? = some b := ⟨bs[j]'(by omega), List.getElem?_eq_getElem _⟩
      obtain ⟨S, hSj⟩ : ∃ S, Ss[j]? = some S := ⟨Ss[j]'(by omega), List.getElem?_eq_getElem _⟩
      have hSA := (hS j b S hbj hSj).keep (hb.block b (hS j b S hbj hSj).lt)
      have hgr := blk_lt hr
      have cj : wr.cell? ⟨gr, j, none⟩ = some (.map (some b)) := (blk_cell ((hb.block gr hgr).trans hr) j).trans (hc j b hbj)
      have hk := keys_calls (some b) wr
      have hsz := hb.size
      have hSl := hlen S (List.mem_of_getElem? hSj)
      have hkeys : ∃ W1, wr.alloc (.cells #[.map (some b)] 62) = W1 := ⟨_, rfl⟩
      obtain ⟨W1, hW1⟩ := hkeys
      have hb1 : Below wr.heap.size wr W1 := by rw [← hW1]; exact (Below.refl _ _).alloc (Nat.le_refl _) _
      have hB1 : W1.heap[wr.heap.size]? = some (.cells #[.map (some b)] 62 (0, 0)) := by rw [← hW1]; exact blk_new _ _
      have hs := sortedf_calls 56 #[.pointer (some ⟨wr.heap.size, 0, none⟩)] (enters_of Try.func56 (by kernel_rfl) rfl) W1 _ _ S.length (by omega)
        (SeqH.of (Kq := KeepH W1.heap.size) (keys_stops 2 wr.heap.size b (by omega) S W1.heap.size [] W1 (by have := hSA.lt; have := hb1.size; omega) (hSA.keep (hb1.block b hSA.lt)) hB1) (fun l A B h => h.1) (fun xs h => h) (fun _ h => h))
      go_wp2_with (first
        | (go_at_call 38; refine hk.mono ?_; rintro e w1 ⟨rfl, rfl⟩; rw [hW1])
        | (go_at_call 43; refine hs.mono ?_; rintro e W2 ⟨v2, xs, rfl, ⟨h1, h2⟩, h3, h4, h5⟩; rw [sorted_eq h1 h2 hSA.1] at h4; have R2 := own_R h4; obtain ⟨A2, c2, rfl⟩ := Kd.R_slice R2)
        | (at_builtin; go_loud (refine Kd.R_append (Kd.slice TI (Kd.int .i64)) (w0 := w) w.heap.size rfl (.tmp 12) (.tmp 16) 35 26 (.slice none 0 0) 24 rfl Try.underlying35 infoL rfl (by decide) (by omega) u3 (Ss.take j) S [.slice A2 S.length c2] (fun _ => True) (fun k => True ∧ some k ≠ u3.ownBlock) rfl rfl ?aP (fun _ h => h) (fun _ _ => trivial) ?aO ?aB ?aS ?aL ?_); rotate_right; intro v1 W3 R3 hB3 hg3 _))
      case aP => exact ⟨_, rfl, Kd.R_lower (Kd.R_new' (u := u3) R2 (fun k hk => by have := Kd.R_lt hR k hk; have := hb1.size; omega)) (by have := hb1.size; omega)⟩
      case aO => exact Kd.R_below hR (hb1.trans (h5.mono hb1.size))
      case aB => exact hb.trans ((hb1.trans (h5.mono hb1.size)).mono hb.size)
      case aS => have := hb1.size; have := h5.size; omega
      case aL => have := List.length_take_le j Ss; omega
      go_roundw
      case rel => exact ⟨j + 1, by go_num, by omega, by rw [List.take_add_one, hSj]; exact R3, hB3⟩
      case measure => simp [Go.RowKit.intOf]; omega
    · obtain rfl : j = N := by omega
      go_wp2
      go_ret
      exact ⟨_, rfl, by rw [List.take_of_length_le (by omega)] at hR; exact hR, hb⟩
set_option maxRecDepth 100000 in
set_option maxHeartbeats 4000000 in
theorem first_calls (w : World) (A0 A1 A2 : Option Addr) (n0 n1 c0 c1 c2 N : Nat) (hNe : n0 + n1 = N) (hN1 : 1 ≤ N) (ps : List P) (hC : Kd.C kP w A2 ps.length ps) (hN : N ≤ 1000000) (hps : ∀ p ∈ ps, PrOk N p ∧ p.2.1.length ≤ 1000) (k0 : Nat) (em : List Bool) (hem : growV stepD ps k0 (List.replicate N false) = some em) (k1 : Nat) (Ss : List (List Int)) (hSs : growV (stepF N em) ps k1 (initV N n0) = some Ss) :
    Calls Try.prog 12 #[.agg #[.slice A0 n0 c0, .slice A1 n1 c1, .slice A2 ps.length c2]] w fun e w' => ∃ v, e = .returned v ∧ Kd.R (Kd.slice TI (Kd.int .i64)) 26 w' w.heap.size (fun _ => True) v Ss ∧ Below w.heap.size w w' := by
  obtain ⟨W0, hW0⟩ : ∃ W0, w.alloc (.cells #[.slice A0 n0 c0, .slice A1 n1 c1, .slice A2 ps.length c2] TF) = W0 := ⟨_, rfl⟩
  have hB0 : Below w.heap.size w W0 := by rw [← hW0]; exact (Below.refl _ _).alloc (Nat.le_refl _) _
  have f0 : W0.heap[w.heap.size]? = some (.cells #[.slice A0 n0 c0, .slice A1 n1 c1, .slice A2 ps.length c2] TF (0, 0)) := by rw [← hW0]; exact blk_new w _
  have cf0 : W0.cell? ⟨w.heap.size, 0, none⟩ = some (.slice A0 n0 c0) := blk_cell f0 0
  have cf1 : W0.cell? ⟨w.heap.size, 1, none⟩ = some (.slice A1 n1 c1) := blk_cell f0 1
  have cf2 : W0.cell? ⟨w.heap.size, 2, none⟩ = some (.slice A2 ps.length c2) := blk_cell f0 2
  have hbg := begin_calls W0 A0 A1 A2 n0 n1 c0 c1 c2 N hNe hN1 ps (Kd.C_below hC hB0) hN hps k0 k0 em hem k1 Ss hSs
  clear hSs hem f0 hps hC
  go_enter Try.func12, Try.ntmps12
  go_wp2_with (first
    | (go_at_call 30; refine hbg.mono ?_; rintro e W1 ⟨G, rfl, hGN, hF, hBd, hB1⟩; have cX : W1.cell? ⟨G.X, 4, none⟩ = some (.slice (some ⟨G.gr, 0, none⟩) G.N G.cr) := blk_cell hF.blk 4; obtain ⟨rcs, r1, r2⟩ := hF.row; have hs := sorts_calls G.gr G.cr G.N rcs G.bs Ss W1 hF.few r1 r2 hF.bsl hF.ssl hF.sets (bd_len hBd (fs_rises hF)); rw [hGN] at hs cX; clear hF r1 r2 hBd hbg)
    | (go_at_call 29; refine hs.mono ?_; rintro e W2 ⟨v2, rfl, R2, hB2⟩))
  go_ret
  have hB01 := hB0.trans (hB1.mono hB0.size)
  exact ⟨_, rfl, Kd.R_lower R2 hB01.size, hB01.trans (hB2.mono hB01.size)⟩
end Go.Proofs.Ytkfpmolplemdlaa.Sorts
