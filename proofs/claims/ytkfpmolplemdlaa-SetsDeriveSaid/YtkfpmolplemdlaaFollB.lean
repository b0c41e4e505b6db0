/- sets.Follow walked. Over productions whose symbols are there. -/
import Derived.Test.YtkfpmolplemdlaaFoll
namespace Go.Proofs.Ytkfpmolplemdlaa.FollB
open Go Go.RowKit Go.Shelf Go.Maps Go.Sort Go.Proofs.YtkfpmolplemdlaaW.PrintWords Go.Proofs.YtkfpmolplemdlaaW.PrintLast Go.Proofs.Ytkfpmolplemdlaa.Round Go.Proofs.Ytkfpmolplemdlaa.RangeG Go.Proofs.Ytkfpmolplemdlaa.RangeH Go.Proofs.Ytkfpmolplemdlaa.Fl Go.Proofs.Ytkfpmolplemdlaa.Grow Go.Proofs.Ytkfpmolplemdlaa.Deri Go.Proofs.Ytkfpmolplemdlaa.Seqs Go.Proofs.Ytkfpmolplemdlaa.MSet Go.Proofs.Ytkfpmolplemdlaa.Ahd Go.Proofs.Ytkfpmolplemdlaa.Begin Go.Proofs.Ytkfpmolplemdlaa.Begun Go.Proofs.Ytkfpmolplemdlaa.Srt Go.Proofs.Ytkfpmolplemdlaa.Sorts Go.Proofs.Ytkfpmolplemdlaa.Aheads Go.Proofs.Ytkfpmolplemdlaa.Foll
attribute [local go_sem] Oper.semAt_some
set_option linter.unusedVariables false
set_option linter.unusedSimpArgs false
def initL (N n0 : Nat) : List (List Int) := (List.replicate N []).set n0 [(n0 : Int)]
theorem make_sets (N : Nat) (hN : N ≤ 1000000) (w : World) : (Instr.makeSlice 53 (.int .i64 (N : Int)) (.int .i64 (N : Int))).run Try.prog w = .ok (.slice (some ⟨w.heap.size, 0, none⟩) N N) (w.alloc (.cells (Array.replicate N (Value.map none)) 62)) := by
  obtain ⟨i0, hi, hz0, hz1, hz2⟩ := info_parts infoS
  have h := run_makeSlice w 53 62 i0 (.map none) Try.underlying53 hi hz0 .i64 .i64 (N : Int) (N : Int) (by omega) (by omega) (by rw [hz1]; simp; omega) (by rw [hz2]; omega) (by omega)
  rw [h, hz1]
  simp only [Int.toNat_natCast, Nat.mul_one]
  have e : madeCells (Value.map none).cells N = Array.replicate N (Value.map none) := by
    apply Array.toList_inj.1
    rw [show (Value.map none).cells = #[.map none] from rfl, toList_madeCells_one]
    simp
  rw [e]
theorem Fol.low {f BX BF g2 cr2 L : Nat} {G : Geo} {em : List Bool} {Ss : List (List Int)} {a0 a1 a2 : Value} {bs2 : List Nat} {FS : List (List Int)} {W W' : World} (h : Fol f BX BF g2 cr2 G em Ss a0 a1 a2 bs2 FS W) (h1 : G.X < L) (h2 : G.ge < L) (h3 : G.gr < L) (h4 : ∀ b ∈ G.bs, b < L) (h5 : f < L) (h6 : BX < L) (h7 : BF < L) (h8 : g2 < L) (h9 : ∀ b ∈ bs2, b < L) (ht : Turn L (fun k => L ≤ k) W W') : Fol f BX BF g2 cr2 G em Ss a0 a1 a2 bs2 FS W' := by
  obtain ⟨cs, r1, r2⟩ := h.row
  exact ⟨Fs.low h.fs h1 h2 h3 h4 ht, h.bdS, ht.same _ _ h.hf (by omega) (.inr rfl), ht.same _ _ h.hx (by omega) (.inr rfl), ht.same _ _ h.hb (by omega) (.inr rfl), ⟨cs, ht.same _ _ r1 (by omega) (.inr rfl), r2⟩, h.bsl, h.ssl, h.nod, h.dis, h.bd, fun i b S hi hS => (h.sets i b S hi hS).turn ht (by have := h9 b (List.mem_of_getElem? hi); omega) (h9 b (List.mem_of_getElem? hi))⟩
/-- The state of Follow's loop over the symbols. -/
structure Lf (f z N j BX BF g2 : Nat) (G : Geo) (em : List Bool) (Ss : List (List Int)) (bs : List Nat) (a0 a1 a2 : Value) (W : World) : Prop where
  fs : Fs G em Ss W
  len : bs.length = j
  nod : bs.Nodup
  far : ∀ b ∈ bs, z ≤ b
  sets : ∀ b ∈ bs, SetAt b [] W
  row : W.heap[g2]? = some (.cells (bs.map (fun b => Value.map (some b)) ++ List.replicate (N - j) (Value.map none)).toArray 62 (0, 0))
  hx : Boxed W BX 56 (.pointer (some ⟨G.X, 0, none⟩))
  hb : Boxed W BF 53 (.slice (some ⟨g2, 0, none⟩) N N)
  hf : W.heap[f]? = some (.cells #[a0, a1, a2] TF (0, 0))
theorem row_put (N j m : Nat) (bs : List Nat) (hl : bs.length = j) (hj : j < N) : ((bs.map (fun b => Value.map (some b)) ++ List.replicate (N - j) (Value.map none)).toArray).setIfInBounds j (.map (some m)) = ((bs ++ [m]).map (fun b => Value.map (some b)) ++ List.replicate (N - (j + 1)) (Value.map none)).toArray := by
  apply Array.toList_inj.1
  rw [Array.toList_setIfInBounds]
  simp only [List.map_append, List.map_cons, List.map_nil]
  rw [List.set_append_right _ _ (by simp; omega), List.length_map, hl, Nat.sub_self, show N - j = (N - (j + 1)) + 1 by omega, List.replicate_succ, List.set_cons_zero]
  simp
theorem Fs.turnT {G : Geo} {em : List Bool} {Ss : List (List Int)} {L : Nat} {T : Nat → Prop} {W W' : World} (h : Fs G em Ss W) (h1 : ¬ T G.X) (h2 : ¬ T G.ge) (h3 : ¬ T G.gr) (h4 : ∀ b ∈ G.bs, ¬ T b ∧ b < L) (ht : Turn L T W W') : Fs G em Ss W' := by
  obtain ⟨cs, r1, r2⟩ := h.row
  exact ⟨ht.same _ _ h.blk h1 (.inr rfl), h.nn, h.few, h.eml, ht.same _ _ h.emb h2 (.inr rfl), ⟨cs, ht.same _ _ r1 h3 (.inr rfl), r2⟩, h.bsl, h.ssl, fun i b S hb hS => (h.sets i b S hb hS).turn ht (h4 b (List.mem_of_getElem? hb)).1 (h4 b (List.mem_of_getElem? hb)).2⟩
theorem Lf.next {f z N j BX BF g2 : Nat} {G : Geo} {em : List Bool} {Ss : List (List Int)} {bs : List Nat} {a0 a1 a2 : Value} {W : World} (h : Lf f z N j BX BF g2 G em Ss bs a0 a1 a2 W) (hj : j < N) (hz : z ≤ W.heap.size) (hX : G.X < g2) (hge : G.ge < g2) (hgr : G.gr < g2) (hbs : ∀ b ∈ G.bs, b < g2) (hg : g2 < z) (hBX : BX < g2) (hBF : BF ≠ g2) (hf : f < g2) :
    Lf f z N (j + 1) BX BF g2 G em Ss (bs ++ [W.heap.size]) a0 a1 a2 ((W.setCell ⟨g2, j, none⟩ (.map (some W.heap.size))).alloc (.map #[] 0)) := by
  have ht : Turn W.heap.size (fun k => k = g2) W ((W.setCell ⟨g2, j, none⟩ (.map (some W.heap.size))).alloc (.map #[] 0)) := (Turn.setCell (T := fun k => k = g2) ⟨g2, j, none⟩ _ rfl).trans (Turn.alloc _)
  have hmn : ∀ b ∈ bs, b < W.heap.size := fun b hb => (h.sets b hb).lt
  refine ⟨Fs.turnT h.fs (by omega) (by omega) (by omega) (fun b hb => ⟨by have := hbs b hb; omega, by have := hbs b hb; omega⟩) ht, by rw [List.length_append, h.len]; rfl, ?_, ?_, ?_, ?_, ht.same _ _ h.hx (by omega) (.inr rfl), ht.same _ _ h.hb (by omega) (.inr rfl), ht.same _ _ h.hf (by omega) (.inr rfl)⟩
  · rw [List.nodup_append]
    refine ⟨h.nod, by simp, fun a ha b hb => ?_⟩
    rw [List.mem_singleton] at hb
    have := hmn a ha
    omega
  · intro b hb
    rcases List.mem_append.1 hb with hb | hb
    · exact h.far b hb
    · rw [List.mem_singleton] at hb; omega
  · intro b hb
    rcases List.mem_append.1 hb with hb | hb
    · exact (h.sets b hb).turn ht (by have := h.far b hb; omega) (hmn b hb)
    · rw [List.mem_singleton] at hb
      subst hb
      have := SetAt.new (W.setCell ⟨g2, j, none⟩ (.map (some W.heap.size)))
      simpa using this
  · have h1 := blk_set h.row j (.map (some W.heap.size))
    rw [row_put N j _ bs h.len hj] at h1
    exact blk_alloc h1 _
theorem mapput_ {H : Type} {Pr : Program} {ops : Array Oper} {Q : Exit → Act → World → Prop} {oi : Oper} {a : Act} {w : World} {K' : Act → World → Prop} (hw : Region.wanted oi (yielded ops a.tmps) = true) (hN : oi.dst = none) (m x v : Operand) (t : TypeId) (hop : oi.op = Op.mapUpdate t m x v)
    (k e : TypeId) (K : Keyed Pr k) (ht : Pr.underlying t = some (.map k e)) (R : Value → Option (DataW H × List MemPlace)) (b n : Nat) (D : DataW H)
    (hm : a.eval m = .map (some b)) (hown : w.ownsMap Pr k R b n D) (hn : n < maxLen) (key val : Value) (kl : Lit) (hx : a.eval x = key) (hv : a.eval v = val) (hkey : keyOf Pr k key = some kl)
    (d : DataW H) (ps : List MemPlace) (hval : R val = some (d, ps))
    (hK : ∀ w', w'.ownsMap Pr k R b (n + 1) (D.put kl d) → w.grownBy w' (some b) → K' a w') : if Region.wanted oi (yielded ops a.tmps) = true then Oper.wp Pr oi a w K' Q else K' (a.put none undef) w := by
  obtain ⟨w', hrun, r1, r2⟩ := hown.update K ht hn hkey hval
  refine skip_ (w1 := w') hw hN ?_ (hK w' r1 r2)
  simp [execOp, hop, hm, hx, hv, hrun, Result.andThen]
theorem initL_get {N n0 q : Nat} {S : List Int} (h : (initL N n0)[q]? = some S) : S = if q = n0 then [(q : Int)] else [] := by
  unfold initL at h
  by_cases e : n0 = q
  · subst e
    have hl := (List.getElem?_eq_some_iff.1 h).1
    rw [List.getElem?_set_self (by simpa using hl)] at h
    cases h
    simp
  · rw [List.getElem?_set_ne e, List.getElem?_replicate] at h
    split at h
    · cases h
      rw [if_neg (fun e' => e e'.symm)]
    · cases h
set_option maxRecDepth 100000 in
set_option maxHeartbeats 4000000 in
theorem follow_calls (w : World) (A0 A1 A2 : Option Addr) (n0 n1 c0 c1 c2 N : Nat) (hNe : n0 + n1 = N) (hN1 : 1 ≤ n1) (ps : List P) (hC : Kd.C kP w A2 ps.length ps) (hN : N ≤ 999999) (hps : ∀ p ∈ ps, PrOk N p ∧ p.2.1.length ≤ 1000) (k0 : Nat) (em : List Bool) (hem : growV stepD ps k0 (List.replicate N false) = some em) (k1 : Nat) (Ss : List (List Int)) (hSs : growV (stepF N em) ps k1 (initV N n0) = some Ss) (k2 : Nat) (FS : List (List Int)) (hFS : growV (stepL N n0 em Ss) ps k2 (initL N n0) = some FS) :
    Calls Try.prog 15 #[.agg #[.slice A0 n0 c0, .slice A1 n1 c1, .slice A2 ps.length c2]] w fun e w' => ∃ v, e = .returned v ∧ Kd.R (Kd.slice TI (Kd.int .i64)) 26 w' w.heap.size (fun _ => True) v FS ∧ Below w.heap.size w w' := by
  obtain ⟨W0, hW0⟩ : ∃ W0, w.alloc (.cells #[.slice A0 n0 c0, .slice A1 n1 c1, .slice A2 ps.length c2] TF) = W0 := ⟨_, rfl⟩
  have hB0 : Below w.heap.size w W0 := by rw [← hW0]; exact (Below.refl _ _).alloc (Nat.le_refl _) _
  have sz0 : W0.heap.size = w.heap.size + 1 := by rw [← hW0]; simp
  have f0 : W0.heap[w.heap.size]? = some (.cells #[.slice A0 n0 c0, .slice A1 n1 c1, .slice A2 ps.length c2] TF (0, 0)) := by rw [← hW0]; exact blk_new w _
  have cf0 : W0.cell? ⟨w.heap.size, 0, none⟩ = some (.slice A0 n0 c0) := blk_cell f0 0
  have cf1 : W0.cell? ⟨w.heap.size, 1, none⟩ = some (.slice A1 n1 c1) := blk_cell f0 1
  have cf2 : W0.cell? ⟨w.heap.size, 2, none⟩ = some (.slice A2 ps.length c2) := blk_cell f0 2
  have hbg := begin_calls W0 A0 A1 A2 n0 n1 c0 c1 c2 N hNe (by omega) ps (Kd.C_below hC hB0) (by omega) hps k0 k0 em hem k1 Ss hSs
  have hs := fun W => size_calls A0 A1 A2 n0 n1 ps.length c0 c1 c2 W (by rw [hNe]; omega)
  rw [hNe] at hs
  have hmk := make_sets N (by omega)
  have HF0 := Lib.hid f0
  have hPs := Lib.hid hps
  clear hSs hem f0 hps
  go_enter Try.func15, Try.ntmps15
  go_wp2_with (first
    | (go_at_call 30; refine hbg.mono ?_; rintro e W1 ⟨G, rfl, hGN, hF, hBd, hB1⟩; have d0 := pw_cell_below hB1 cf0; have d1 := pw_cell_below hB1 cf1; have d2 := pw_cell_below hB1 cf2; have hl1 : w.heap.size < W1.heap.size := (by have := hB1.size; omega); have hF1 := Lib.hid hF; clear hF hbg cf0 cf1 cf2)
    | (go_at_call 27; refine (hs _).mono ?_; rintro e W3 ⟨rfl, hB3⟩))
  obtain ⟨W5, hW5⟩ : ∃ W5, (W3.alloc (Obj.cells (Array.replicate N (Value.map none)) 62)).alloc (Obj.cells #[Value.slice (some ⟨W3.heap.size, 0, none⟩) N N] 53) = W5 := ⟨_, rfl⟩
  have hB01 := hB0.trans (hB1.mono hB0.size)
  have hB02 : Below w.heap.size w (W1.alloc (Obj.cells #[Value.pointer (some ⟨G.X, 0, none⟩)] 56)) := hB01.alloc hB01.size _
  have hB03 := hB02.trans (hB3.mono hB02.size)
  have hB05 : Below w.heap.size w W5 := by rw [← hW5]; exact (hB03.alloc hB03.size _).alloc (by have := hB03.size; simp; omega) _
  have hB35 : Below W3.heap.size W3 W5 := by rw [← hW5]; exact ((Below.refl _ _).alloc (Nat.le_refl _) _).alloc (by simp) _
  have hB12 : Below W1.heap.size W1 (W1.alloc (Obj.cells #[Value.pointer (some ⟨G.X, 0, none⟩)] 56)) := (Below.refl _ _).alloc (Nat.le_refl _) _
  have hB15 : Below W1.heap.size W1 W5 := (hB12.trans (hB3.mono hB12.size)).trans (hB35.mono (hB12.trans (hB3.mono hB12.size)).size)
  have sz3 : W1.heap.size + 1 ≤ W3.heap.size := by have := hB3.size; simp at this; omega
  have sz5 : W5.heap.size = W3.heap.size + 2 := by rw [← hW5]; simp
  have hL0 : Lf w.heap.size W5.heap.size N 0 W1.heap.size (W3.heap.size + 1) W3.heap.size G em Ss [] (.slice A0 n0 c0) (.slice A1 n1 c1) (.slice A2 ps.length c2) W5 := by
    refine ⟨hF1.out.below hB15, rfl, List.nodup_nil, (fun _ h => nomatch h), (fun _ h => nomatch h), ?_, ?_, ?_, ?_⟩
    · rw [← hW5]
      have := blk_alloc (blk_new W3 (Obj.cells (Array.replicate N (Value.map none)) 62)) (Obj.cells #[Value.slice (some ⟨W3.heap.size, 0, none⟩) N N] 53)
      simpa using this
    · exact blk_below (blk_below (blk_new _ _) hB3) hB35
    · rw [← hW5]
      have := Boxed.new (W3.alloc (Obj.cells (Array.replicate N (Value.map none)) 62)) 53 (.slice (some ⟨W3.heap.size, 0, none⟩) N N)
      simpa using this
    · exact blk_below (blk_below (blk_alloc (blk_below HF0.out hB1) _) hB3) hB35
  obtain ⟨g2, hg2⟩ : ∃ g2, W3.heap.size = g2 := ⟨_, rfl⟩
  obtain ⟨BX, hBX⟩ : ∃ BX, W1.heap.size = BX := ⟨_, rfl⟩
  obtain ⟨BF, hBF⟩ : ∃ BF, g2 + 1 = BF := ⟨_, rfl⟩
  obtain ⟨z, hz⟩ : ∃ z, W5.heap.size = z := ⟨_, rfl⟩
  have hGX : G.X < W1.heap.size := blk_lt hF1.out.blk
  have hGe : G.ge < W1.heap.size := blk_lt hF1.out.emb
  have hGr : G.gr < W1.heap.size := by obtain ⟨cs, r, _⟩ := hF1.out.row; exact blk_lt r
  have hGb : ∀ b ∈ G.bs, b < W1.heap.size := fun b hb => by
    obtain ⟨q, hq, e⟩ := List.mem_iff_getElem.1 hb
    obtain ⟨b', S', e1, _, h3, _⟩ := hF1.out.bm q (by rw [← hF1.out.bsl]; exact hq)
    rw [List.getElem?_eq_getElem hq, e] at e1
    cases e1
    exact h3.lt
  have hwz := hB01.size
  rw [hW5, hg2, hBX, hBF]
  rw [hz, hg2, hBX, hBF] at hL0
  rw [hg2] at sz5 sz3
  rw [hBX] at sz3 hGX hGe hGr hGb hl1
  rw [hz] at sz5
  clear hW5 hF1 HF0 d0 d1 d2 hB1 hB01 hB02 hB03 hB35 hB12 hB15 hB3 hmk
  have hmm := @run_makeMap Try.prog
  go_loopw [13] (fun i wr => ∃ (j : Nat) (bs : List Nat), i = .int .i64 (j : Int) ∧ j ≤ N ∧ Hid (Lf w.heap.size z N j BX BF g2 G em Ss bs (.slice A0 n0 c0) (.slice A1 n1 c1) (.slice A2 ps.length c2) wr) ∧ Below w.heap.size w wr ∧ z ≤ wr.heap.size) (fun i _ => N - (Go.RowKit.intOf i).toNat)
  case atStart => exact ⟨0, [], rfl, Nat.zero_le _, Lib.hid hL0, hB05, by omega⟩
  case round =>
    obtain ⟨j, bs, rfl, hj, HL, hb, hzw⟩ := hrel
    have hL := HL.out
    by_cases hlt : j < N
    · have k1 : wr.cell? ⟨BF, 0, none⟩ = some (.slice (some ⟨g2, 0, none⟩) N N) := hL.hb.cell
      have k2 : wr.cell? ⟨g2, j, none⟩ = some (.map none) := by
        rw [blk_cell hL.row j, List.getElem?_toArray, List.getElem?_append_right (by simp; have := hL.len; omega), List.length_map, hL.len, Nat.sub_self, List.getElem?_replicate]
        simp; omega
      have k3 : wr.frozen? ⟨g2, j, none⟩ = false := blk_frozen hL.row j
      have hgl := blk_lt hL.row
      have hBFl : BF < wr.heap.size := blk_lt hL.hb
      have hLn := Lib.hid (hL.next hlt hzw (by omega) (by omega) (by omega) (fun b hb => by have := hGb b hb; omega) (by omega) (by omega) (by omega) (by omega))
      clear hL
      go_wp2
      go_roundw
      case rel => exact ⟨j + 1, bs ++ [wr.heap.size], by go_num, by omega, hLn, (hb.setCell (p := ⟨g2, j, none⟩) (by show w.heap.size ≤ g2; omega) _).alloc (by have := hb.size; simpa using this) _, by simp; omega⟩
      case measure => simp [Go.RowKit.intOf]; omega
    · obtain rfl : j = N := by omega
      have hn0j : n0 < j := by omega
      have hn0 : n0 < bs.length := by rw [hL.len]; omega
      obtain ⟨b0, hb0⟩ : ∃ b0, bs[n0]? = some b0 := ⟨_, List.getElem?_eq_getElem hn0⟩
      have hb0m := List.mem_of_getElem? hb0
      have hcs : ∀ (i : Nat) b, bs[i]? = some b → (bs.map (fun b => Value.map (some b)) ++ List.replicate (j - j) (Value.map none)).toArray[i]? = some (.map (some b)) := fun i b hi => by
        have := (List.getElem?_eq_some_iff.1 hi).1
        rw [List.getElem?_toArray, List.getElem?_append_left (by simpa using this), List.getElem?_map, hi]
        rfl
      have ek1 : wr.cell? ⟨BF, 0, none⟩ = some (.slice (some ⟨g2, 0, none⟩) j j) := hL.hb.cell
      have ek2 : wr.cell? ⟨g2, n0, none⟩ = some (.map (some b0)) := (blk_cell hL.row n0).trans (hcs n0 b0 hb0)
      have ek3 : wr.cell? ⟨w.heap.size, 0, none⟩ = some (.slice A0 n0 c0) := blk_cell hL.hf 0
      clear hmm
      go_wp2
      rename_i K8 hK8
      have hHeld : wr.drew.cell? ⟨BF, 0, none⟩ = some (.slice (some ⟨g2, 0, none⟩) j j) ∧ wr.drew.cell? ⟨w.heap.size, 0, none⟩ = some (.slice A0 n0 c0) ∧ wr.drew.cell? ⟨g2, n0, none⟩ = some (.map (some b0)) := ⟨ek1, ek3, ek2⟩
      refine wp_qz (start_ (S := fun X => X.cell? ⟨BF, 0, none⟩ = some (.slice (some ⟨g2, 0, none⟩) j j) ∧ X.cell? ⟨w.heap.size, 0, none⟩ = some (.slice A0 n0 c0) ∧ X.cell? ⟨g2, n0, none⟩ = some (.map (some b0))) (ds := [9]) #[false, false, false, false, false, false, false, false, false, false] (by kernel_rfl) rfl rfl hHeld (fun h0_ => ?_))
      clear h0_
      refine take_ (i := 0) (N := some 21) (v := ?_) (a' := ?_) #[true, false, false, false, false, false, false, false, false, false] rfl rfl (by kernel_rfl) (fun _ _ _ h => h) (Or.inl ⟨by rfl, ?_⟩) hHeld ?_ ?_
      rotate_left
      · rintro w' ⟨s0, s1, s2⟩
        go_simp
        with_reducible rfl
      rotate_left
      · simp only [Act.put, List.setIfInBounds_toArray, List.set_cons_zero, List.set_cons_succ]
        rfl
      refine pure_ (i := 1) (N := some 22) (v := ?_) (a' := ?_) #[true, true, false, false, false, false, false, false, false, false] rfl rfl (by kernel_rfl) (fun _ _ _ h => h) (Or.inl ⟨by rfl, ?_⟩) ?_ ?_
      rotate_left
      · intro w'
        go_simp
        with_reducible rfl
      rotate_left
      · simp only [Act.put, List.setIfInBounds_toArray, List.set_cons_zero, List.set_cons_succ]
        rfl
      refine take_ (i := 2) (N := some 23) (v := ?_) (a' := ?_) #[true, true, true, false, false, false, false, false, false, false] rfl rfl (by kernel_rfl) (fun _ _ _ h => h) (Or.inl ⟨by rfl, ?_⟩) hHeld ?_ ?_
      rotate_left
      · rintro w' ⟨s0, s1, s2⟩
        go_simp
        with_reducible rfl
      rotate_left
      · simp only [Act.put, List.setIfInBounds_toArray, List.set_cons_zero, List.set_cons_succ]
        rfl
      refine pure_ (i := 3) (N := some 24) (v := ?_) (a' := ?_) #[true, true, true, true, false, false, false, false, false, false] rfl rfl (by kernel_rfl) (fun _ _ _ h => h) (Or.inl ⟨by rfl, ?_⟩) ?_ ?_
      rotate_left
      · intro w'
        go_simp
        with_reducible rfl
      rotate_left
      · simp only [Act.put, List.setIfInBounds_toArray, List.set_cons_zero, List.set_cons_succ]
        rfl
      refine pure_ (i := 4) (N := some 25) (v := ?_) (a' := ?_) #[true, true, true, true, true, false, false, false, false, false] rfl rfl (by kernel_rfl) (fun _ _ _ h => h) (Or.inl ⟨by rfl, ?_⟩) ?_ ?_
      rotate_left
      · intro w'
        go_simp
        with_reducible rfl
      rotate_left
      · simp only [Act.put, List.setIfInBounds_toArray, List.set_cons_zero, List.set_cons_succ]
        rfl
      refine take_ (i := 5) (N := some 26) (v := ?_) (a' := ?_) #[true, true, true, true, true, true, false, false, false, false] rfl rfl (by kernel_rfl) (fun _ _ _ h => h) (Or.inl ⟨by rfl, ?_⟩) hHeld ?_ ?_
      rotate_left
      · rintro w' ⟨s0, s1, s2⟩
        go_simp
        with_reducible rfl
      rotate_left
      · simp only [Act.put, List.setIfInBounds_toArray, List.set_cons_zero, List.set_cons_succ]
        rfl
      refine pure_ (i := 6) (N := some 27) (v := ?_) (a' := ?_) #[true, true, true, true, true, true, true, false, false, false] rfl rfl (by kernel_rfl) (fun _ _ _ h => h) (Or.inl ⟨by rfl, ?_⟩) ?_ ?_
      rotate_left
      · intro w'
        go_simp
        with_reducible rfl
      rotate_left
      · simp only [Act.put, List.setIfInBounds_toArray, List.set_cons_zero, List.set_cons_succ]
        rfl
      refine take_ (i := 7) (N := some 28) (v := ?_) (a' := ?_) #[true, true, true, true, true, true, true, true, false, false] rfl rfl (by kernel_rfl) (fun _ _ _ h => h) (Or.inl ⟨by rfl, ?_⟩) hHeld ?_ ?_
      rotate_left
      · rintro w' ⟨s0, s1, s2⟩
        go_simp
        with_reducible rfl
      rotate_left
      · simp only [Act.put, List.setIfInBounds_toArray, List.set_cons_zero, List.set_cons_succ]
        rfl
      refine pure_ (i := 8) (N := some 29) (v := ?_) (a' := ?_) #[true, true, true, true, true, true, true, true, true, false] rfl rfl (by kernel_rfl) (fun _ _ _ h => h) (Or.inl ⟨by rfl, ?_⟩) ?_ ?_
      rotate_left
      · intro w'
        go_simp
        with_reducible rfl
      rotate_left
      · simp only [Act.put, List.setIfInBounds_toArray, List.set_cons_zero, List.set_cons_succ]
        rfl
      have hm0 : SetAt b0 [] wr.drew := (hL.sets b0 hb0m).keep rfl
      obtain ⟨q1, q2, D', hown', hsz', hhas'⟩ := hm0
      refine last_ (i := 9) (N := none) #[true, true, true, true, true, true, true, true, true, true] rfl rfl (by kernel_rfl) (by decide) (fun K hK => ?_)
      refine mapput_ (by rfl) rfl _ _ _ 62 rfl TI TB law Try.underlying62 _ b0 _ _ (by rfl) hown' (by simp [maxLen]) (.int .i64 (n0 : Int)) (.bool true) _ (by rfl) (by rfl) (Maps.keyOf_int_mk Try.underlying3 (wf_n (j := n0) (by omega))) _ [] (plainElem_bool Try.underlying4 true) (fun W6 hown6 hgrow6 => ?_)
      refine hK.out _ _ ?_
      clear hK K
      refine done_ (by kernel_rfl) ?_
      refine hK8 _ _ ?_
      clear hK8
      have hq6 : SetAt b0 [(n0 : Int)] W6 := SetAt.put q1 q2 hsz' hhas' hown' (n0 : Int) (wf_n (j := n0) (by omega)) hown6
      have ht6 : Turn wr.heap.size (fun k => k = b0) wr W6 := Turn.drew.trans (Turn.grown hgrow6 (fun k e => by cases e; exact .inl rfl))
      have hblt : ∀ b ∈ bs, b < wr.heap.size := fun b hb => (hL.sets b hb).lt
      have hkb : ∀ (k : Nat) (cs : Array Value) (t : TypeId), wr.heap[k]? = some (.cells cs t (0, 0)) → W6.heap[k]? = some (.cells cs t (0, 0)) := fun k cs t hk => ht6.same _ _ hk (fun e => by
        obtain ⟨o, ho, hc, _⟩ := (hL.sets b0 hb0m).block
        rw [← e, hk] at ho
        cases ho
        cases hc) (.inr rfl)
      have hfr := hL.far
      have hF6 : Fol w.heap.size BX BF g2 j G em Ss (.slice A0 n0 c0) (.slice A1 n1 c1) (.slice A2 ps.length c2) bs (initL j n0) W6 := by
        refine ⟨Fs.turnT hL.fs (fun e => by have := hfr b0 hb0m; omega) (fun e => by have := hfr b0 hb0m; omega) (fun e => by have := hfr b0 hb0m; omega) (fun b hb => ⟨fun e => by have := hfr b0 hb0m; have := hGb b hb; omega, by have := hGb b hb; omega⟩) ht6, hBd, hkb _ _ _ hL.hf, hkb _ _ _ hL.hx, by rw [hGN]; exact hkb _ _ _ hL.hb, ⟨_, hkb _ _ _ hL.row, hcs⟩, by rw [hL.len, hGN], by simp [initL, hGN], hL.nod, fun b hb h => by have := hfr b hb; have := hGb b h; omega, ?_, ?_⟩
        · intro S hS y hy
          obtain ⟨q, hq, e⟩ := List.mem_iff_getElem.1 hS
          have := initL_get (S := S) (by rw [List.getElem?_eq_getElem hq, e])
          subst this
          split at hy
          · rw [List.mem_singleton] at hy; omega
          · exact nomatch hy
        · intro i b S hi hS
          rw [initL_get hS]
          split
          · rename_i e
            subst e
            rw [hb0] at hi
            cases hi
            exact hq6
          · rename_i e
            refine (hL.sets b (List.mem_of_getElem? hi)).turn ht6 (fun e' => ?_) (hblt b (List.mem_of_getElem? hi))
            subst e'
            obtain ⟨l1, l2⟩ := List.getElem?_eq_some_iff.1 hi
            obtain ⟨l3, l4⟩ := List.getElem?_eq_some_iff.1 hb0
            exact e ((List.getElem_inj hL.nod).1 (l2.trans l4.symm))
      have hb6 : Below w.heap.size w W6 := below_turn hb ht6 (Nat.le_refl _) hb.size (fun k hk => by have := hfr b0 hb0m; omega)
      have sz6 := ht6.size
      have hgrw := grow_calls 35 #[.pointer (some ⟨w.heap.size, 0, none⟩), .pointer (some ⟨BX, 0, none⟩), .pointer (some ⟨BF, 0, none⟩)] (enters_of Try.func35 (by kernel_rfl) rfl) w W6 A0 A1 A2 n0 n1 c0 c1 c2 ps (· ∈ bs) (fun k hk => ⟨by have := hfr k hk; omega, by have := hblt k hk; omega⟩) hb6 hC
        (fun FS W => Fol w.heap.size BX BF g2 j G em Ss (.slice A0 n0 c0) (.slice A1 n1 c1) (.slice A2 ps.length c2) bs FS W)
        (fun s W W' ht hR => Fol.low hR (by omega) (by omega) (by omega) (fun b hb => by have := hGb b hb; omega) (by omega) (by omega) (by omega) (by omega) (fun b hb => by have := hblt b hb; omega) ht) (stepL j n0 em Ss)
        (fun x s W hsz hb' hR => by
          have hx := hPs.out _ x.2.2.2
          refine (folch_calls w.heap.size BX BF g2 j G em Ss A0 A1 A2 n0 n1 ps.length c0 c1 c2 bs s w W x.p x.1.2.1 x.1.2.2 hR (by rw [hGN]; exact hx.1) x.2.1 hx.2 x.2.2.1 hb' (fun b hb => by have := hfr b hb; omega) (by omega)).mono ?_
          rintro e W' ⟨rfl, e3, e4⟩
          rw [hGN] at e3 ⊢
          exact ⟨rfl, e3, e4⟩) k2 (initL j n0) FS hF6 hFS
      have cf0 : W6.cell? ⟨w.heap.size, 0, none⟩ = some (.slice A0 n0 c0) := blk_cell hF6.hf 0
      have cf1 : W6.cell? ⟨w.heap.size, 1, none⟩ = some (.slice A1 n1 c1) := blk_cell hF6.hf 1
      have cf2 : W6.cell? ⟨w.heap.size, 2, none⟩ = some (.slice A2 ps.length c2) := blk_cell hF6.hf 2
      clear hF6 hL HL hL0 hFS hHeld ek1 ek2 ek3
      go_wp2_with (first
        | (go_at_call 34; refine hgrw.mono ?_; clear hgrw; rintro e W9 ⟨rfl, hF9, ht9⟩; have hbf9 := hF9.hb.cell; rw [hGN] at hbf9; obtain ⟨rcs, r1, r2⟩ := hF9.row; have hso := sorts_calls g2 j j rcs bs FS W9 (by omega) r1 r2 (hF9.bsl.trans hGN) (hF9.ssl.trans hGN) hF9.sets (bd_len hF9.bd hF9.rises); clear hF9 r1 r2)
        | (go_at_call 29; refine hso.mono ?_; rintro e W10 ⟨v10, rfl, R10, hB10⟩))
      go_ret
      have hb9 : Below w.heap.size w W9 := below_turn hb6 ht9 (Nat.le_refl _) hb6.size (fun k hk => by have := hfr k hk; omega)
      exact ⟨_, rfl, Kd.R_lower R10 hb9.size, hb9.trans (hB10.mono hb9.size)⟩
end Go.Proofs.Ytkfpmolplemdlaa.FollB
