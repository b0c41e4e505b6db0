/- The reference's Follow walked. Over productions whose symbols are there. -/
import Derived.Test.YtkfpmolplemdlaaRAhead
namespace Go.Proofs.Ytkfpmolplemdlaa.RFoll
open Go Go.RowKit Go.Shelf Go.Maps Go.Sort Go.Proofs.YtkfpmolplemdlaaW.PrintWords Go.Proofs.YtkfpmolplemdlaaW.PrintLast Go.Proofs.Ytkfpmolplemdlaa.Round Go.Proofs.Ytkfpmolplemdlaa.RangeG Go.Proofs.Ytkfpmolplemdlaa.RangeH Go.Proofs.Ytkfpmolplemdlaa.Fl Go.Proofs.Ytkfpmolplemdlaa.Grow Go.Proofs.Ytkfpmolplemdlaa.Deri Go.Proofs.Ytkfpmolplemdlaa.Seqs Go.Proofs.Ytkfpmolplemdlaa.MSet Go.Proofs.Ytkfpmolplemdlaa.Ahd Go.Proofs.Ytkfpmolplemdlaa.Begin Go.Proofs.Ytkfpmolplemdlaa.Begun Go.Proofs.Ytkfpmolplemdlaa.Sorts Go.Proofs.Ytkfpmolplemdlaa.Aheads Go.Proofs.Ytkfpmolplemdlaa.Foll Go.Proofs.Ytkfpmolplemdlaa.FollB Go.Proofs.Ytkfpmolplemdlaa.Refs Go.Proofs.Ytkfpmolplemdlaa.RRow Go.Proofs.Ytkfpmolplemdlaa.RFirst Go.Proofs.Ytkfpmolplemdlaa.RAhead
attribute [local go_sem] Oper.semAt_some
set_option linter.unusedVariables false
set_option linter.unusedSimpArgs false
/-- What Follow's loops keep. -/
structure RL (w : World) (g N : Nat) (ve vf : Value) (em : List Bool) (Ss : List (List Int)) (a0 a1 a2 : Value) (FS : List (List Int)) (W : World) : Prop where
  r : RS w g N ve em a0 a1 a2 FS W
  s : kL.R TL W w.heap.size (fun k => k ≠ g) vf Ss
section
variable {w : World} {g N : Nat} {ve vf : Value} {em : List Bool} {Ss : List (List Int)} {a0 a1 a2 : Value} {FS : List (List Int)} {W W' : World}
theorem RL.below (h : RL w g N ve vf em Ss a0 a1 a2 FS W) (hb : Below W.heap.size W W') : RL w g N ve vf em Ss a0 a1 a2 FS W' := ⟨h.r.below hb, Kd.R_below h.s hb⟩
theorem RL.put (h : RL w g N ve vf em Ss a0 a1 a2 FS W) (i : Nat) (hi : i < N) {v : Value} {x : List Int} (hv : Kd.R (Kd.int .i64) TI W w.heap.size (fun k => k ≠ g) v x) : RL w g N ve vf em Ss a0 a1 a2 (FS.set i x) (W.setCell ⟨g, i, none⟩ v) :=
  ⟨h.r.put i hi hv, Kd.R_grown h.s (orow_put h.r.o i hi hv).2 (fun k hk e => by cases e; exact hk rfl)⟩
end
theorem Inv.initL {N n0 : Nat} (hN : N ≤ 1000000) (h : n0 < N) : Inv N (initL N n0) := by
  refine ⟨fun S hS => ?_, by simp [FollB.initL], fun S hS => ?_⟩
  · rcases List.mem_or_eq_of_mem_set hS with hS | rfl
    · rw [List.eq_of_mem_replicate hS]
      exact List.Pairwise.nil
    · exact List.pairwise_singleton _ _
  · rcases List.mem_or_eq_of_mem_set hS with hS | rfl
    · rw [List.eq_of_mem_replicate hS]
      exact fun _ h => nomatch h
    · intro x hx
      rw [List.mem_singleton] at hx
      omega
theorem setCell_alloc_comm (W : World) (a : Addr) (v : Value) (o : Obj) (h : a.block < W.heap.size) : (W.alloc o).setCell a v = (W.setCell a v).alloc o := by
  unfold World.setCell World.alloc
  simp only
  congr 1
  apply Array.ext
  · simp
  · intro i h1 h2
    simp only [Array.size_modify, Array.size_push] at h1
    rw [Array.getElem_modify]
    by_cases e : i < W.heap.size
    · rw [Array.getElem_push_lt e, Array.getElem_push_lt (by simpa using e), Array.getElem_modify]
    · obtain rfl : i = W.heap.size := by omega
      have e2 : (W.heap.modify a.block fun x => match x with | Obj.cells c elem frozen => Obj.cells (if a.spot.isSome then c else c.setIfInBounds a.off v) elem frozen | o => o).size = W.heap.size := by simp
      rw [if_neg (by omega), Array.getElem_push_eq]
      rw [Array.getElem_push, dif_neg (by simp)]
theorem calls_args {P : Program} {f : FuncId} {args args' : Array Value} {w : World} {Q : Ending → World → Prop} (h : args = args') (hc : Calls P f args' w Q) : Calls P f args w Q := h ▸ hc
theorem ahR_own {N : Nat} {em : List Bool} {Ss : List (List Int)} {B : List Int} (l : List I) (hS : ∀ S ∈ Ss, Rises S) (hB : Rises B) : ahR N em Ss l [] B = ahV N em Ss l B := by
  rw [ahR_eq l hS]
  congr 1
  exact rises_one (unionV_rises _ List.Pairwise.nil) hB (fun x => by rw [unionV_mem]; simp)
theorem ahV_bnd {N : Nat} {em : List Bool} {Ss : List (List Int)} {B : List Int} (l : List I) (hS : Bd Ss) (hB : ∀ x ∈ B, 0 ≤ x ∧ x < 1000000) : ∀ x ∈ ahV N em Ss l B, 0 ≤ x ∧ x < 1000000 := fun x hx => by
  rcases ahV_sub N em Ss B x l hx with h | ⟨S, h1, h2⟩
  · exact hB x h
  · exact hS S h1 x h2
set_option maxRecDepth 100000 in
set_option maxHeartbeats 8000000 in
theorem rfollow_calls (w : World) (A0 A1 A2 : Option Addr) (n0 n1 c0 c1 c2 N : Nat) (hNe : n0 + n1 = N) (hn1 : 1 ≤ n1) (ps : List P) (hC : Kd.C kP w A2 ps.length ps) (hN : N ≤ 999999) (hps : ∀ p ∈ ps, PrOk N p ∧ p.2.1.length ≤ 1000) (em : List Bool) (hel : em.length = N)
    (hE : ∀ W, Below w.heap.size w W → Calls Try.prog 17 #[.agg #[.slice A0 n0 c0, .slice A1 n1 c1, .slice A2 ps.length c2]] W fun e W' => ∃ v, e = .returned v ∧ Kd.R Kd.bool TB W' W.heap.size (fun _ => True) v em ∧ Below W.heap.size W W')
    (k1 : Nat) (Ss : List (List Int)) (hSs : growV (stepF N em) ps k1 (initV N n0) = some Ss) (k : Nat) (FF : List (List Int)) (hFF : growV (stepL N n0 em Ss) ps k (initL N n0) = some FF) :
    Calls Try.prog 21 #[.agg #[.slice A0 n0 c0, .slice A1 n1 c1, .slice A2 ps.length c2]] w fun e w' => ∃ v, e = .returned v ∧ kL.R TL w' w.heap.size (fun _ => True) v FF ∧ Below w.heap.size w w' := by
  obtain ⟨W0, hW0⟩ : ∃ W0, w.alloc (.cells #[.slice A0 n0 c0, .slice A1 n1 c1, .slice A2 ps.length c2] TF) = W0 := ⟨_, rfl⟩
  have hB0 : Below w.heap.size w W0 := by rw [← hW0]; exact (Below.refl _ _).alloc (Nat.le_refl _) _
  have f0 : W0.heap[w.heap.size]? = some (.cells #[.slice A0 n0 c0, .slice A1 n1 c1, .slice A2 ps.length c2] TF (0, 0)) := by rw [← hW0]; exact blk_new w _
  have cf0 : W0.cell? ⟨w.heap.size, 0, none⟩ = some (.slice A0 n0 c0) := blk_cell f0 0
  have cf1 : W0.cell? ⟨w.heap.size, 1, none⟩ = some (.slice A1 n1 c1) := blk_cell f0 1
  have cf2 : W0.cell? ⟨w.heap.size, 2, none⟩ = some (.slice A2 ps.length c2) := blk_cell f0 2
  have sz0 : W0.heap.size = w.heap.size + 1 := by rw [← hW0]; simp
  have hs := fun W => rsize_calls A0 A1 A2 n0 n1 ps.length c0 c1 c2 W (by rw [hNe]; omega)
  rw [hNe] at hs
  have hmk := make_rows N (by omega)
  have hfi : ∀ W, Below w.heap.size w W → Calls Try.prog 20 #[.agg #[.slice A0 n0 c0, .slice A1 n1 c1, .slice A2 ps.length c2]] W fun e W' => ∃ v, e = .returned v ∧ kL.R TL W' W.heap.size (fun _ => True) v Ss ∧ Below W.heap.size W W' := fun W h => rfirst_calls W A0 A1 A2 n0 n1 c0 c1 c2 N hNe ps (Kd.C_below hC h) (by omega) hps em hel (fun W' h' => hE W' (h.trans (h'.mono h.size))) k1 Ss hSs
  have hIs : Inv N Ss := inv_grow k1 _ _ (Inv.init (by omega)) hSs
  have HF0 := Lib.hid f0
  have HSs := Lib.hid hFF
  have HNe := Lib.hid hNe
  have HEl := Lib.hid hel
  have HIs := Lib.hid hIs
  clear f0 hSs hel hFF hIs
  go_enter Try.func21, Try.ntmps21
  go_wp2_with (first
    | (go_at_call 41; refine (hs _).mono ?_; rintro e W1 ⟨rfl, hB1⟩; have d0 := pw_cell_below hB1 cf0; have d1 := pw_cell_below hB1 cf1; have d2 := pw_cell_below hB1 cf2; have hB01 := hB0.trans (hB1.mono hB0.size); have hl1 : w.heap.size < W1.heap.size := (by have := hB1.size; omega); have hBa : Below w.heap.size w (W1.alloc (.cells (Array.replicate N (Value.slice none 0 0)) TL)) := hB01.alloc hB01.size _; have hE1 := hE _ hBa)
    | (go_at_call 17; refine hE1.mono ?_; rintro e W2 ⟨ve, rfl, hR2, hB2⟩; clear hE1; obtain ⟨Ae, ce, rfl, hle, hCe⟩ := Kd.R_reads hR2; have hB02 := hBa.trans (hB2.mono hBa.size); have hfi2 := hfi _ hB02; have e0 := pw_cell_below hB2 ((World.cell?_alloc_lt _ _ _ hl1).trans d0); have e1 := pw_cell_below hB2 ((World.cell?_alloc_lt _ _ _ hl1).trans d1); have e2 := pw_cell_below hB2 ((World.cell?_alloc_lt _ _ _ hl1).trans d2); have hg2 : W1.heap.size < W2.heap.size := (by have := hB2.size; simp at this; omega))
    | (go_at_call 20; refine hfi2.mono ?_; rintro e W3 ⟨vf, rfl, hR3, hB3⟩; obtain ⟨Af, cf, rfl, hlf, hCf⟩ := Kd.R_reads hR3; have g0 := pw_cell_below hB3 e0; have hrow := orow_new W1 N w.heap.size (by omega) (by omega); obtain ⟨Ax, cx, rx1, rx2, _⟩ := orow_at hrow n0 (by omega); have rx3 := pw_cell_below hB3 (pw_cell_below hB2 rx1); have hR03 := Kd.R_below (Kd.R_below hrow hB2) hB3; obtain ⟨_, _, _, rx4, _⟩ := orow_at hR03 n0 (by omega); have hn0N : n0 < N := (by omega); have hg3 : W1.heap.size < W3.heap.size := (by have := hB3.size; omega)))
  have hB03 := hB02.trans (hB3.mono hB02.size)
  have hRS3 : RS w W1.heap.size N (.slice Ae em.length ce) em (.slice A0 n0 c0) (.slice A1 n1 c1) (.slice A2 ps.length c2) (List.replicate N []) W3 := by
    refine ⟨hB03, hR03, ?_, blk_below (blk_below (blk_alloc (blk_below HF0.out hB1) _) hB2) hB3, by omega, hg3⟩
    have h := Kd.R_lower (Kd.R_below hR2 hB3) hBa.size
    refine ⟨fun k hk => ?_, h.2⟩
    obtain ⟨cs, ho, _⟩ := hR2.2
    have := own_base ho k hk
    simp at this
    omega
  have hRL3 : RL w W1.heap.size N (.slice Ae em.length ce) (.slice Af Ss.length cf) em Ss (.slice A0 n0 c0) (.slice A1 n1 c1) (.slice A2 ps.length c2) (List.replicate N []) W3 := by
    refine ⟨hRS3, ?_⟩
    exact Kd.R_lower (Kd.R_mono (Kd.R_bound hR3) (fun k hk => by have := hk.2.2; omega)) hB02.size
  have hRL4 := hRL3.below ((Below.refl _ _).alloc (Nat.le_refl _) (.cells #[.int .i64 (n0 : Int)] TI))
  have HR0 := hRL4.put n0 hn0N (row_one W3 (n0 : Int) w.heap.size hB03.size (fun k => k ≠ W1.heap.size) (by omega))
  have e0 : (List.replicate N ([] : List Int)).set n0 [(n0 : Int)] = initL N n0 := rfl
  rw [e0] at HR0
  obtain ⟨g, hg⟩ : ∃ g, W1.heap.size = g := ⟨_, rfl⟩
  obtain ⟨W5, hW5⟩ : ∃ W5, (W3.alloc (.cells #[.int .i64 (n0 : Int)] TI)).setCell ⟨W1.heap.size, n0, none⟩ (.slice (some ⟨W3.heap.size, 0, none⟩) 1 1) = W5 := ⟨_, rfl⟩
  rw [hW5, hg] at HR0
  rw [setCell_alloc_comm _ _ _ _ hg3] at hW5
  rw [hW5, hg]
  have HI0 := Lib.hid (Inv.initL (n0 := n0) (show N ≤ 1000000 by omega) hn0N)
  clear hW5 hg hR2 hB2 hB01 hB1 hl1 d0 d1 d2 hE hs hmk hR3 hB3 hRS3 hRL3 hRL4 e0 hR03 rx1 rx2 rx3 rx4 hrow g0 hg3 hg2 hBa hB02 hB03 hCe hCf hfi
  go_loopg [6] k (fun gk ag wr => (∃ FS, ag = .bool true ∧ Hid (growV (stepL N n0 em Ss) ps gk FS = some FF) ∧ RL w g N (.slice Ae em.length ce) (.slice Af Ss.length cf) em Ss (.slice A0 n0 c0) (.slice A1 n1 c1) (.slice A2 ps.length c2) FS wr ∧ Hid (Inv N FS)) ∨ (ag = .bool false ∧ RL w g N (.slice Ae em.length ce) (.slice Af Ss.length cf) em Ss (.slice A0 n0 c0) (.slice A1 n1 c1) (.slice A2 ps.length c2) FF wr))
  case atStart => exact .inl ⟨_, rfl, HSs, HR0, HI0⟩
  case round =>
    clear HR0 HSs HI0
    rcases hrel with ⟨FS, rfl, hG, hR, hI⟩ | ⟨rfl, hR⟩
    rotate_left
    · go_wp2
      go_ret
      exact ⟨_, rfl, hR.r.o, hR.r.b⟩
    have hgm : ∃ m, gk = m + 1 := by
      cases gk with
      | zero => exact nomatch hG.out
      | succ m => exact ⟨m, rfl⟩
    obtain ⟨m, rfl⟩ := hgm
    go_wp2
    obtain ⟨R, hRR⟩ : ∃ R, roundsV (stepL N n0 em Ss) ps FS = R := ⟨_, rfl⟩
    have HG : Hid ((R.2 = true ∧ growV (stepL N n0 em Ss) ps m R.1 = some FF) ∨ (R.2 = false ∧ R.1 = FF)) := by
      have h := hG.out
      simp only [growV, hRR] at h
      split at h
      · exact Lib.hid (.inl ⟨by assumption, h⟩)
      · exact Lib.hid (.inr ⟨by simpa using (by assumption : ¬ R.2 = true), by simpa using h⟩)
    have HR := Lib.hid (show (ps.drop 0).foldl (roundV (stepL N n0 em Ss)) (FS, false) = R from hRR)
    have hpsl : ps.length ≤ 9223372036854775807 := hC.2.1
    clear hRR hG
    go_loopw [6, 7] (fun ag i wr => ∃ (q : Nat) (FS' : List (List Int)) (b : Bool), i = .int .i64 (q : Int) ∧ q ≤ ps.length ∧ ag = .bool b ∧ Hid ((ps.drop q).foldl (roundV (stepL N n0 em Ss)) (FS', b) = R) ∧ RL w g N (.slice Ae em.length ce) (.slice Af Ss.length cf) em Ss (.slice A0 n0 c0) (.slice A1 n1 c1) (.slice A2 ps.length c2) FS' wr ∧ Hid (Inv N FS')) (fun _ i _ => ps.length - (Go.RowKit.intOf i).toNat)
    case atStart => exact ⟨0, FS, false, rfl, Nat.zero_le _, rfl, HR, hR, hI⟩
    case round =>
      clear HR hR hI
      obtain ⟨q, FS', b, rfl, hq, rfl, HR, hR, hI⟩ := hrel
      have k2 : wr.cell? ⟨w.heap.size, 2, none⟩ = some (.slice A2 ps.length c2) := blk_cell hR.r.f 2
      by_cases hlt : q < ps.length
      · obtain ⟨ad, p, A3, c3, rfl, hp, hl3, hC3, f0', f1', f2'⟩ := atP hC q hlt
        have f0 := pw_cell_below hR.r.b f0'
        have f1 := pw_cell_below hR.r.b f1'
        have f2 := pw_cell_below hR.r.b f2'
        have hpo := hps p (List.mem_of_getElem? hp)
        have hp0 := hpo.1.1
        have hp1 := hpo.1.2.1
        have hgs := hR.r.gs
        have hps9 : p.2.1.length ≤ 9223372036854775807 := hC3.2.1
        have hdp : ps.drop q = p :: ps.drop (q + 1) := by
          rw [List.drop_eq_getElem_cons hlt]
          congr 1
          exact (List.getElem?_eq_some_iff.1 hp).2
        rw [hdp] at HR
        have HPO := Lib.hid hpo
        clear HF0 cf1 cf2 hp hpo hdp f0' f1' f2'
        go_wp2
        have hB3 : Below wr.heap.size wr (wr.alloc (.cells #[.int .i64 p.1, .slice A3 p.2.1.length c3, .int .i64 p.2.2] TP)) := (Below.refl _ _).alloc (Nat.le_refl _) _
        have hRp := hR.below hB3
        have bp := blk_new wr (.cells #[.int .i64 p.1, .slice A3 p.2.1.length c3, .int .i64 p.2.2] TP)
        have szp : (wr.alloc (.cells #[.int .i64 p.1, .slice A3 p.2.1.length c3, .int .i64 p.2.2] TP)).heap.size = wr.heap.size + 1 := by simp
        obtain ⟨Wp, hWp⟩ : ∃ Wp, wr.alloc (.cells #[.int .i64 p.1, .slice A3 p.2.1.length c3, .int .i64 p.2.2] TP) = Wp := ⟨_, rfl⟩
        rw [hWp] at hB3 hRp bp szp
        rw [hWp]
        have BP := Lib.hid bp
        obtain ⟨pb, hpb⟩ : ∃ pb, wr.heap.size = pb := ⟨_, rfl⟩
        rw [hpb] at BP szp hgs
        rw [hpb]
        clear hWp hpb bp hR f0 f1 f2 k2 hB3
        have HK := Lib.hid (show folV N n0 em Ss p.1.toNat (p.2.1.drop 0) (FS', false) = stepL N n0 em Ss FS' p from rfl)
        go_loopw [6, 9] (fun ag i wx => ∃ (r : Nat) (FX : List (List Int)) (cb a : Bool), i = .int .i64 (r : Int) ∧ ag = .bool a ∧ Hid (a = (b || cb)) ∧ r ≤ p.2.1.length ∧ Hid (folV N n0 em Ss p.1.toNat (p.2.1.drop r) (FX, cb) = stepL N n0 em Ss FS' p) ∧ RL w g N (.slice Ae em.length ce) (.slice Af Ss.length cf) em Ss (.slice A0 n0 c0) (.slice A1 n1 c1) (.slice (some ad) ps.length c2) FX wx ∧ Hid (Inv N FX) ∧ Hid (wx.heap[pb]? = some (.cells #[.int .i64 p.1, .slice A3 p.2.1.length c3, .int .i64 p.2.2] TP (0, 0))) ∧ pb < wx.heap.size) (fun _ i _ => p.2.1.length - (Go.RowKit.intOf i).toNat)
        case atStart => exact ⟨0, FS', false, b, rfl, rfl, Lib.hid (by simp), Nat.zero_le _, HK, hRp, hI, BP, by omega⟩
        case round =>
          clear HK hRp BP szp
          obtain ⟨r, FX, cb, a, rfl, rfl, HA, hr, HK, hRx, hIx, BP, hpw⟩ := hrel
          have b0 : wr.cell? ⟨pb, 0, none⟩ = some (.int .i64 p.1) := blk_cell BP.out 0
          have b1 : wr.cell? ⟨pb, 1, none⟩ = some (.slice A3 p.2.1.length c3) := blk_cell BP.out 1
          have z0 : wr.cell? ⟨w.heap.size, 0, none⟩ = some (.slice A0 n0 c0) := blk_cell hRx.r.f 0
          have z1 : wr.cell? ⟨w.heap.size, 1, none⟩ = some (.slice A1 n1 c1) := blk_cell hRx.r.f 1
          have z2 : wr.cell? ⟨w.heap.size, 2, none⟩ = some (.slice (some ad) ps.length c2) := blk_cell hRx.r.f 2
          by_cases hlr : r < p.2.1.length
          · obtain ⟨adi, x, rfl, hx, i0', i1', i2'⟩ := atI hC3 r hlr
            have i0 := pw_cell_below hRx.r.b i0'
            have hxr := HPO.out.1.2.2 x (List.mem_of_getElem? hx)
            have hx0 := hxr.1
            have hx1 := hxr.2
            have hdx : p.2.1.drop r = x :: p.2.1.drop (r + 1) := by
              rw [List.drop_eq_getElem_cons hlr]
              congr 1
              exact (List.getElem?_eq_some_iff.1 hx).2
            rw [hdx] at HK
            clear hx hxr hdx i1' i2'
            by_cases hxn : x.1 < n0
            · have HK' : Hid (folV N n0 em Ss p.1.toNat (p.2.1.drop (r + 1)) (FX, cb) = stepL N n0 em Ss FS' p) := by
                have h := HK.out
                simp only [folV] at h
                rw [if_pos hxn] at h
                exact Lib.hid h
              clear HK
              go_wp2
              go_roundw
              case rel => exact ⟨r + 1, FX, cb, a, by go_num, rfl, HA, by omega, HK', hRx, hIx, BP, hpw⟩
              case measure => simp [Go.RowKit.intOf]; omega
            · obtain ⟨Al, cl, ka, kf, hla, hCa, _⟩ := orow_at hRx.r.o p.1.toNat (by omega)
              obtain ⟨As, cs, ks, _, hls, hCs, hRa⟩ := orow_at hRx.r.o x.1.toNat (by omega)
              obtain ⟨LL, hLL⟩ : ∃ LL, FX.getD p.1.toNat [] = LL := ⟨_, rfl⟩
              obtain ⟨LX, hLX⟩ : ∃ LX, FX.getD x.1.toNat [] = LX := ⟨_, rfl⟩
              have hu1 := hIx.out.len p.1.toNat
              have hu2 := hIx.out.len x.1.toNat
              rw [hLL] at ka hla hCa hu1
              rw [hLX] at ks hls hCs hRa hu2
              have HLL := Lib.hid hLL
              have HLX := Lib.hid hLX
              clear hLL hLX
              obtain ⟨Ad, hAd⟩ : ∃ Ad : Option Addr, (if c3 = r + 1 then some adi else some (adi.add ((r + 1) * 3))) = Ad := ⟨_, rfl⟩
              have hdl : (p.2.1.drop (r + 1)).length = p.2.1.length - (r + 1) := List.length_drop
              have hCd : Kd.C kI w Ad (p.2.1.drop (r + 1)).length (p.2.1.drop (r + 1)) := by rw [← hAd]; exact Kd.C_drop hC3 (by omega) hl3
              have hCe := (Kd.R_reads' hRx.r.e).2.2
              have hCf := (Kd.R_reads' hRx.s).2.2
              have helN := HEl.out
              have hslN := HIs.out.l
              have hah := rahead_calls wr.drew A0 A1 (some ad) n0 n1 ps.length c0 c1 c2 N HNe.out (by omega) Ad (c3 - (r + 1)) (p.2.1.drop (r + 1)) (Kd.C_below hCd (below_drew hRx.r.b)) Al cl LL (Kd.C_below hCa (below_drew (Below.refl _ _))) (by omega) Af cf Ss (by rw [← hslN]; exact Kd.C_below hCf (below_drew (Below.refl _ _))) HIs.out Ae ce em (by rw [← helN]; exact Kd.C_below hCe (below_drew (Below.refl _ _)))
              rw [hdl] at hah
              have hAhR : ahR N em Ss (p.2.1.drop (r + 1)) [] LL = ahV N em Ss (p.2.1.drop (r + 1)) LL := ahR_own _ HIs.out.r (by rw [← HLL.out]; exact hIx.out.rise _)
              have hAb := ahV_bnd (N := N) (em := em) (Ss := Ss) (B := LL) (p.2.1.drop (r + 1)) HIs.out.d (by rw [← HLL.out]; exact hIx.out.bnd _)
              rw [← hAhR] at hAb
              have hTl := rises_len 0 (ahR_rises (N := N) (em := em) (FS := Ss) (B := LL) (p.2.1.drop (r + 1)) [] List.Pairwise.nil) hAb (by omega)
              have HTl := Lib.hid hTl
              have HAhR := Lib.hid hAhR
              have HAb := Lib.hid hAb
              have HAh := Lib.hid hah
              have HHN := Lib.hid (And.intro helN hslN)
              have hw1 : IntKind.i64.wrap ((r : Int) + 1) = (r : Int) + 1 := by rw [IntKind.wrap_i64]; omega
              have hw2 : (0 : Int) ≤ (r : Int) + 1 := by omega
              have hw3 : (r : Int) + 1 ≤ (p.2.1.length : Int) := by omega
              clear hTl hAhR hAb helN hslN hah
              go_wp2
              have hah := HAh.out
              rename_i K6 hK6
              have hHeld : (fun X => X.cell? ⟨pb, 0, none⟩ = some (.int .i64 p.1) ∧ X.cell? ⟨pb, 1, none⟩ = some (.slice (some adi) p.2.1.length c3) ∧ X.cell? ⟨g, p.1.toNat, none⟩ = some (.slice Al LL.length cl) ∧ X.cell? ⟨g, x.1.toNat, none⟩ = some (.slice As LX.length cs) ∧ X.cell? ⟨w.heap.size, 0, none⟩ = some (.slice A0 n0 c0) ∧ X.cell? ⟨w.heap.size, 1, none⟩ = some (.slice A1 n1 c1) ∧ X.cell? ⟨w.heap.size, 2, none⟩ = some (.slice (some ad) ps.length c2)) wr.drew := ⟨b0, b1, ka, ks, z0, z1, z2⟩
              have keep : ∀ X Y : World, Below X.heap.size X Y → (fun X => X.cell? ⟨pb, 0, none⟩ = some (.int .i64 p.1) ∧ X.cell? ⟨pb, 1, none⟩ = some (.slice (some adi) p.2.1.length c3) ∧ X.cell? ⟨g, p.1.toNat, none⟩ = some (.slice Al LL.length cl) ∧ X.cell? ⟨g, x.1.toNat, none⟩ = some (.slice As LX.length cs) ∧ X.cell? ⟨w.heap.size, 0, none⟩ = some (.slice A0 n0 c0) ∧ X.cell? ⟨w.heap.size, 1, none⟩ = some (.slice A1 n1 c1) ∧ X.cell? ⟨w.heap.size, 2, none⟩ = some (.slice (some ad) ps.length c2)) X → (fun X => X.cell? ⟨pb, 0, none⟩ = some (.int .i64 p.1) ∧ X.cell? ⟨pb, 1, none⟩ = some (.slice (some adi) p.2.1.length c3) ∧ X.cell? ⟨g, p.1.toNat, none⟩ = some (.slice Al LL.length cl) ∧ X.cell? ⟨g, x.1.toNat, none⟩ = some (.slice As LX.length cs) ∧ X.cell? ⟨w.heap.size, 0, none⟩ = some (.slice A0 n0 c0) ∧ X.cell? ⟨w.heap.size, 1, none⟩ = some (.slice A1 n1 c1) ∧ X.cell? ⟨w.heap.size, 2, none⟩ = some (.slice (some ad) ps.length c2)) Y := fun X Y h hh => ⟨pw_cell_below h hh.1, pw_cell_below h hh.2.1, pw_cell_below h hh.2.2.1, pw_cell_below h hh.2.2.2.1, pw_cell_below h hh.2.2.2.2.1, pw_cell_below h hh.2.2.2.2.2.1, pw_cell_below h hh.2.2.2.2.2.2⟩
              refine wp_qz (start_ (S := (fun X => X.cell? ⟨pb, 0, none⟩ = some (.int .i64 p.1) ∧ X.cell? ⟨pb, 1, none⟩ = some (.slice (some adi) p.2.1.length c3) ∧ X.cell? ⟨g, p.1.toNat, none⟩ = some (.slice Al LL.length cl) ∧ X.cell? ⟨g, x.1.toNat, none⟩ = some (.slice As LX.length cs) ∧ X.cell? ⟨w.heap.size, 0, none⟩ = some (.slice A0 n0 c0) ∧ X.cell? ⟨w.heap.size, 1, none⟩ = some (.slice A1 n1 c1) ∧ X.cell? ⟨w.heap.size, 2, none⟩ = some (.slice (some ad) ps.length c2))) (ds := [22]) #[false, false, false, false, false, false, false, false, false, false, false, false, false, false, false, false, false, false, false, false, false, false, false] (by kernel_rfl) rfl rfl hHeld (fun h0_ => ?_))
              clear h0_
              refine pure_ (i := 0) (N := some 64) (v := ?_) (a' := ?_) #[true, false, false, false, false, false, false, false, false, false, false, false, false, false, false, false, false, false, false, false, false, false, false] rfl rfl (by kernel_rfl) (fun _ _ _ h => h) (Or.inl ⟨by rfl, ?_⟩) ?_ ?_
              rotate_left
              · intro w'
                go_simp
                with_reducible rfl
              rotate_left
              · simp only [Act.put, List.setIfInBounds_toArray, List.set_cons_zero, List.set_cons_succ]
                rfl
              refine pure_ (i := 1) (N := some 65) (v := ?_) (a' := ?_) #[true, true, false, false, false, false, false, false, false, false, false, false, false, false, false, false, false, false, false, false, false, false, false] rfl rfl (by kernel_rfl) (fun _ _ _ h => h) (Or.inl ⟨by rfl, ?_⟩) ?_ ?_
              rotate_left
              · intro w'
                go_simp
                with_reducible rfl
              rotate_left
              · simp only [Act.put, List.setIfInBounds_toArray, List.set_cons_zero, List.set_cons_succ]
                rfl
              refine pure_ (i := 2) (N := some 66) (v := ?_) (a' := ?_) #[true, true, true, false, false, false, false, false, false, false, false, false, false, false, false, false, false, false, false, false, false, false, false] rfl rfl (by kernel_rfl) (fun _ _ _ h => h) (Or.inl ⟨by rfl, ?_⟩) ?_ ?_
              rotate_left
              · intro w'
                go_simp
                with_reducible rfl
              rotate_left
              · simp only [Act.put, List.setIfInBounds_toArray, List.set_cons_zero, List.set_cons_succ]
                rfl
              refine pure_ (i := 3) (N := some 67) (v := ?_) (a' := ?_) #[true, true, true, true, false, false, false, false, false, false, false, false, false, false, false, false, false, false, false, false, false, false, false] rfl rfl (by kernel_rfl) (fun _ _ _ h => h) (Or.inl ⟨by rfl, ?_⟩) ?_ ?_
              rotate_left
              · intro w'
                go_simp
                with_reducible rfl
              rotate_left
              · simp only [Act.put, List.setIfInBounds_toArray, List.set_cons_zero, List.set_cons_succ]
                rfl
              refine pure_ (i := 4) (N := some 68) (v := ?_) (a' := ?_) #[true, true, true, true, true, false, false, false, false, false, false, false, false, false, false, false, false, false, false, false, false, false, false] rfl rfl (by kernel_rfl) (fun _ _ _ h => h) (Or.inl ⟨by rfl, ?_⟩) ?_ ?_
              rotate_left
              · intro w'
                go_simp
                with_reducible rfl
              rotate_left
              · simp only [Act.put, List.setIfInBounds_toArray, List.set_cons_zero, List.set_cons_succ]
                rfl
              refine take_ (i := 5) (N := some 69) (v := ?_) (a' := ?_) #[true, true, true, true, true, true, false, false, false, false, false, false, false, false, false, false, false, false, false, false, false, false, false] rfl rfl (by kernel_rfl) (fun _ _ _ h => h) (Or.inl ⟨by rfl, ?_⟩) hHeld ?_ ?_
              rotate_left
              · rintro w' ⟨s0, s1, s2, s3, s4, s5, s6⟩
                go_simp
                with_reducible rfl
              rotate_left
              · simp only [Act.put, List.setIfInBounds_toArray, List.set_cons_zero, List.set_cons_succ]
                rfl
              refine take_ (i := 6) (N := some 70) (v := ?_) (a' := ?_) #[true, true, true, true, true, true, true, false, false, false, false, false, false, false, false, false, false, false, false, false, false, false, false] rfl rfl (by kernel_rfl) (fun _ _ _ h => h) (Or.inl ⟨by rfl, ?_⟩) hHeld ?_ ?_
              rotate_left
              · rintro w' ⟨s0, s1, s2, s3, s4, s5, s6⟩
                go_simp
                with_reducible rfl
              rotate_left
              · simp only [Act.put, List.setIfInBounds_toArray, List.set_cons_zero, List.set_cons_succ]
                rfl
              refine pure_ (i := 7) (N := some 71) (v := ?_) (a' := ?_) #[true, true, true, true, true, true, true, true, false, false, false, false, false, false, false, false, false, false, false, false, false, false, false] rfl rfl (by kernel_rfl) (fun _ _ _ h => h) (Or.inl ⟨by rfl, ?_⟩) ?_ ?_
              rotate_left
              · intro w'
                go_simp
                with_reducible rfl
              rotate_left
              · simp only [Act.put, List.setIfInBounds_toArray, List.set_cons_zero, List.set_cons_succ]
                rfl
              refine take_ (i := 8) (N := some 72) (v := ?_) (a' := ?_) #[true, true, true, true, true, true, true, true, true, false, false, false, false, false, false, false, false, false, false, false, false, false, false] rfl rfl (by kernel_rfl) (fun _ _ _ h => h) (Or.inl ⟨by rfl, ?_⟩) hHeld ?_ ?_
              rotate_left
              · rintro w' ⟨s0, s1, s2, s3, s4, s5, s6⟩
                go_simp
                with_reducible rfl
              rotate_left
              · simp only [Act.put, List.setIfInBounds_toArray, List.set_cons_zero, List.set_cons_succ]
                rfl
              refine pure_ (i := 9) (N := some 73) (v := ?_) (a' := ?_) #[true, true, true, true, true, true, true, true, true, true, false, false, false, false, false, false, false, false, false, false, false, false, false] rfl rfl (by kernel_rfl) (fun _ _ _ h => h) (Or.inl ⟨by rfl, ?_⟩) ?_ ?_
              rotate_left
              · intro w'
                go_simp
                with_reducible rfl
              rotate_left
              · simp only [Act.put, List.setIfInBounds_toArray, List.set_cons_zero, List.set_cons_succ]
                rfl
              refine pure_ (i := 10) (N := some 74) (v := ?_) (a' := ?_) #[true, true, true, true, true, true, true, true, true, true, true, false, false, false, false, false, false, false, false, false, false, false, false] rfl rfl (by kernel_rfl) (fun _ _ _ h => h) (Or.inl ⟨by rfl, ?_⟩) ?_ ?_
              rotate_left
              · intro w'
                go_simp
                with_reducible rfl
              rotate_left
              · simp only [Act.put, List.setIfInBounds_toArray, List.set_cons_zero, List.set_cons_succ]
                rfl
              refine pure_ (i := 11) (N := some 75) (v := ?_) (a' := ?_) #[true, true, true, true, true, true, true, true, true, true, true, true, false, false, false, false, false, false, false, false, false, false, false] rfl rfl (by kernel_rfl) (fun _ _ _ h => h) (Or.inl ⟨by rfl, ?_⟩) ?_ ?_
              rotate_left
              · intro w'
                go_simp
                with_reducible rfl
              rotate_left
              · simp only [Act.put, List.setIfInBounds_toArray, List.set_cons_zero, List.set_cons_succ]
                rfl
              refine pure_ (i := 12) (N := some 76) (v := ?_) (a' := ?_) #[true, true, true, true, true, true, true, true, true, true, true, true, true, false, false, false, false, false, false, false, false, false, false] rfl rfl (by kernel_rfl) (fun _ _ _ h => h) (Or.inl ⟨by rfl, ?_⟩) ?_ ?_
              rotate_left
              · intro w'
                go_simp
                with_reducible rfl
              rotate_left
              · simp only [Act.put, List.setIfInBounds_toArray, List.set_cons_zero, List.set_cons_succ]
                rfl
              refine pure_ (i := 13) (N := some 77) (v := ?_) (a' := ?_) #[true, true, true, true, true, true, true, true, true, true, true, true, true, true, false, false, false, false, false, false, false, false, false] rfl rfl (by kernel_rfl) (fun _ _ _ h => h) (Or.inl ⟨by rfl, ?_⟩) ?_ ?_
              rotate_left
              · intro w'
                go_simp
                with_reducible rfl
              rotate_left
              · simp only [Act.put, List.setIfInBounds_toArray, List.set_cons_zero, List.set_cons_succ]
                rfl
              refine take_ (i := 14) (N := some 78) (v := ?_) (a' := ?_) #[true, true, true, true, true, true, true, true, true, true, true, true, true, true, true, false, false, false, false, false, false, false, false] rfl rfl (by kernel_rfl) (fun _ _ _ h => h) (Or.inl ⟨by rfl, ?_⟩) hHeld ?_ ?_
              rotate_left
              · rintro w' ⟨s0, s1, s2, s3, s4, s5, s6⟩
                go_simp
                with_reducible rfl
              rotate_left
              · simp only [Act.put, List.setIfInBounds_toArray, List.set_cons_zero, List.set_cons_succ]
                rfl
              refine pure_ (i := 15) (N := some 79) (v := ?_) (a' := ?_) #[true, true, true, true, true, true, true, true, true, true, true, true, true, true, true, true, false, false, false, false, false, false, false] rfl rfl (by kernel_rfl) (fun _ _ _ h => h) (Or.inl ⟨by rfl, ?_⟩) ?_ ?_
              rotate_left
              · intro w'
                go_simp
                with_reducible rfl
              rotate_left
              · simp only [Act.put, List.setIfInBounds_toArray, List.set_cons_zero, List.set_cons_succ]
                rfl
              refine take_ (i := 16) (N := some 80) (v := ?_) (a' := ?_) #[true, true, true, true, true, true, true, true, true, true, true, true, true, true, true, true, true, false, false, false, false, false, false] rfl rfl (by kernel_rfl) (fun _ _ _ h => h) (Or.inl ⟨by rfl, ?_⟩) hHeld ?_ ?_
              rotate_left
              · rintro w' ⟨s0, s1, s2, s3, s4, s5, s6⟩
                go_simp
                with_reducible rfl
              rotate_left
              · simp only [Act.put, List.setIfInBounds_toArray, List.set_cons_zero, List.set_cons_succ]
                rfl
              refine pure_ (i := 17) (N := some 81) (v := ?_) (a' := ?_) #[true, true, true, true, true, true, true, true, true, true, true, true, true, true, true, true, true, true, false, false, false, false, false] rfl rfl (by kernel_rfl) (fun _ _ _ h => h) (Or.inl ⟨by rfl, ?_⟩) ?_ ?_
              rotate_left
              · intro w'
                go_simp
                with_reducible rfl
              rotate_left
              · simp only [Act.put, List.setIfInBounds_toArray, List.set_cons_zero, List.set_cons_succ]
                rfl
              refine pure_ (i := 18) (N := some 82) (v := ?_) (a' := ?_) #[true, true, true, true, true, true, true, true, true, true, true, true, true, true, true, true, true, true, true, false, false, false, false] rfl rfl (by kernel_rfl) (fun _ _ _ h => h) (Or.inl ⟨by rfl, ?_⟩) ?_ ?_
              rotate_left
              · intro w'
                go_simp
                with_reducible rfl
              rotate_left
              · simp only [Act.put, List.setIfInBounds_toArray, List.set_cons_zero, List.set_cons_succ]
                rfl
              refine one_ (i := 19) (N := some 83) #[true, true, true, true, true, true, true, true, true, true, true, true, true, true, true, true, true, true, true, true, false, false, false] rfl rfl (by kernel_rfl) (by decide) (fun K hK => ?_)
              refine goes_ Try.func42 (by kernel_rfl) rfl #[.agg #[.slice A0 n0 c0, .slice A1 n1 c1, .slice (some ad) ps.length c2], .slice Ad (p.2.1.length - (r + 1)) (c3 - (r + 1)), .slice Al LL.length cl, .slice Af Ss.length cf, .slice Ae em.length ce] (by rfl) rfl rfl (by first | rfl | (simp [Act.eval]; done) | (simp [go_sem]; done)) ?_
              refine calls_args (by rw [HHN.out.2, HHN.out.1]) (hah.mono ?_)
              rintro e W3 ⟨v3, rfl, hR3, hB3⟩
              obtain ⟨A5, c5, rfl, hl5, hC5⟩ := Kd.R_reads hR3
              have hh1 := keep wr.drew W3 hB3 hHeld
              have hBr3 : Below wr.heap.size wr W3 := (below_drew (Below.refl _ _)).trans hB3
              refine ⟨_, rfl, ?_⟩
              refine hK.out _ _ hh1 (fun h0_ => ?_)
              clear hK K h0_
              refine one_ (i := 20) (N := some 84) #[true, true, true, true, true, true, true, true, true, true, true, true, true, true, true, true, true, true, true, true, true, false, false] rfl rfl (by kernel_rfl) (by decide) (fun K hK => ?_)
              have hCs3 := Kd.C_below hCs hBr3
              have hun := union_calls As cs LX A5 c5 _ W3 hCs3 hls hC5 (by have := HTl.out; omega)
              refine goes_ Try.func33 (by kernel_rfl) rfl #[.slice As LX.length cs, .slice A5 (ahR N em Ss (p.2.1.drop (r + 1)) [] LL).length c5] (by rfl) rfl rfl (by first | rfl | (simp [Act.eval]; done) | (simp [go_sem]; done)) ?_
              refine hun.mono ?_
              rintro e W4 ⟨v4, rfl, hR4, hB4⟩
              obtain ⟨A4, n4, c4, rfl⟩ : ∃ A n c, v4 = .slice A n c := by
                rcases hR4 with ⟨rfl, _⟩ | h
                · exact ⟨_, _, _, rfl⟩
                · obtain ⟨A, c, h, _⟩ := Kd.R_reads h
                  exact ⟨_, _, _, h⟩
              refine ⟨_, rfl, ?_⟩
              have hh2 := keep W3 W4 hB4 hh1
              refine hK.out _ _ hh2 (fun h0_ => ?_)
              clear hK K h0_
              refine pure_ (i := 21) (N := some 85) (v := ?_) (a' := ?_) #[true, true, true, true, true, true, true, true, true, true, true, true, true, true, true, true, true, true, true, true, true, true, false] rfl rfl (by kernel_rfl) (fun _ _ _ h => h) (Or.inl ⟨by rfl, ?_⟩) ?_ ?_
              rotate_left
              · intro w'
                go_simp
                with_reducible rfl
              rotate_left
              · simp only [Act.put, List.setIfInBounds_toArray, List.set_cons_zero, List.set_cons_succ]
                rfl
              refine last_ (i := 22) (N := none) #[true, true, true, true, true, true, true, true, true, true, true, true, true, true, true, true, true, true, true, true, true, true, true] rfl rfl (by kernel_rfl) (by decide) (fun K hK => ?_)
              have hBr4 := hBr3.trans (hB4.mono hBr3.size)
              have hRx4 := hRx.below hBr4
              obtain ⟨_, _, kz, kzf, _⟩ := orow_at hRx4.r.o x.1.toNat (by omega)
              have hput := hRx4.put x.1.toNat (by omega) (v := .slice A4 n4 c4) (x := unionV LX (ahR N em Ss (p.2.1.drop (r + 1)) [] LL)) (by
                rcases hR4 with ⟨e3, e4⟩ | h4
                · rw [e4, e3]
                  exact Kd.R_below hRa hBr4
                · have h5 := Kd.R_lower h4 (base' := w.heap.size) (by have := hRx.r.b.size; have := hBr3.size; omega)
                  refine ⟨fun k hk => ?_, h5.2⟩
                  obtain ⟨cs, ho, _⟩ := h4.2
                  have := own_base ho k hk
                  have := hRx.r.gs
                  have := hBr3.size
                  omega)
              refine skip_ (w1 := W4.setCell ⟨g, x.1.toNat, none⟩ (.slice A4 n4 c4)) (by rfl) rfl ?_ ?_
              · go_simp
              refine hK.out _ _ ?_
              clear hK K
              refine done_ (by kernel_rfl) ?_
              refine hK6 _ _ ?_
              clear hK6 keep hHeld hh1 hh2 hRx4 hR4 kz kzf ka ks kf i0 hla hCa hRa hls hCs hCd hCe hCf hun hR3 hC5 hCs3 hw1 hw2 hw3 hah
              obtain ⟨Wz, hWz⟩ : ∃ Wz, W4.setCell ⟨g, x.1.toNat, none⟩ (.slice A4 n4 c4) = Wz := ⟨_, rfl⟩
              have hBz : Wz.heap[pb]? = some (.cells #[.int .i64 p.1, .slice (some adi) p.2.1.length c3, .int .i64 p.2.2] TP (0, 0)) := by
                rw [← hWz]
                exact (Below.heap_setCell _ _ _ _ (by show pb ≠ g; omega)).trans (blk_below BP.out hBr4)
              have hpz : pb < Wz.heap.size := blk_lt hBz
              rw [hWz] at hput
              rw [hWz]
              clear hWz BP b0 b1
              rw [HAhR.out] at hput
              obtain ⟨LZ, hLZ⟩ : ∃ LZ, unionV LX (ahV N em Ss (p.2.1.drop (r + 1)) LL) = LZ := ⟨_, rfl⟩
              have hbz : ∀ y ∈ LZ, 0 ≤ y ∧ y < 1000000 := fun y hy => by
                rw [← hLZ] at hy
                rcases (unionV_mem y _ _).1 hy with h | h
                · rw [← HAhR.out] at h
                  exact HAb.out y h
                · rw [← HLX.out] at h
                  exact hIx.out.bnd _ y h
              have hrz : Rises LZ := by rw [← hLZ, ← HLX.out]; exact unionV_rises _ (hIx.out.rise _)
              rw [hLZ] at hput
              obtain ⟨FZ, hFZ⟩ : ∃ FZ, FX.set x.1.toNat LZ = FZ := ⟨_, rfl⟩
              have hIz := Lib.hid (hIx.out.set x.1.toNat hrz hbz)
              have hgz : FZ.getD x.1.toNat [] = LZ := by rw [← hFZ, getD_set (by rw [hIx.out.l]; omega), if_pos rfl]
              rw [hFZ] at hput hIz
              have HKz : Hid (folV N n0 em Ss p.1.toNat (p.2.1.drop (r + 1)) (FZ, decide (LX.length < LZ.length) || cb) = stepL N n0 em Ss FS' p) := by
                have h := HK.out
                simp only [folV] at h
                rw [if_neg (by omega)] at h
                simp only [oneL] at h
                rw [HLL.out, HLX.out, hLZ, hFZ] at h
                exact Lib.hid h
              obtain ⟨Az, cz, kz, _, _⟩ := orow_at hput.r.o x.1.toNat (by omega)
              rw [hgz] at kz
              have HBz := Lib.hid hBz
              clear hFZ HK hIx HLL HLX hRx hu1 hu2 hBz hrz hbz hLZ hgz HAb HAhR HTl HHN HAh z0 z1 z2
              cases a with
              | true =>
                have HA' : Hid (true = (b || (decide (LX.length < LZ.length) || cb))) := Lib.hid (by have := HA.out; cases b <;> simp at this ⊢; simp [this])
                clear HA kz
                go_wp2
                go_roundw
                case rel => exact ⟨r + 1, FZ, _, true, by go_num, rfl, HA', by omega, HKz, hput, hIz, HBz, hpz⟩
                case measure => simp [Go.RowKit.intOf]; omega
              | false =>
                have HA' : Hid (decide (LX.length < LZ.length) = (b || (decide (LX.length < LZ.length) || cb))) := Lib.hid (by have := HA.out; cases b <;> simp at this ⊢; simp [this])
                clear HA
                go_wp2
                go_roundw
                case rel => exact ⟨r + 1, FZ, _, _, by go_num, rfl, HA', by omega, HKz, hput, hIz, HBz, hpz⟩
                case measure => simp [Go.RowKit.intOf]; omega
          · obtain rfl : r = p.2.1.length := by omega
            have HRz : Hid ((ps.drop (q + 1)).foldl (roundV (stepL N n0 em Ss)) (FX, a) = R) := by
              have h := HK.out
              rw [List.drop_length] at h
              have h2 : (FX, cb) = stepL N n0 em Ss FS' p := h
              have h3 := HR.out
              rw [List.foldl_cons] at h3
              have h4 : roundV (stepL N n0 em Ss) (FS', b) p = (FX, a) := by
                unfold roundV
                rw [← h2, HA.out]
              rw [h4] at h3
              exact Lib.hid h3
            clear HK HA HR z0 z1 z2 b0
            go_wp2
            go_roundw
            case rel => exact ⟨q + 1, FX, a, by go_num, by omega, rfl, HRz, hRx, hIx⟩
            case measure => simp [Go.RowKit.intOf]; omega
      · obtain rfl : q = ps.length := by omega
        have h := HR.out
        rw [List.drop_length] at h
        have h2 : (FS', b) = R := h
        subst h2
        clear h HR
        go_wp2
        rcases HG.out with ⟨rfl, hg⟩ | ⟨rfl, rfl⟩
        · go_roundg m
          case measure => omega
          case rel => exact .inl ⟨_, rfl, Lib.hid hg, hR, hI⟩
        · go_roundg m
          case measure => omega
          case rel => exact .inr ⟨rfl, hR⟩
end Go.Proofs.Ytkfpmolplemdlaa.RFoll
