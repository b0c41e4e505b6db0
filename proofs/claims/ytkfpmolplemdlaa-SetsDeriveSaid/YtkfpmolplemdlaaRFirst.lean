/- The reference's First walked. Over productions whose symbols are there. -/
import Derived.Test.YtkfpmolplemdlaaRRow
namespace Go.Proofs.Ytkfpmolplemdlaa.RFirst
open Go Go.RowKit Go.Shelf Go.Maps Go.Sort Go.Proofs.YtkfpmolplemdlaaW.PrintWords Go.Proofs.YtkfpmolplemdlaaW.PrintLast Go.Proofs.Ytkfpmolplemdlaa.Round Go.Proofs.Ytkfpmolplemdlaa.RangeG Go.Proofs.Ytkfpmolplemdlaa.RangeH Go.Proofs.Ytkfpmolplemdlaa.Fl Go.Proofs.Ytkfpmolplemdlaa.Grow Go.Proofs.Ytkfpmolplemdlaa.Deri Go.Proofs.Ytkfpmolplemdlaa.Seqs Go.Proofs.Ytkfpmolplemdlaa.MSet Go.Proofs.Ytkfpmolplemdlaa.Ahd Go.Proofs.Ytkfpmolplemdlaa.Begin Go.Proofs.Ytkfpmolplemdlaa.Begun Go.Proofs.Ytkfpmolplemdlaa.Sorts Go.Proofs.Ytkfpmolplemdlaa.Refs Go.Proofs.Ytkfpmolplemdlaa.RRow
attribute [local go_sem] Oper.semAt_some
set_option linter.unusedVariables false
set_option linter.unusedSimpArgs false
theorem initV_next (N j : Nat) (h : j < N) : (initV N j).set j [(j : Int)] = initV N (j + 1) := by
  refine List.ext_getElem (by simp [initV]) (fun i h1 h2 => ?_)
  rw [List.getElem_set]
  simp only [initV, List.getElem_map, List.getElem_range]
  split
  · rename_i e
    subst e
    rw [if_pos (Nat.lt_succ_self _)]
  · rename_i e
    by_cases hi : i < j
    · rw [if_pos hi, if_pos (by omega)]
    · rw [if_neg hi, if_neg (by omega)]
theorem initV_zero (N : Nat) : initV N 0 = List.replicate N [] := by
  refine List.ext_getElem (by simp [initV]) (fun i h1 h2 => ?_)
  simp [initV]
theorem row_one (W : World) (x : Int) (base : Nat) (hb : base ≤ W.heap.size) (ok : Nat → Prop) (hok : ok W.heap.size) : Kd.R (Kd.int .i64) TI (W.alloc (.cells #[.int .i64 x] TI)) base ok (.slice (some ⟨W.heap.size, 0, none⟩) 1 1) [x] := by
  refine Kd.R_of_own (enc := Value.int .i64) (h1 := fun _ => rfl) ?_ (fun k hk => ?_)
  · exact ⟨rfl, .inr ⟨W.heap.size, 1, #[.int .i64 x], rfl, hb, blk_new _ _, by simp, by simp [maxLen], by simp, rfl⟩⟩
  · obtain rfl : W.heap.size = k := by simpa [Value.ownBlock] using hk
    exact hok
theorem round_next {N : Nat} {em : List Bool} {FS FZ : List (List Int)} {p : P} {b : Bool} {rest : List P} {R : List (List Int) × Bool} (hI : Inv N FS) (hp : PrOk N p) (h : (p :: rest).foldl (roundV (stepF N em)) (FS, b) = R) (hz : FZ = refK em p.1.toNat p.2.1 FS) :
    rest.foldl (roundV (stepF N em)) (FZ, b || decide ((FS.getD p.1.toNat []).length < (FZ.getD p.1.toNat []).length)) = R := by
  rw [refK_eq hI hp] at hz
  rw [List.foldl_cons] at h
  have e : roundV (stepF N em) (FS, b) p = (FZ, b || decide ((FS.getD p.1.toNat []).length < (FZ.getD p.1.toNat []).length)) := by
    unfold roundV
    rw [← hz]
    congr 2
    have e2 : FZ.getD p.1.toNat [] = unionV (FS.getD p.1.toNat []) (ahV N em FS p.2.1 []) := by
      rw [hz]
      show (FS.set _ _).getD _ _ = _
      rw [getD_set (by rw [hI.l]; have := hp.1; have := hp.2.1; omega), if_pos rfl]
    rw [e2]
    rfl
  rw [← e]
  exact h
set_option maxRecDepth 100000 in
set_option maxHeartbeats 4000000 in
theorem rfirst_calls (w : World) (A0 A1 A2 : Option Addr) (n0 n1 c0 c1 c2 N : Nat) (hNe : n0 + n1 = N) (ps : List P) (hC : Kd.C kP w A2 ps.length ps) (hN : N ≤ 1000000) (hps : ∀ p ∈ ps, PrOk N p ∧ p.2.1.length ≤ 1000) (em : List Bool) (hel : em.length = N)
    (hE : ∀ W, Below w.heap.size w W → Calls Try.prog 17 #[.agg #[.slice A0 n0 c0, .slice A1 n1 c1, .slice A2 ps.length c2]] W fun e W' => ∃ v, e = .returned v ∧ Kd.R Kd.bool TB W' W.heap.size (fun _ => True) v em ∧ Below W.heap.size W W')
    (k : Nat) (Ss : List (List Int)) (hSs : growV (stepF N em) ps k (initV N n0) = some Ss) :
    Calls Try.prog 20 #[.agg #[.slice A0 n0 c0, .slice A1 n1 c1, .slice A2 ps.length c2]] w fun e w' => ∃ v, e = .returned v ∧ kL.R TL w' w.heap.size (fun _ => True) v Ss ∧ Below w.heap.size w w' := by
  obtain ⟨W0, hW0⟩ : ∃ W0, w.alloc (.cells #[.slice A0 n0 c0, .slice A1 n1 c1, .slice A2 ps.length c2] TF) = W0 := ⟨_, rfl⟩
  have hB0 : Below w.heap.size w W0 := by rw [← hW0]; exact (Below.refl _ _).alloc (Nat.le_refl _) _
  have f0 : W0.heap[w.heap.size]? = some (.cells #[.slice A0 n0 c0, .slice A1 n1 c1, .slice A2 ps.length c2] TF (0, 0)) := by rw [← hW0]; exact blk_new w _
  have cf0 : W0.cell? ⟨w.heap.size, 0, none⟩ = some (.slice A0 n0 c0) := blk_cell f0 0
  have cf1 : W0.cell? ⟨w.heap.size, 1, none⟩ = some (.slice A1 n1 c1) := blk_cell f0 1
  have cf2 : W0.cell? ⟨w.heap.size, 2, none⟩ = some (.slice A2 ps.length c2) := blk_cell f0 2
  have sz0 : W0.heap.size = w.heap.size + 1 := by rw [← hW0]; simp
  have hs := fun W => rsize_calls A0 A1 A2 n0 n1 ps.length c0 c1 c2 W (by rw [hNe]; exact hN)
  rw [hNe] at hs
  have hmk := make_rows N hN
  have HF0 := Lib.hid f0
  have HSs := Lib.hid hSs
  have HNe := Lib.hid hNe
  have HEl := Lib.hid hel
  clear f0 hSs hel
  go_enter Try.func20, Try.ntmps20
  go_wp2_with (first
    | (go_at_call 41; refine (hs _).mono ?_; rintro e W1 ⟨rfl, hB1⟩; have d0 := pw_cell_below hB1 cf0; have d1 := pw_cell_below hB1 cf1; have d2 := pw_cell_below hB1 cf2; have hB01 := hB0.trans (hB1.mono hB0.size); have hl1 : w.heap.size < W1.heap.size := (by have := hB1.size; omega); have hE1 := hE _ (hB01.alloc hB01.size (.cells (Array.replicate N (Value.slice none 0 0)) TL)))
    | (go_at_call 17; refine hE1.mono ?_; rintro e W2 ⟨ve, rfl, hR2, hB2⟩; clear hE1))
  have hRS0 : RS w W1.heap.size N ve em (.slice A0 n0 c0) (.slice A1 n1 c1) (.slice A2 ps.length c2) (initV N 0) W2 := by
    have hBa : Below w.heap.size w (W1.alloc (.cells (Array.replicate N (Value.slice none 0 0)) TL)) := hB01.alloc hB01.size _
    refine ⟨hBa.trans (hB2.mono hBa.size), ?_, ?_, blk_below (blk_alloc (blk_below HF0.out hB1) _) hB2, by omega, by have := hB2.size; simp at this; omega⟩
    · rw [initV_zero]
      exact Kd.R_below (orow_new W1 N w.heap.size hN (by omega)) hB2
    · have h := Kd.R_lower hR2 hBa.size
      refine ⟨fun k hk => ?_, h.2⟩
      obtain ⟨cs, ho, _⟩ := hR2.2
      have := own_base ho k hk
      simp at this
      omega
  obtain ⟨g, hg⟩ : ∃ g, W1.heap.size = g := ⟨_, rfl⟩
  rw [hg] at hRS0
  rw [hg]
  clear hg hR2 hB2 hB01 hB1 hl1 d0 d1 d2 hE hs hmk
  obtain ⟨Ab, cb, rfl, hcb, hCb⟩ := Kd.R_reads hRS0.e
  have HR0 := hRS0
  clear hRS0 hCb
  go_loopw [5] (fun i wr => ∃ j : Nat, i = .int .i64 (j : Int) ∧ j ≤ n0 ∧ RS w g N (.slice Ab em.length cb) em (.slice A0 n0 c0) (.slice A1 n1 c1) (.slice A2 ps.length c2) (initV N j) wr) (fun i _ => n0 - (Go.RowKit.intOf i).toNat)
  case atStart => exact ⟨0, rfl, Nat.zero_le _, HR0⟩
  case round =>
    obtain ⟨j, rfl, hj, hR⟩ := hrel
    have k0 : wr.cell? ⟨w.heap.size, 0, none⟩ = some (.slice A0 n0 c0) := blk_cell hR.f 0
    by_cases hlt : j < n0
    · have hRa := hR.below ((Below.refl _ _).alloc (Nat.le_refl _) (.cells #[.int .i64 (j : Int)] TI))
      obtain ⟨A', c', q1, q2, _⟩ := orow_at hRa.o j (by have := HNe.out; omega)
      have hRn := hRa.put j (by have := HNe.out; omega) (row_one wr (j : Int) w.heap.size hR.b.size (fun k => k ≠ g) (by have := hR.gs; omega))
      rw [initV_next N j (by have := HNe.out; omega)] at hRn
      have HRn := Lib.hid hRn
      have hjN : j < N := by have := HNe.out; omega
      clear hRa hRn hR HR0
      go_wp2
      go_roundw
      case rel => exact ⟨j + 1, by go_num, by omega, HRn.out⟩
      case measure => simp [Go.RowKit.intOf]; omega
    · obtain rfl : j = n0 := by omega
      go_wp2
      go_loopg [6] k (fun gk ag wr => (∃ FS, ag = .bool true ∧ Hid (growV (stepF N em) ps gk FS = some Ss) ∧ RS w g N (.slice Ab em.length cb) em (.slice A0 j c0) (.slice A1 n1 c1) (.slice A2 ps.length c2) FS wr ∧ Hid (Inv N FS)) ∨ (ag = .bool false ∧ RS w g N (.slice Ab em.length cb) em (.slice A0 j c0) (.slice A1 n1 c1) (.slice A2 ps.length c2) Ss wr))
      case atStart => exact .inl ⟨_, rfl, HSs, hR, Lib.hid (Inv.init hN)⟩
      case round =>
        clear hR HR0 k0 HSs hlt hj
        rcases hrel with ⟨FS, rfl, hG, hR, hI⟩ | ⟨rfl, hR⟩
        rotate_left
        · go_wp2
          go_ret
          exact ⟨_, rfl, hR.o, hR.b⟩
        have hgm : ∃ m, gk = m + 1 := by
          cases gk with
          | zero => exact nomatch hG.out
          | succ m => exact ⟨m, rfl⟩
        obtain ⟨m, rfl⟩ := hgm
        go_wp2
        obtain ⟨R, hRR⟩ : ∃ R, roundsV (stepF N em) ps FS = R := ⟨_, rfl⟩
        have HG : Hid ((R.2 = true ∧ growV (stepF N em) ps m R.1 = some Ss) ∨ (R.2 = false ∧ R.1 = Ss)) := by
          have h := hG.out
          simp only [growV, hRR] at h
          split at h
          · exact Lib.hid (.inl ⟨by assumption, h⟩)
          · exact Lib.hid (.inr ⟨by simpa using (by assumption : ¬ R.2 = true), by simpa using h⟩)
        have HR := Lib.hid (show (ps.drop 0).foldl (roundV (stepF N em)) (FS, false) = R from hRR)
        clear hRR hG
        go_loopw [6, 7] (fun ag i wr => ∃ (q : Nat) (FS' : List (List Int)) (b : Bool), i = .int .i64 (q : Int) ∧ q ≤ ps.length ∧ ag = .bool b ∧ Hid ((ps.drop q).foldl (roundV (stepF N em)) (FS', b) = R) ∧ RS w g N (.slice Ab em.length cb) em (.slice A0 j c0) (.slice A1 n1 c1) (.slice A2 ps.length c2) FS' wr ∧ Hid (Inv N FS')) (fun _ i _ => ps.length - (Go.RowKit.intOf i).toNat)
        case atStart => exact ⟨0, FS, false, rfl, Nat.zero_le _, rfl, HR, hR, hI⟩
        case round =>
          clear HR hR hI
          obtain ⟨q, FS', b, rfl, hq, rfl, HR, hR, hI⟩ := hrel
          have k2 : wr.cell? ⟨w.heap.size, 2, none⟩ = some (.slice A2 ps.length c2) := blk_cell hR.f 2
          by_cases hlt : q < ps.length
          · obtain ⟨ad, p, A3, c3, rfl, hp, hl3, hC3, f0', f1', f2'⟩ := atP hC q hlt
            have f0 := pw_cell_below hR.b f0'
            have f1 := pw_cell_below hR.b f1'
            have f2 := pw_cell_below hR.b f2'
            have hpo := hps p (List.mem_of_getElem? hp)
            have hp0 := hpo.1.1
            have hp1 := hpo.1.2.1
            obtain ⟨Al, cl, ka, kf, _⟩ := orow_at hR.o p.1.toNat (by omega)
            have hgs := hR.gs
            have hps9 : p.2.1.length ≤ 9223372036854775807 := hC3.2.1
            have hdp : ps.drop q = p :: ps.drop (q + 1) := by
              rw [List.drop_eq_getElem_cons hlt]
              congr 1
              exact (List.getElem?_eq_some_iff.1 hp).2
            rw [hdp] at HR
            have hpsl : ps.length ≤ 9223372036854775807 := hC.2.1
            have HPO := Lib.hid hpo
            obtain ⟨L0, hL0⟩ : ∃ L0, FS'.getD p.1.toNat [] = L0 := ⟨_, rfl⟩
            rw [hL0] at ka
            have HL0 := Lib.hid hL0
            have HI0 := hI
            clear hL0
            clear HF0 cf1 cf2 hp hpo hdp f0' f1' f2'
            go_wp2
            have hB3 : Below wr.heap.size wr (wr.alloc (.cells #[.int .i64 p.1, .slice A3 p.2.1.length c3, .int .i64 p.2.2] TP)) := (Below.refl _ _).alloc (Nat.le_refl _) _
            have hRp := hR.below hB3
            have bp := blk_new wr (.cells #[.int .i64 p.1, .slice A3 p.2.1.length c3, .int .i64 p.2.2] TP)
            have szp : (wr.alloc (.cells #[.int .i64 p.1, .slice A3 p.2.1.length c3, .int .i64 p.2.2] TP)).heap.size = wr.heap.size + 1 := by simp
            obtain ⟨Wp, hWp⟩ : ∃ Wp, wr.alloc (.cells #[.int .i64 p.1, .slice A3 p.2.1.length c3, .int .i64 p.2.2] TP) = Wp := ⟨_, rfl⟩
            rw [hWp] at hB3 hRp bp szp
            rw [hWp]
            have BP := Lib.hid bp
            obtain ⟨pb, hpb⟩ : ∃ pb, wr.heap.size = pb := ⟨_, rfl⟩
            rw [hpb] at BP szp hgs
            rw [hpb]
            clear hWp hpb bp hR ka kf f0 f1 f2 k2 hB3
            have HK := Lib.hid (show refK em p.1.toNat (p.2.1.drop 0) FS' = refK em p.1.toNat p.2.1 FS' from rfl)
            go_loopw [10] (fun i wx => ∃ (r : Nat) (FX : List (List Int)), i = .int .i64 (r : Int) ∧ r ≤ p.2.1.length ∧ Hid (refK em p.1.toNat (p.2.1.drop r) FX = refK em p.1.toNat p.2.1 FS') ∧ RS w g N (.slice Ab em.length cb) em (.slice A0 j c0) (.slice A1 n1 c1) (.slice (some ad) ps.length c2) FX wx ∧ Hid (Inv N FX) ∧ Hid (wx.heap[pb]? = some (.cells #[.int .i64 p.1, .slice A3 p.2.1.length c3, .int .i64 p.2.2] TP (0, 0))) ∧ pb < wx.heap.size) (fun i _ => p.2.1.length - (Go.RowKit.intOf i).toNat)
            case atStart => exact ⟨0, FS', rfl, Nat.zero_le _, HK, hRp, hI, BP, by omega⟩
            case round =>
              clear HK hRp BP hI szp
              obtain ⟨r, FX, rfl, hr, HK, hRx, hI, BP, hpw⟩ := hrel
              have b0 := blk_cell BP.out 0
              have b1 := blk_cell BP.out 1
              have hlen := hI.out.l
              obtain ⟨Al, cl, ka, kf, hla, hCa, hRa⟩ := orow_at hRx.o p.1.toNat (by omega)
              by_cases hlr : r < p.2.1.length
              · obtain ⟨adi, x, rfl, hx, i0', i1', i2'⟩ := atI hC3 r hlr
                have i0 := pw_cell_below hRx.b i0'
                have hxr := HPO.out.1.2.2 x (List.mem_of_getElem? hx)
                have hx0 := hxr.1
                have hx1 := hxr.2
                obtain ⟨As, cs, ks, _, hls, hCs, _⟩ := orow_at hRx.o x.1.toNat (by omega)
                have hdx : p.2.1.drop r = x :: p.2.1.drop (r + 1) := by
                  rw [List.drop_eq_getElem_cons hlr]
                  congr 1
                  exact (List.getElem?_eq_some_iff.1 hx).2
                rw [hdx] at HK
                clear hx hxr hdx i1' i2'
                obtain ⟨LL, hLL⟩ : ∃ LL, FX.getD p.1.toNat [] = LL := ⟨_, rfl⟩
                obtain ⟨LX, hLX⟩ : ∃ LX, FX.getD x.1.toNat [] = LX := ⟨_, rfl⟩
                have hu1 := hI.out.len p.1.toNat
                have hu2 := hI.out.len x.1.toNat
                rw [hLL] at ka hla hCa hRa hu1
                rw [hLX] at ks hls hCs hu2
                have HLL := Lib.hid hLL
                have HLX := Lib.hid hLX
                clear hLL hLX
                go_wp2
                rename_i K6 hK6
                have hHeld : (fun X => X.cell? ⟨pb, 0, none⟩ = some (.int .i64 p.1) ∧ X.cell? ⟨pb, 1, none⟩ = some (.slice (some adi) p.2.1.length c3) ∧ X.cell? ⟨g, p.1.toNat, none⟩ = some (.slice Al LL.length cl) ∧ X.cell? (adi.add (r * 3)) = some (.int .i64 x.1) ∧ X.cell? ⟨g, x.1.toNat, none⟩ = some (.slice As LX.length cs)) wr.drew := ⟨b0, b1, ka, i0, ks⟩
                have keep : ∀ X Y : World, Below X.heap.size X Y → (fun X => X.cell? ⟨pb, 0, none⟩ = some (.int .i64 p.1) ∧ X.cell? ⟨pb, 1, none⟩ = some (.slice (some adi) p.2.1.length c3) ∧ X.cell? ⟨g, p.1.toNat, none⟩ = some (.slice Al LL.length cl) ∧ X.cell? (adi.add (r * 3)) = some (.int .i64 x.1) ∧ X.cell? ⟨g, x.1.toNat, none⟩ = some (.slice As LX.length cs)) X → (fun X => X.cell? ⟨pb, 0, none⟩ = some (.int .i64 p.1) ∧ X.cell? ⟨pb, 1, none⟩ = some (.slice (some adi) p.2.1.length c3) ∧ X.cell? ⟨g, p.1.toNat, none⟩ = some (.slice Al LL.length cl) ∧ X.cell? (adi.add (r * 3)) = some (.int .i64 x.1) ∧ X.cell? ⟨g, x.1.toNat, none⟩ = some (.slice As LX.length cs)) Y := fun X Y h hh => ⟨pw_cell_below h hh.1, pw_cell_below h hh.2.1, pw_cell_below h hh.2.2.1, pw_cell_below h hh.2.2.2.1, pw_cell_below h hh.2.2.2.2⟩
                refine wp_qz (start_ (S := (fun X => X.cell? ⟨pb, 0, none⟩ = some (.int .i64 p.1) ∧ X.cell? ⟨pb, 1, none⟩ = some (.slice (some adi) p.2.1.length c3) ∧ X.cell? ⟨g, p.1.toNat, none⟩ = some (.slice Al LL.length cl) ∧ X.cell? (adi.add (r * 3)) = some (.int .i64 x.1) ∧ X.cell? ⟨g, x.1.toNat, none⟩ = some (.slice As LX.length cs))) (ds := [19]) #[false, false, false, false, false, false, false, false, false, false, false, false, false, false, false, false, false, false, false, false] (by kernel_rfl) rfl rfl hHeld (fun h0_ => ?_))
                clear h0_
                refine pure_ (i := 0) (N := some 54) (v := ?_) (a' := ?_) #[true, false, false, false, false, false, false, false, false, false, false, false, false, false, false, false, false, false, false, false] rfl rfl (by kernel_rfl) (fun _ _ _ h => h) (Or.inl ⟨by rfl, ?_⟩) ?_ ?_
                rotate_left
                · intro w'
                  go_simp
                  with_reducible rfl
                rotate_left
                · simp only [Act.put, List.setIfInBounds_toArray, List.set_cons_zero, List.set_cons_succ]
                  rfl
                refine pure_ (i := 1) (N := some 55) (v := ?_) (a' := ?_) #[true, true, false, false, false, false, false, false, false, false, false, false, false, false, false, false, false, false, false, false] rfl rfl (by kernel_rfl) (fun _ _ _ h => h) (Or.inl ⟨by rfl, ?_⟩) ?_ ?_
                rotate_left
                · intro w'
                  go_simp
                  with_reducible rfl
                rotate_left
                · simp only [Act.put, List.setIfInBounds_toArray, List.set_cons_zero, List.set_cons_succ]
                  rfl
                refine take_ (i := 2) (N := some 56) (v := ?_) (a' := ?_) #[true, true, true, false, false, false, false, false, false, false, false, false, false, false, false, false, false, false, false, false] rfl rfl (by kernel_rfl) (fun _ _ _ h => h) (Or.inl ⟨by rfl, ?_⟩) hHeld ?_ ?_
                rotate_left
                · rintro w' ⟨s0, s1, s2, s3, s4⟩
                  go_simp
                  with_reducible rfl
                rotate_left
                · simp only [Act.put, List.setIfInBounds_toArray, List.set_cons_zero, List.set_cons_succ]
                  rfl
                refine pure_ (i := 3) (N := some 57) (v := ?_) (a' := ?_) #[true, true, true, true, false, false, false, false, false, false, false, false, false, false, false, false, false, false, false, false] rfl rfl (by kernel_rfl) (fun _ _ _ h => h) (Or.inl ⟨by rfl, ?_⟩) ?_ ?_
                rotate_left
                · intro w'
                  go_simp
                  with_reducible rfl
                rotate_left
                · simp only [Act.put, List.setIfInBounds_toArray, List.set_cons_zero, List.set_cons_succ]
                  rfl
                refine pure_ (i := 4) (N := some 58) (v := ?_) (a' := ?_) #[true, true, true, true, true, false, false, false, false, false, false, false, false, false, false, false, false, false, false, false] rfl rfl (by kernel_rfl) (fun _ _ _ h => h) (Or.inl ⟨by rfl, ?_⟩) ?_ ?_
                rotate_left
                · intro w'
                  go_simp
                  with_reducible rfl
                rotate_left
                · simp only [Act.put, List.setIfInBounds_toArray, List.set_cons_zero, List.set_cons_succ]
                  rfl
                refine take_ (i := 5) (N := some 59) (v := ?_) (a' := ?_) #[true, true, true, true, true, true, false, false, false, false, false, false, false, false, false, false, false, false, false, false] rfl rfl (by kernel_rfl) (fun _ _ _ h => h) (Or.inl ⟨by rfl, ?_⟩) hHeld ?_ ?_
                rotate_left
                · rintro w' ⟨s0, s1, s2, s3, s4⟩
                  go_simp
                  with_reducible rfl
                rotate_left
                · simp only [Act.put, List.setIfInBounds_toArray, List.set_cons_zero, List.set_cons_succ]
                  rfl
                refine pure_ (i := 6) (N := some 60) (v := ?_) (a' := ?_) #[true, true, true, true, true, true, true, false, false, false, false, false, false, false, false, false, false, false, false, false] rfl rfl (by kernel_rfl) (fun _ _ _ h => h) (Or.inl ⟨by rfl, ?_⟩) ?_ ?_
                rotate_left
                · intro w'
                  go_simp
                  with_reducible rfl
                rotate_left
                · simp only [Act.put, List.setIfInBounds_toArray, List.set_cons_zero, List.set_cons_succ]
                  rfl
                refine take_ (i := 7) (N := some 61) (v := ?_) (a' := ?_) #[true, true, true, true, true, true, true, true, false, false, false, false, false, false, false, false, false, false, false, false] rfl rfl (by kernel_rfl) (fun _ _ _ h => h) (Or.inl ⟨by rfl, ?_⟩) hHeld ?_ ?_
                rotate_left
                · rintro w' ⟨s0, s1, s2, s3, s4⟩
                  go_simp
                  with_reducible rfl
                rotate_left
                · simp only [Act.put, List.setIfInBounds_toArray, List.set_cons_zero, List.set_cons_succ]
                  rfl
                refine pure_ (i := 8) (N := some 62) (v := ?_) (a' := ?_) #[true, true, true, true, true, true, true, true, true, false, false, false, false, false, false, false, false, false, false, false] rfl rfl (by kernel_rfl) (fun _ _ _ h => h) (Or.inl ⟨by rfl, ?_⟩) ?_ ?_
                rotate_left
                · intro w'
                  go_simp
                  with_reducible rfl
                rotate_left
                · simp only [Act.put, List.setIfInBounds_toArray, List.set_cons_zero, List.set_cons_succ]
                  rfl
                refine pure_ (i := 9) (N := some 63) (v := ?_) (a' := ?_) #[true, true, true, true, true, true, true, true, true, true, false, false, false, false, false, false, false, false, false, false] rfl rfl (by kernel_rfl) (fun _ _ _ h => h) (Or.inl ⟨by rfl, ?_⟩) ?_ ?_
                rotate_left
                · intro w'
                  go_simp
                  with_reducible rfl
                rotate_left
                · simp only [Act.put, List.setIfInBounds_toArray, List.set_cons_zero, List.set_cons_succ]
                  rfl
                refine take_ (i := 10) (N := some 64) (v := ?_) (a' := ?_) #[true, true, true, true, true, true, true, true, true, true, true, false, false, false, false, false, false, false, false, false] rfl rfl (by kernel_rfl) (fun _ _ _ h => h) (Or.inl ⟨by rfl, ?_⟩) hHeld ?_ ?_
                rotate_left
                · rintro w' ⟨s0, s1, s2, s3, s4⟩
                  go_simp
                  with_reducible rfl
                rotate_left
                · simp only [Act.put, List.setIfInBounds_toArray, List.set_cons_zero, List.set_cons_succ]
                  rfl
                refine pure_ (i := 11) (N := some 65) (v := ?_) (a' := ?_) #[true, true, true, true, true, true, true, true, true, true, true, true, false, false, false, false, false, false, false, false] rfl rfl (by kernel_rfl) (fun _ _ _ h => h) (Or.inl ⟨by rfl, ?_⟩) ?_ ?_
                rotate_left
                · intro w'
                  go_simp
                  with_reducible rfl
                rotate_left
                · simp only [Act.put, List.setIfInBounds_toArray, List.set_cons_zero, List.set_cons_succ]
                  rfl
                refine pure_ (i := 12) (N := some 66) (v := ?_) (a' := ?_) #[true, true, true, true, true, true, true, true, true, true, true, true, true, false, false, false, false, false, false, false] rfl rfl (by kernel_rfl) (fun _ _ _ h => h) (Or.inl ⟨by rfl, ?_⟩) ?_ ?_
                rotate_left
                · intro w'
                  go_simp
                  with_reducible rfl
                rotate_left
                · simp only [Act.put, List.setIfInBounds_toArray, List.set_cons_zero, List.set_cons_succ]
                  rfl
                refine pure_ (i := 13) (N := some 67) (v := ?_) (a' := ?_) #[true, true, true, true, true, true, true, true, true, true, true, true, true, true, false, false, false, false, false, false] rfl rfl (by kernel_rfl) (fun _ _ _ h => h) (Or.inl ⟨by rfl, ?_⟩) ?_ ?_
                rotate_left
                · intro w'
                  go_simp
                  with_reducible rfl
                rotate_left
                · simp only [Act.put, List.setIfInBounds_toArray, List.set_cons_zero, List.set_cons_succ]
                  rfl
                refine take_ (i := 14) (N := some 68) (v := ?_) (a' := ?_) #[true, true, true, true, true, true, true, true, true, true, true, true, true, true, true, false, false, false, false, false] rfl rfl (by kernel_rfl) (fun _ _ _ h => h) (Or.inl ⟨by rfl, ?_⟩) hHeld ?_ ?_
                rotate_left
                · rintro w' ⟨s0, s1, s2, s3, s4⟩
                  go_simp
                  with_reducible rfl
                rotate_left
                · simp only [Act.put, List.setIfInBounds_toArray, List.set_cons_zero, List.set_cons_succ]
                  rfl
                refine pure_ (i := 15) (N := some 69) (v := ?_) (a' := ?_) #[true, true, true, true, true, true, true, true, true, true, true, true, true, true, true, true, false, false, false, false] rfl rfl (by kernel_rfl) (fun _ _ _ h => h) (Or.inl ⟨by rfl, ?_⟩) ?_ ?_
                rotate_left
                · intro w'
                  go_simp
                  with_reducible rfl
                rotate_left
                · simp only [Act.put, List.setIfInBounds_toArray, List.set_cons_zero, List.set_cons_succ]
                  rfl
                refine take_ (i := 16) (N := some 70) (v := ?_) (a' := ?_) #[true, true, true, true, true, true, true, true, true, true, true, true, true, true, true, true, true, false, false, false] rfl rfl (by kernel_rfl) (fun _ _ _ h => h) (Or.inl ⟨by rfl, ?_⟩) hHeld ?_ ?_
                rotate_left
                · rintro w' ⟨s0, s1, s2, s3, s4⟩
                  go_simp
                  with_reducible rfl
                rotate_left
                · simp only [Act.put, List.setIfInBounds_toArray, List.set_cons_zero, List.set_cons_succ]
                  rfl
                refine one_ (i := 17) (N := some 71) #[true, true, true, true, true, true, true, true, true, true, true, true, true, true, true, true, true, true, false, false] rfl rfl (by kernel_rfl) (by decide) (fun K hK => ?_)
                refine goes_ Try.func33 (by kernel_rfl) rfl #[.slice Al LL.length cl, .slice As LX.length cs] (by rfl) rfl rfl (by first | rfl | (simp [Act.eval]; done) | (simp [go_sem]; done)) ?_
                refine (union_calls Al cl _ As cs _ wr.drew hCa hla hCs (by omega)).mono ?_
                rintro e W4 ⟨v4, rfl, hR4, hB4⟩
                obtain ⟨A4, n4, c4, rfl⟩ : ∃ A n c, v4 = .slice A n c := by
                  rcases hR4 with ⟨rfl, _⟩ | h
                  · exact ⟨_, _, _, rfl⟩
                  · obtain ⟨A, c, h, _⟩ := Kd.R_reads h
                    exact ⟨_, _, _, h⟩
                refine ⟨_, rfl, ?_⟩
                have hh1 := keep wr.drew W4 hB4 hHeld
                refine hK.out _ _ hh1 (fun h0_ => ?_)
                clear hK K h0_
                refine pure_ (i := 18) (N := some 72) (v := ?_) (a' := ?_) #[true, true, true, true, true, true, true, true, true, true, true, true, true, true, true, true, true, true, true, false] rfl rfl (by kernel_rfl) (fun _ _ _ h => h) (Or.inl ⟨by rfl, ?_⟩) ?_ ?_
                rotate_left
                · intro w'
                  go_simp
                  with_reducible rfl
                rotate_left
                · simp only [Act.put, List.setIfInBounds_toArray, List.set_cons_zero, List.set_cons_succ]
                  rfl
                refine last_ (i := 19) (N := none) #[true, true, true, true, true, true, true, true, true, true, true, true, true, true, true, true, true, true, true, true] rfl rfl (by kernel_rfl) (by decide) (fun K hK => ?_)
                have hRx4 := (hRx.below (below_drew (Below.refl _ _))).below hB4
                obtain ⟨_, _, kz, kzf, _⟩ := orow_at hRx4.o p.1.toNat (by omega)
                have hput := hRx4.put p.1.toNat (by omega) (v := .slice A4 n4 c4) (x := unionV LL LX) (by
                  rcases hR4 with ⟨e3, e4⟩ | h4
                  · rw [e4, e3]
                    exact Kd.R_below (Kd.R_below hRa (below_drew (Below.refl _ _))) hB4
                  · have h5 := Kd.R_lower h4 (base' := w.heap.size) hRx.b.size
                    refine ⟨fun k hk => ?_, h5.2⟩
                    obtain ⟨cs, ho, _⟩ := h4.2
                    have := own_base ho k hk
                    have := hRx.gs
                    have e : wr.drew.heap.size = wr.heap.size := rfl
                    omega)
                refine skip_ (w1 := W4.setCell ⟨g, p.1.toNat, none⟩ (.slice A4 n4 c4)) (by rfl) rfl ?_ ?_
                · go_simp
                refine hK.out _ _ ?_
                clear hK K
                refine done_ (by kernel_rfl) ?_
                refine hK6 _ _ ?_
                clear hK6 keep hHeld hh1 hRx4 hR4 kz kzf ka ks kf i0 hla hCa hRa hls hCs
                obtain ⟨Wz, hWz⟩ : ∃ Wz, W4.setCell ⟨g, p.1.toNat, none⟩ (.slice A4 n4 c4) = Wz := ⟨_, rfl⟩
                have hBz : Wz.heap[pb]? = some (.cells #[.int .i64 p.1, .slice (some adi) p.2.1.length c3, .int .i64 p.2.2] TP (0, 0)) := by
                  rw [← hWz]
                  exact (Below.heap_setCell _ _ _ _ (by show pb ≠ g; omega)).trans (blk_below (blk_drew BP.out) hB4)
                have hpz : pb < Wz.heap.size := blk_lt hBz
                rw [hWz] at hput
                rw [hWz]
                clear hWz BP b0 b1
                obtain ⟨FZ, hFZ⟩ : ∃ FZ, FX.set p.1.toNat (unionV LL LX) = FZ := ⟨_, rfl⟩
                rw [hFZ] at hput
                have hIz : Inv N FZ := by
                  rw [← hFZ, ← HLL.out, ← HLX.out]
                  exact hI.out.union _ (hI.out.rise _) (hI.out.bnd _) (hI.out.bnd _)
                have HKz : Hid ((if at_ em x.1 = true then refK em p.1.toNat (p.2.1.drop (r + 1)) FZ else FZ) = refK em p.1.toNat p.2.1 FS') := by
                  have h := HK.out
                  simp only [refK] at h
                  rw [HLL.out, HLX.out, hFZ] at h
                  exact Lib.hid h
                have HIz := Lib.hid hIz
                clear hFZ hIz HK hI HLL HLX hRx hu1 hu2
                have b0 : Wz.cell? ⟨pb, 0, none⟩ = some (.int .i64 p.1) := blk_cell hBz 0
                have b1 : Wz.cell? ⟨pb, 1, none⟩ = some (.slice (some adi) p.2.1.length c3) := blk_cell hBz 1
                obtain ⟨_, _, hCe⟩ := Kd.R_reads' hput.e
                obtain ⟨ae, rfl, ke⟩ := Kd.at_bool hCe x.1 hx0 (by rw [HEl.out]; exact hx1)
                have i0 := pw_cell_below hput.b i0'
                have HBz := Lib.hid hBz
                clear hBz
                have ke' : Wz.cell? (ae.add x.1.toNat) = some (.bool (at_ em x.1)) := ke
                have hx1e : x.1 < em.length := by rw [HEl.out]; exact hx1
                have hZ := hput
                clear ke hput
                cases hat : at_ em x.1 with
                | true =>
                  rw [hat] at ke' HKz
                  rw [if_pos rfl] at HKz
                  go_wp2
                  go_roundw
                  case rel => exact ⟨r + 1, FZ, by go_num, by omega, HKz, hZ, HIz, HBz, hpz⟩
                  case measure => simp [Go.RowKit.intOf]; omega
                | false =>
                  rw [hat] at ke' HKz
                  rw [if_neg (by decide)] at HKz
                  have HFZ := HKz
                  clear HKz hat
                  cases b with
                  | true =>
                    go_wp2
                    go_roundw
                    case rel => exact ⟨q + 1, FZ, true, by go_num, by omega, rfl, by have h := round_next HI0.out HPO.out.1 HR.out HFZ.out; rw [Bool.true_or] at h; exact Lib.hid h, hZ, HIz⟩
                    case measure => simp [Go.RowKit.intOf]; omega
                  | false =>
                    obtain ⟨Az, cz, kz, _, _⟩ := orow_at hZ.o p.1.toNat (by omega)
                    obtain ⟨LZ, hLZ⟩ : ∃ LZ, FZ.getD p.1.toNat [] = LZ := ⟨_, rfl⟩
                    rw [hLZ] at kz
                    have h := round_next HI0.out HPO.out.1 HR.out HFZ.out
                    rw [Bool.false_or, HL0.out, hLZ] at h
                    have HH := Lib.hid h
                    clear h hLZ
                    go_wp2
                    go_roundw
                    case rel => exact ⟨q + 1, FZ, _, by go_num, by omega, rfl, HH, hZ, HIz⟩
                    case measure => simp [Go.RowKit.intOf]; omega
              · obtain rfl : r = p.2.1.length := by omega
                have HFZ : Hid (FX = refK em p.1.toNat p.2.1 FS') := by
                  have h := HK.out
                  rw [List.drop_length] at h
                  exact Lib.hid h
                have hZ := hRx
                have HIz := hI
                clear HK hRx hI ka hCa hRa hla
                obtain ⟨FZ, hFZ⟩ : ∃ FZ, FX = FZ := ⟨_, rfl⟩
                subst hFZ
                cases b with
                | true =>
                  go_wp2
                  go_roundw
                  case rel => exact ⟨q + 1, FX, true, by go_num, by omega, rfl, by have h := round_next HI0.out HPO.out.1 HR.out HFZ.out; rw [Bool.true_or] at h; exact Lib.hid h, hZ, HIz⟩
                  case measure => simp [Go.RowKit.intOf]; omega
                | false =>
                  obtain ⟨Az, cz, kz, _, _⟩ := orow_at hZ.o p.1.toNat (by omega)
                  obtain ⟨LZ, hLZ⟩ : ∃ LZ, FX.getD p.1.toNat [] = LZ := ⟨_, rfl⟩
                  rw [hLZ] at kz
                  have h := round_next HI0.out HPO.out.1 HR.out HFZ.out
                  rw [Bool.false_or, HL0.out, hLZ] at h
                  have HH := Lib.hid h
                  clear h hLZ
                  go_wp2
                  go_roundw
                  case rel => exact ⟨q + 1, FX, _, by go_num, by omega, rfl, HH, hZ, HIz⟩
                  case measure => simp [Go.RowKit.intOf]; omega
          · obtain rfl : q = ps.length := by omega
            have h := HR.out
            rw [List.drop_length] at h
            have h2 : (FS', b) = R := h
            subst h2
            clear h HR
            go_wp2
            rcases HG.out with ⟨rfl, hg⟩ | ⟨rfl, rfl⟩
            · go_roundg m
              case measure => omega
              case rel => exact .inl ⟨_, rfl, Lib.hid hg, hR, hI⟩
            · go_roundg m
              case measure => omega
              case rel => exact .inr ⟨rfl, hR⟩
end Go.Proofs.Ytkfpmolplemdlaa.RFirst
