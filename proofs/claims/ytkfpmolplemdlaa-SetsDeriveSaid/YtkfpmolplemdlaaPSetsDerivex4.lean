/- Laid by this work's own program gp.py, in the form of the kit's print, with some functions told by hand. -/
import Derived.Test.YtkfpmolplemdlaaPSetsDerivex0
namespace Go.Proofs.Ytkfpmolplemdlaa.PSetsDerive
open Go.RowKit Go.Proofs.YtkfpmolplemdlaaW.PrintWords Go.Proofs.YtkfpmolplemdlaaW.PrintLast Go.Proofs.YtkfpmolplemdlaaW.PrintMore
attribute [local go_sem] max2_int min2_int max_two min_two max_three min_three max_four min_four   -- for this text's walks alone
set_option linter.unusedVariables false
set_option linter.unusedSimpArgs false

/-! ### brambleref09_Of: function 26 -/
def brambleref09_Of.l0 : Nat → Int → List Int → Int → List ByteArray → List ByteArray → List (S40) → Option (List Int)
  | 0, _, _, _, _, _, _ => none
  | k + 1, x1, x5, x6, x126000, x126001, x126002 => if x6 < (x126002.length : Int) then (if 0 ≤ x6 then (if ((rd_T40 x126002 x6).f0) = x1 then (if x5.length < 17592186044416 then (brambleref09_Of.l0 k x1 (x5 ++ [x6]) (wrap64 (x6 + 1)) x126000 x126001 x126002) else (none)) else (brambleref09_Of.l0 k x1 x5 (wrap64 (x6 + 1)) x126000 x126001 x126002)) else (none)) else (some x5)
def brambleref09_Of.f (k : Nat) (l0_0 : List ByteArray) (l0_1 : List ByteArray) (l0_2 : List (S40)) (a1 : Int) : Option (List Int) := brambleref09_Of.l0 k a1 ([] : List Int) 0 l0_0 l0_1 l0_2
theorem brambleref09_Of.mono_l : ∀ k, (∀ y0 y1 y2 y3 y4 y5, LeO (brambleref09_Of.l0 k y0 y1 y2 y3 y4 y5) (brambleref09_Of.l0 (k + 1) y0 y1 y2 y3 y4 y5))
  | 0 => fun _ _ _ _ _ _ r h => by simp [brambleref09_Of.l0] at h
  | k + 1 => by
    have ih0 := brambleref09_Of.mono_l k
    · intro y0 y1 y2 y3 y4 y5
      unfold brambleref09_Of.l0
      repeat' first
      | (with_reducible exact ih0 _ _ _ _ _ _)
      | (with_reducible exact LeO.refl _)
      | (with_reducible exact LeO.none _)
      | (with_reducible refine LeO.ite ?_ ?_)
      | (with_reducible refine LeO.bind ?_ (fun _ => ?_))
      | exact ih0 _ _ _ _ _ _
      | exact LeO.none _
      | refine LeO.ite ?_ ?_
      | refine LeO.bind ?_ (fun _ => ?_)
theorem brambleref09_Of.mono : ∀ a0 a1 a2 a3 k, LeO (brambleref09_Of.f k a0 a1 a2 a3) (brambleref09_Of.f (k + 1) a0 a1 a2 a3) := by
  intro a0 a1 a2 a3 k
  have ih0 := brambleref09_Of.mono_l k
  unfold brambleref09_Of.f
  repeat' first
      | (with_reducible exact ih0 _ _ _ _ _ _)
      | (with_reducible exact LeO.refl _)
      | (with_reducible exact LeO.none _)
      | (with_reducible refine LeO.ite ?_ ?_)
      | (with_reducible refine LeO.bind ?_ (fun _ => ?_))
      | exact ih0 _ _ _ _ _ _
      | exact LeO.none _
      | refine LeO.ite ?_ ?_
      | refine LeO.bind ?_ (fun _ => ?_)
set_option maxHeartbeats 8000000 in
set_option maxRecDepth 100000 in
theorem brambleref09_Of.calls (k : Nat) (A0_0 : Option Addr) (c0_0 : Nat) (l0_0 : List ByteArray) (A0_1 : Option Addr) (c0_1 : Nat) (l0_1 : List ByteArray) (A0_2 : Option Addr) (c0_2 : Nat) (l0_2 : List (S40)) (a1 : Int) (r : List Int) (w : World) (hr0_0 : Kd.C Kd.string w A0_0 l0_0.length l0_0) (hc0_0 : l0_0.length ≤ c0_0) (hr0_1 : Kd.C Kd.string w A0_1 l0_1.length l0_1) (hc0_1 : l0_1.length ≤ c0_1) (hr0_2 : Kd.C k40 w A0_2 l0_2.length l0_2) (hc0_2 : l0_2.length ≤ c0_2) (h : brambleref09_Of.f k l0_0 l0_1 l0_2 a1 = some r) :
    Calls Try.prog 26 #[.agg #[.slice A0_0 l0_0.length c0_0, .slice A0_1 l0_1.length c0_1, .slice A0_2 l0_2.length c0_2], .int .i64 a1] w fun e w' => ∃ v0_ : Value, e = .returned (v0_) ∧ Kd.R (Kd.int .i64) 3 w' w.heap.size (fun _ => True) v0_ r ∧ Below w.heap.size w w' := by
  have hu25 := Try.underlying25
  have HR0_0 := Aside0.mk hr0_0
  have HC0_0 := Aside0.mk hc0_0
  clear hr0_0 hc0_0
  have HR0_1 := Aside0.mk hr0_1
  have HC0_1 := Aside0.mk hc0_1
  clear hr0_1 hc0_1
  have HR0_2 := Aside0.mk hr0_2
  have HC0_2 := Aside0.mk hc0_2
  clear hr0_2 hc0_2
  have HB := Aside0.mk (Below.refl w.heap.size w)
  have H : (brambleref09_Of.l0 k a1 ([] : List Int) 0 l0_0 l0_1 l0_2) = some r := h
  clear h
  have H' := Aside0.mk H
  clear H
  go_enter Try.func26, Try.ntmps26
  go_wp2_with (first | ((with_reducible refine gate_dst (N := 2) rfl ?_); refine box_event ?hg (N := 2) ?hd (cs := #[.slice A0_0 l0_0.length c0_0, .slice A0_1 l0_1.length c0_1, .slice A0_2 l0_2.length c0_2]) (t := 25) ?hr ?_; (case hd => rfl); (case hg => rfl); (case hr => first | (go_simp; done) | (go_simp; rfl)); intro gb125 hg w3 hbox hb; have n0_ := Aside0.mk (below_step (by repeat (first | (with_reducible first | exact HB.out | apply below_alloc | apply pw_below_drewN | apply below_drew1) | exact HB.out)) hb); have n1_ := Aside0.mk (hbox); have n2_ := Aside0.mk ((by rw [hg]; exact (below_size (by repeat (first | (with_reducible first | exact HB.out | apply below_alloc | apply pw_below_drewN | apply below_drew1) | exact HB.out))) : w.heap.size ≤ gb125)); have n3_ := Aside0.mk ((by rw [hg]; exact (below_size (by repeat (first | (with_reducible first | exact HB.out | apply below_alloc | apply pw_below_drewN | apply below_drew1) | exact HB.out))) : w.heap.size ≤ gb125)); clear HB; have HB := n0_; have BK125 := n1_; have GW125 := n2_; have GE125 := n3_; clear n0_ n1_ n2_ n3_; clear hb hbox hg))
  go_loopg [5, 6] k (fun kq v5 v6 w' => ∃ (x5_1 : List Int) (x6_1 : Int), v6 = .int .i64 x6_1 ∧ Aside0 (brambleref09_Of.l0 kq a1 x5_1 x6_1 l0_0 l0_1 l0_2 = some r) ∧ Aside0 (kq ≤ k) ∧ Aside0 (Kd.R (Kd.int .i64) 3 w' w.heap.size (fun _ => True) v5 x5_1) ∧ Aside0 (w'.heap[gb125]? = some (.cells #[(.slice A0_0 l0_0.length c0_0), (.slice A0_1 l0_1.length c0_1), (.slice A0_2 l0_2.length c0_2)] 25 (0, 0))) ∧ Aside0 (Below w.heap.size w w'))
  case atStart => exact ⟨(([] : List Int)), (0), (by first | rfl | (simp; done) | (simp [*]; done)), H', ⟨Nat.le_refl _⟩, ⟨by first | exact Kd.R_nil _ _ _ _ _ | exact Kd.N_nil _ _ _ _ _ | exact Kd.V_nil _ _ _ _ _ | exact Kd.Q_nil _ _ _ _ _ | exact Kd.S_nil _ _ _ _ _⟩, ⟨by (with_reducible repeat (first | refine blk_drewN ?_ _ | refine blk_drew ?_ | refine blk_alloc ?_ _)); exact BK125.out⟩, ⟨by repeat (first | (with_reducible first | exact HB.out | apply below_alloc | apply pw_below_drewN | apply below_drew1 | refine below_set ?_ GE125.out) | exact HB.out)⟩⟩
  case round =>
    clear H'
    try clear c2
    try clear p2
    obtain ⟨x5_1, x6_1, rfl, HA, HK1, HO_5, BK125, HB⟩ := hrel
    cases gk with
    | zero => exact absurd HA.out (by simp [brambleref09_Of.l0])
    | succ k1 =>
      have H := HA.out
      clear HA
      simp only [brambleref09_Of.l0] at H
      by_cases c4 : x6_1 < (l0_2.length : Int)
      · rw [if_pos c4] at H
        have c4b0 : decide (x6_1 < (l0_2.length : Int)) = true := decide_eq_true c4
        clear c4
        by_cases c5 : 0 ≤ x6_1
        · rw [if_pos c5] at H
          have c5b0 : decide (0 ≤ x6_1) = true := decide_eq_true c5
          clear c5
          by_cases c6 : ((rd_T40 l0_2 x6_1).f0) = a1
          · rw [if_pos c6] at H
            have c6b0 : (((rd_T40 l0_2 x6_1).f0) == a1) = true := beq_iff_eq.mpr c6
            have c6b1 : (((rd_T40 l0_2 x6_1).f0) != a1) = false := bne_eq_false_iff_eq.mpr c6
            clear c6
            by_cases c7 : x5_1.length < 17592186044416
            · rw [if_pos c7] at H
              have LMc7 := Aside0.mk c7
              clear c7
              obtain ⟨y127, hy127⟩ : ∃ y_ : List Int, y_ = (x5_1 ++ [x6_1]) := ⟨_, rfl⟩
              replace H : (brambleref09_Of.l0 k1 a1 y127 (wrap64 (x6_1 + 1)) l0_0 l0_1 l0_2) = some r := by first | (rw [hy127]; with_reducible exact H) | (have H2_ := (Option.bind_some _ _).symm.trans H; rw [hy127]; with_reducible exact H2_) | (have H2_ := (Option.bind_some _ _).symm.trans H; with_reducible exact H2_) | with_reducible exact H | (rw [hy127]; exact H) | exact H
              have Ny127 := Aside0.mk hy127
              clear hy127
              have H' := Aside0.mk H
              clear H
              have hcz8_0 : wr.cell? ⟨gb125, 0, none⟩ = some (.slice A0_0 l0_0.length c0_0) := (blk_cell BK125.out 0).trans rfl
              have hcz8_1 : wr.cell? ⟨gb125, 1, none⟩ = some (.slice A0_1 l0_1.length c0_1) := (blk_cell BK125.out 1).trans rfl
              have hcz8_2 : wr.cell? ⟨gb125, 2, none⟩ = some (.slice A0_2 l0_2.length c0_2) := (blk_cell BK125.out 2).trans rfl
              have hfz8_0 := blk_frozen BK125.out 0
              have hfz8_1 := blk_frozen BK125.out 1
              have hfz8_2 := blk_frozen BK125.out 2
              have p126 : 0 ≤ (x6_1 : Int) := of_decide_eq_true (by first | (with_reducible assumption) | assumption)
              have q126 : x6_1 < (l0_2.length : Int) := of_decide_eq_true (by first | (with_reducible assumption) | assumption)
              obtain ⟨ad126, A126_1, c126_1, e126, hx126_0, hx126_1, hx126_2, hl126_1, hi126_1⟩ := at_T40 HR0_2.out x6_1 p126 q126
              cases e126
              replace hx126_0 := (HB.out.cell (World.block_lt_of_cell? w _ hx126_0)).trans hx126_0
              replace hx126_1 := (HB.out.cell (World.block_lt_of_cell? w _ hx126_1)).trans hx126_1
              replace hx126_2 := (HB.out.cell (World.block_lt_of_cell? w _ hx126_2)).trans hx126_2
              have HR126_1 := Aside0.mk hi126_1
              have HC126_1 := Aside0.mk hl126_1
              clear hi126_1 hl126_1
              replace p126 := eq_true p126
              replace q126 := eq_true q126
              go_wp2_with (first | ((with_reducible refine gate_builtin (b := .append) (xs := #[.tmp 22, .tmp 24]) rfl ?_); at_builtin; refine Kd.R_append (Kd.int .i64) (w0 := w) w.heap.size rfl (.tmp 22) (.tmp 24) 26 3 (.int .i64 0) 8 rfl Try.underlying26 info3 rfl (by decide) (by omega) u5 x5_1 x6_1 [.int .i64 x6_1] (fun _ => True) (fun _ => False) rfl rfl ?aP (fun _ hk => hk.elim) ?aF ?aO ?aB ?aS ?aL ?_; (case aP => exact rfl); (case aB => exact (by repeat (first | (with_reducible first | exact HB.out | apply below_alloc | apply pw_below_drewN | apply below_drew1 | refine below_set ?_ GE125.out) | exact HB.out))); (case aF => exact (fun _ _ => trivial)); (case aO => exact (by (with_reducible repeat (first | apply Kd.R_alloc | apply Kd.R_drewN | apply Kd.R_drew)); exact HO_5.out)); (case aS => exact (below_size (by repeat (first | (with_reducible first | exact HB.out | apply below_alloc | apply pw_below_drewN | apply below_drew1 | refine below_set ?_ GE125.out) | exact HB.out)))); (case aL => have := LMc7.out; omega); intro v128 w9 ho hb hg hat; rw [← Ny127.out] at ho; have n0_ := Aside0.mk (blk_grown (g := gb125) (o := .cells #[.slice A0_0 l0_0.length c0_0, .slice A0_1 l0_1.length c0_1, .slice (some ad126) l0_2.length c0_2] 25 (0, 0)) (by (with_reducible repeat (first | refine blk_drewN ?_ _ | refine blk_drew ?_ | refine blk_alloc ?_ _)); exact BK125.out) hg (Kd.R_ne HO_5.out BK125.out (by decide))); have n1_ := Aside0.mk (hb); have n2_ := Aside0.mk (ho); clear BK125; clear HB; clear HO_5; have BK125 := n0_; have HB := n1_; have HO129 := n2_; clear n0_ n1_ n2_; clear ho hb hg hat))
              go_roundg k1
              case measure => have := HK1.out; omega
              case rel => exact ⟨(y127), (wrap64 (x6_1 + 1)), (by first | rfl | (simp; done) | (simp [*]; done)), H', ⟨by have := HK1.out; omega⟩, ⟨by (with_reducible repeat (first | apply Kd.R_alloc | apply Kd.R_drewN | apply Kd.R_drew)); exact HO129.out⟩, ⟨by (with_reducible repeat (first | refine blk_drewN ?_ _ | refine blk_drew ?_ | refine blk_alloc ?_ _)); exact BK125.out⟩, ⟨by repeat (first | (with_reducible first | exact HB.out | apply below_alloc | apply pw_below_drewN | apply below_drew1 | refine below_set ?_ GE125.out) | exact HB.out)⟩⟩
            · rw [if_neg c7] at H
              exact absurd H (by simp)
          · rw [if_neg c6] at H
            have c6b0 : (((rd_T40 l0_2 x6_1).f0) == a1) = false := beq_eq_false_iff_ne.mpr c6
            have c6b1 : (((rd_T40 l0_2 x6_1).f0) != a1) = true := bne_iff_ne.mpr c6
            have H' := Aside0.mk H
            clear H
            have hcz10_0 : wr.cell? ⟨gb125, 0, none⟩ = some (.slice A0_0 l0_0.length c0_0) := (blk_cell BK125.out 0).trans rfl
            have hcz10_1 : wr.cell? ⟨gb125, 1, none⟩ = some (.slice A0_1 l0_1.length c0_1) := (blk_cell BK125.out 1).trans rfl
            have hcz10_2 : wr.cell? ⟨gb125, 2, none⟩ = some (.slice A0_2 l0_2.length c0_2) := (blk_cell BK125.out 2).trans rfl
            have hfz10_0 := blk_frozen BK125.out 0
            have hfz10_1 := blk_frozen BK125.out 1
            have hfz10_2 := blk_frozen BK125.out 2
            have p126 : 0 ≤ (x6_1 : Int) := of_decide_eq_true (by first | (with_reducible assumption) | assumption)
            have q126 : x6_1 < (l0_2.length : Int) := of_decide_eq_true (by first | (with_reducible assumption) | assumption)
            obtain ⟨ad126, A126_1, c126_1, e126, hx126_0, hx126_1, hx126_2, hl126_1, hi126_1⟩ := at_T40 HR0_2.out x6_1 p126 q126
            cases e126
            replace hx126_0 := (HB.out.cell (World.block_lt_of_cell? w _ hx126_0)).trans hx126_0
            replace hx126_1 := (HB.out.cell (World.block_lt_of_cell? w _ hx126_1)).trans hx126_1
            replace hx126_2 := (HB.out.cell (World.block_lt_of_cell? w _ hx126_2)).trans hx126_2
            have HR126_1 := Aside0.mk hi126_1
            have HC126_1 := Aside0.mk hl126_1
            clear hi126_1 hl126_1
            replace p126 := eq_true p126
            replace q126 := eq_true q126
            go_wp2
            go_roundg k1
            case measure => have := HK1.out; omega
            case rel => exact ⟨(x5_1), (wrap64 (x6_1 + 1)), (by first | rfl | (simp; done) | (simp [*]; done)), H', ⟨by have := HK1.out; omega⟩, ⟨by (with_reducible repeat (first | apply Kd.R_alloc | apply Kd.R_drewN | apply Kd.R_drew)); exact HO_5.out⟩, ⟨by (with_reducible repeat (first | refine blk_drewN ?_ _ | refine blk_drew ?_ | refine blk_alloc ?_ _)); exact BK125.out⟩, ⟨by repeat (first | (with_reducible first | exact HB.out | apply below_alloc | apply pw_below_drewN | apply below_drew1 | refine below_set ?_ GE125.out) | exact HB.out)⟩⟩
        · rw [if_neg c5] at H
          exact absurd H (by simp)
      · rw [if_neg c4] at H
        have c4b0 : decide (x6_1 < (l0_2.length : Int)) = false := decide_eq_false c4
        clear c4
        obtain rfl := Option.some.inj H
        have hcz11_0 : wr.cell? ⟨gb125, 0, none⟩ = some (.slice A0_0 l0_0.length c0_0) := (blk_cell BK125.out 0).trans rfl
        have hcz11_1 : wr.cell? ⟨gb125, 1, none⟩ = some (.slice A0_1 l0_1.length c0_1) := (blk_cell BK125.out 1).trans rfl
        have hcz11_2 : wr.cell? ⟨gb125, 2, none⟩ = some (.slice A0_2 l0_2.length c0_2) := (blk_cell BK125.out 2).trans rfl
        have hfz11_0 := blk_frozen BK125.out 0
        have hfz11_1 := blk_frozen BK125.out 1
        have hfz11_2 := blk_frozen BK125.out 2
        go_wp2
        go_ret
        exact ⟨_, by first | rfl | (simp [errW_none, errW_some] <;> rfl) | (simp [*, errW_none, errW_some] <;> rfl), by (with_reducible repeat (first | apply Kd.R_alloc | apply Kd.R_drewN | apply Kd.R_drew)); exact HO_5.out, by repeat (first | (with_reducible first | exact HB.out | apply below_alloc | apply pw_below_drewN | apply below_drew1 | refine below_set ?_ GE125.out) | exact HB.out)⟩

/-! ### bramblelaw10_row: function 9, told by hand -/
theorem cellFarG {W : World} {g i : Nat} {v u : Value} {a : Addr} (hne : a.block ≠ g) (h : W.cell? a = some u) : (W.setCell ⟨g, i, none⟩ v).cell? a = some u := by
  have e : (W.setCell ⟨g, i, none⟩ v).heap[a.block]? = W.heap[a.block]? := Below.heap_setCell _ _ _ _ hne
  unfold World.cell? at h ⊢
  rw [e]
  exact h
theorem grownSetG (W : World) (b i : Nat) (v : Value) : W.grownBy (W.setCell ⟨b, i, none⟩ v) (some b) := ⟨rfl, rfl, rfl, by show W.heap.size ≤ (W.heap.modify _ _).size; rw [Array.size_modify]; exact Nat.le_refl _, fun k _ hne => Below.heap_setCell _ _ _ _ (fun e => hne (by rw [e]))⟩
theorem addr_block (a : Addr) (n : Nat) : (a.add n).block = a.block := by unfold Addr.add; split <;> rfl
theorem rdDropI (l : List S48) (i : Nat) (h : i < l.length) : l.drop i = rd_T48 l (i : Int) :: l.drop (i + 1) := by
  rw [List.drop_eq_getElem_cons h]
  congr 1
  show _ = l.getD ((i : Int)).toNat _
  rw [Int.toNat_natCast, List.getD_eq_getElem?_getD, List.getElem?_eq_getElem h]
  rfl
theorem pick_eq (x : Int) (n : Nat) (hn : n ≤ 17592186044416) (h0 : 0 < n) : wrap64 ((IntKind.u64.wrap x).tmod (n : Int)) = x % 18446744073709551616 % (n : Int) := by
  have e : IntKind.u64.wrap x = x % 18446744073709551616 := by simp [IntKind.wrap, IntKind.bits, IntKind.signed]
  rw [e, Int.tmod_eq_emod_of_nonneg (Int.emod_nonneg _ (by decide))]
  have h1 := Int.emod_nonneg (x % 18446744073709551616) (show (n : Int) ≠ 0 by omega)
  have h2 := Int.emod_lt_of_pos (x % 18446744073709551616) (show (0 : Int) < n by omega)
  generalize x % 18446744073709551616 % (n : Int) = z at h1 h2 ⊢
  unfold wrap64
  omega
/-- Which production is taken. -/
def pickV (picks : List Int) (fu : Int) (n : Int) : Int := if picks.length = 0 then 0 else ((rd picks (fu % picks.length)) % 18446744073709551616) % n
/-- The rows of items, one after another. -/
def itemsV (rec : Int → Int → Option (List Int × Bool × Int)) : List S48 → List Int → Int → Option (List Int × Bool × Int)
  | [], out, fu => some (out, true, fu)
  | x :: r, out, fu => (rec x.f0 fu).bind fun m => if m.2.1 = true then (if out.length + m.1.length ≤ 1000000000 ∧ -1000 ≤ m.2.2 ∧ m.2.2 ≤ 1000 then itemsV rec r (out ++ m.1) m.2.2 else none) else some ([], false, m.2.2)
def rowV (kk : Nat) (t n : List ByteArray) (l : List S40) (picks : List Int) : Nat → Int → Int → Option (List Int × Bool × Int)
  | 0, _, _ => none
  | k + 1, sym, fu => if sym < (t.length : Int) then some ([sym], true, fu) else
    (brambleref09_Of.f kk t n l sym).bind fun of =>
      if fu - 1 < 0 ∨ of.length = 0 then some ([], false, fu - 1) else
        if 0 ≤ pickV picks (fu - 1) of.length ∧ pickV picks (fu - 1) of.length < of.length then
          if 0 ≤ rd of (pickV picks (fu - 1) of.length) ∧ rd of (pickV picks (fu - 1) of.length) < l.length then
            itemsV (rowV kk t n l picks k) (rd_T40 l (rd of (pickV picks (fu - 1) of.length))).f1 [] (fu - 1)
          else none
        else none
theorem of_len {kk : Nat} {t n : List ByteArray} {l : List S40} {sym : Int} {of : List Int} (h : brambleref09_Of.f kk t n l sym = some of) : of.length ≤ 17592186044416 := by
  have key : ∀ (k : Nat) (acc : List Int) (i : Int), acc.length ≤ 17592186044416 → ∀ r, brambleref09_Of.l0 k sym acc i t n l = some r → r.length ≤ 17592186044416 := by
    intro k
    induction k with
    | zero => intro acc i _ r h; cases h
    | succ k ih =>
      intro acc i ha r h
      rw [brambleref09_Of.l0] at h
      repeat' split at h
      all_goals first | cases h; done | (cases h; exact ha) | (refine ih _ _ ?_ _ h; first | exact ha | (rw [List.length_append]; simp; omega))
  exact key kk [] 0 (by simp) of h
set_option maxHeartbeats 8000000 in
set_option maxRecDepth 100000 in
theorem row_calls (kk : Nat) (u : World) (A0_0 : Option Addr) (c0_0 : Nat) (l0_0 : List ByteArray) (A0_1 : Option Addr) (c0_1 : Nat) (l0_1 : List ByteArray) (A0_2 : Option Addr) (c0_2 : Nat) (l0_2 : List S40) (A2 : Option Addr) (c2 : Nat) (picks : List Int) (hr0_0 : Kd.C Kd.string u A0_0 l0_0.length l0_0) (hc0_0 : l0_0.length ≤ c0_0) (hr0_1 : Kd.C Kd.string u A0_1 l0_1.length l0_1) (hc0_1 : l0_1.length ≤ c0_1) (hr0_2 : Kd.C k40 u A0_2 l0_2.length l0_2) (hc0_2 : l0_2.length ≤ c0_2) (hr2 : Kd.C (Kd.int .i64) u A2 picks.length picks) (hp : picks.length ≤ 1000) (bf : Nat) (hbf : u.heap.size ≤ bf) :
    ∀ (k : Nat) (sym fu : Int) (m : List Int) (ok : Bool) (fu2 : Int) (W : World), rowV kk l0_0 l0_1 l0_2 picks k sym fu = some (m, ok, fu2) → -1000 ≤ fu → fu ≤ 1000 → Below u.heap.size u W → W.heap[bf]? = some (.cells #[.int .i64 fu] 3 (0, 0)) →
      Calls Try.prog 9 #[.agg #[.slice A0_0 l0_0.length c0_0, .slice A0_1 l0_1.length c0_1, .slice A0_2 l0_2.length c0_2], .int .i64 sym, .slice A2 picks.length c2, .pointer (some ⟨bf, 0, none⟩)] W fun e W' => ∃ v, e = .returned (.tuple #[v, .bool ok]) ∧ Kd.R (Kd.int .i64) 3 W' W.heap.size (fun _ => True) v m ∧ W'.heap[bf]? = some (.cells #[.int .i64 fu2] 3 (0, 0)) ∧ Below u.heap.size u W' ∧ KeepBut W W' bf none := by
  intro k
  induction k with
  | zero => intro sym fu m ok fu2 W h; cases h
  | succ k ih =>
    intro sym fu m ok fu2 W h hf1 hf2 hu hb
    simp only [rowV] at h
    obtain ⟨W0, hW0⟩ : ∃ W0, W.alloc (.cells #[.slice A0_0 l0_0.length c0_0, .slice A0_1 l0_1.length c0_1, .slice A0_2 l0_2.length c0_2] 25) = W0 := ⟨_, rfl⟩
    have hB0 : Below W.heap.size W W0 := by rw [← hW0]; exact (Below.refl _ _).alloc (Nat.le_refl _) _
    have f0 : W0.heap[W.heap.size]? = some (.cells #[.slice A0_0 l0_0.length c0_0, .slice A0_1 l0_1.length c0_1, .slice A0_2 l0_2.length c0_2] 25 (0, 0)) := by rw [← hW0]; exact blk_new W _
    have z0 : W0.cell? ⟨W.heap.size, 0, none⟩ = some (.slice A0_0 l0_0.length c0_0) := blk_cell f0 0
    have z1 : W0.cell? ⟨W.heap.size, 1, none⟩ = some (.slice A0_1 l0_1.length c0_1) := blk_cell f0 1
    have z2 : W0.cell? ⟨W.heap.size, 2, none⟩ = some (.slice A0_2 l0_2.length c0_2) := blk_cell f0 2
    have hu0 := hu.trans (hB0.mono hu.size)
    have hb0 := blk_below hb hB0
    have hbl := blk_lt hb
    have sz0 : W0.heap.size = W.heap.size + 1 := by rw [← hW0]; simp
    by_cases hs : sym < (l0_0.length : Int)
    · rw [if_pos hs] at h
      cases h
      have HF0 := Lib.hid f0
      clear f0
      go_enter Try.func9, Try.ntmps9
      go_wp2
      have hB1 : Below W0.heap.size W0 (W0.alloc (.cells #[.int .i64 sym] 3)) := (Below.refl _ _).alloc (Nat.le_refl _) _
      refine bodyPost_ret (v := .tuple #[.slice (some ⟨W0.heap.size, 0, none⟩) 1 1, .bool true]) (by simp [results, Try.results9, go_sem]) rfl ⟨_, rfl, RFirst.row_one W0 sym W.heap.size hB0.size _ trivial, blk_below hb0 hB1, hu0.trans (hB1.mono hu0.size), (KeepBut.of_below (hB0.trans (hB1.mono hB0.size)) bf none)⟩
    · rw [if_neg hs] at h
      obtain ⟨of, hof, h⟩ := Option.bind_eq_some_iff.mp h
      have hoc := brambleref09_Of.calls kk A0_0 c0_0 l0_0 A0_1 c0_1 l0_1 A0_2 c0_2 l0_2 sym of W0 (Kd.C_below hr0_0 hu0) hc0_0 (Kd.C_below hr0_1 hu0) hc0_1 (Kd.C_below hr0_2 hu0) hc0_2 hof
      have HF0 := Lib.hid f0
      have HB := Lib.hid hb0
      clear f0 hb0
      have hofl : of.length ≤ 17592186044416 := of_len hof
      by_cases h1 : fu - 1 < 0
      · have h' := h
        rw [if_pos (.inl h1)] at h'
        cases h'
        clear h hb hof
        go_enter Try.func9, Try.ntmps9
        go_wp2_with (go_at_call 26; refine hoc.mono ?_; rintro e W1 ⟨v1, rfl, hR1, hB1⟩; obtain ⟨Ao, co, rfl, hlo, hCo⟩ := Kd.R_reads hR1; have b1 := blk_below HB.out hB1; have kb1 : W1.cell? ⟨bf, 0, none⟩ = some (.int .i64 fu) := blk_cell b1 0; have kf1 : W1.frozen? ⟨bf, 0, none⟩ = false := blk_frozen b1 0; have hw1 : IntKind.i64.wrap (fu - 1) = fu - 1 := (by rw [IntKind.wrap_i64]; omega); have hbl1 : bf < W1.heap.size := blk_lt b1; have B1 := Lib.hid b1; clear b1)
        have hu1 := hu0.trans (hB1.mono hu0.size)
        have hu2 : Below u.heap.size u (W1.setCell ⟨bf, 0, none⟩ (.int .i64 (fu - 1))) := hu1.setCell (p := ⟨bf, 0, none⟩) hbf _
        have hk2 : KeepBut W (W1.setCell ⟨bf, 0, none⟩ (.int .i64 (fu - 1))) bf none := (KeepBut.of_below (hB0.trans (hB1.mono hB0.size)) bf none).set_ 0 _
        have hb2 : (W1.setCell ⟨bf, 0, none⟩ (.int .i64 (fu - 1))).heap[bf]? = some (.cells #[.int .i64 (fu - 1)] 3 (0, 0)) := blk_put B1.out 0 _ rfl
        refine bodyPost_ret (v := .tuple #[.slice none 0 0, .bool false]) (by simp [results, Try.results9, go_sem]) rfl ⟨_, rfl, Kd.R_nil _ _ _ _ _, hb2, hu2, hk2⟩
      by_cases h2 : of.length = 0
      · have h' := h
        rw [if_pos (.inr h2)] at h'
        cases h'
        clear h hb hof
        go_enter Try.func9, Try.ntmps9
        go_wp2_with (go_at_call 26; refine hoc.mono ?_; rintro e W1 ⟨v1, rfl, hR1, hB1⟩; obtain ⟨Ao, co, rfl, hlo, hCo⟩ := Kd.R_reads hR1; have b1 := blk_below HB.out hB1; have kb1 : W1.cell? ⟨bf, 0, none⟩ = some (.int .i64 fu) := blk_cell b1 0; have kf1 : W1.frozen? ⟨bf, 0, none⟩ = false := blk_frozen b1 0; have hw1 : IntKind.i64.wrap (fu - 1) = fu - 1 := (by rw [IntKind.wrap_i64]; omega); have hbl1 : bf < W1.heap.size := blk_lt b1; have B1 := Lib.hid b1; clear b1)
        have hu1 := hu0.trans (hB1.mono hu0.size)
        have hu2 : Below u.heap.size u (W1.setCell ⟨bf, 0, none⟩ (.int .i64 (fu - 1))) := hu1.setCell (p := ⟨bf, 0, none⟩) hbf _
        have hk2 : KeepBut W (W1.setCell ⟨bf, 0, none⟩ (.int .i64 (fu - 1))) bf none := (KeepBut.of_below (hB0.trans (hB1.mono hB0.size)) bf none).set_ 0 _
        have hb2 : (W1.setCell ⟨bf, 0, none⟩ (.int .i64 (fu - 1))).heap[bf]? = some (.cells #[.int .i64 (fu - 1)] 3 (0, 0)) := blk_put B1.out 0 _ rfl
        refine bodyPost_ret (v := .tuple #[.slice none 0 0, .bool false]) (by simp [results, Try.results9, go_sem]) rfl ⟨_, rfl, Kd.R_nil _ _ _ _ _, hb2, hu2, hk2⟩
      rw [if_neg (not_or.2 ⟨h1, h2⟩)] at h
      obtain ⟨pk, hpk⟩ : ∃ pk, pickV picks (fu - 1) of.length = pk := ⟨_, rfl⟩
      rw [hpk] at h
      split at h
      case isFalse => cases h
      rename_i hpb
      split at h
      case isFalse => cases h
      rename_i hrb
      have HH := Lib.hid h
      have HPK := Lib.hid hpk
      have hpkl := hpb.2
      have hpk0 := hpb.1
      have hol : 0 < of.length := by omega
      clear h hb hof hpk hpb
      have hbz : ((of.length : Int) == 0) = false := by rw [beq_eq_false_iff_ne]; omega
      have hbn : decide (fu - 1 < 0) = false := by simpa using h1
      have hu1n : u.heap.size ≤ W0.heap.size := hu0.size
      by_cases hpz : 0 < picks.length
      rotate_left
      · have hdz : decide (0 < picks.length) = false := by simpa using hpz
        have hpk0e : pk = 0 := by
          rw [← HPK.out]
          unfold pickV
          rw [if_pos (by omega)]
        subst hpk0e
        clear hpz h2
        go_enter Try.func9, Try.ntmps9
        go_wp2_with (go_at_call 26; refine hoc.mono ?_; rintro e W1 ⟨v1, rfl, hR1, hB1⟩; obtain ⟨Ao, co, rfl, hlo, hCo⟩ := Kd.R_reads hR1; have b1 := blk_below HB.out hB1; have kb1 : W1.cell? ⟨bf, 0, none⟩ = some (.int .i64 fu) := blk_cell b1 0; have kf1 : W1.frozen? ⟨bf, 0, none⟩ = false := blk_frozen b1 0; have hw1 : IntKind.i64.wrap (fu - 1) = fu - 1 := (by rw [IntKind.wrap_i64]; omega); have hbl1 : bf < W1.heap.size := blk_lt b1; have B1 := Lib.hid b1; clear b1)
        rename_i K6 hK6
        have hu1 := hu0.trans (hB1.mono hu0.size)
        obtain ⟨W2, hW2⟩ : ∃ W2, W1.setCell ⟨bf, 0, none⟩ (.int .i64 (fu - 1)) = W2 := ⟨_, rfl⟩
        have hu2 : Below u.heap.size u W2 := by rw [← hW2]; exact hu1.setCell (p := ⟨bf, 0, none⟩) hbf _
        have hk2 : KeepBut W W2 bf none := by rw [← hW2]; exact (KeepBut.of_below (hB0.trans (hB1.mono hB0.size)) bf none).set_ 0 _
        have hb2 : W2.heap[bf]? = some (.cells #[.int .i64 (fu - 1)] 3 (0, 0)) := by rw [← hW2]; exact blk_put B1.out 0 _ rfl
        have hR2 : Kd.R (Kd.int .i64) 3 W2 W0.heap.size (fun k => k ≠ bf) (.slice Ao of.length co) of := by
          rw [← hW2]
          exact Kd.R_grown (Kd.R_mono (Kd.R_bound hR1) (fun k hk => by have := hk.2.1; omega)) (grownSetG W1 bf 0 _) (fun k hk e => by cases e; exact hk rfl)
        have hf2 : W2.heap[W.heap.size]? = some (.cells #[.slice A0_0 l0_0.length c0_0, .slice A0_1 l0_1.length c0_1, .slice A0_2 l0_2.length c0_2] 25 (0, 0)) := by rw [← hW2]; exact blk_far (blk_below HF0.out hB1) (by show W.heap.size ≠ bf; omega) _
        obtain ⟨ix, hix⟩ : ∃ ix, rd of 0 = ix := ⟨_, rfl⟩
        obtain ⟨hix0, hix1⟩ := hrb
        have HH1 := HH.out
        rw [hix] at hix0 hix1 HH1
        obtain ⟨ado, hado, ko⟩ := Kd.at_int (Kd.R_reads' hR2).2.2 0 hpk0 hpkl
        subst hado
        rw [hix] at ko
        obtain ⟨adp, AR, cR, hadp, g0, g1, g2, hlR, hCR⟩ := at_T40 hr0_2 ix hix0 hix1
        subst hadp
        obtain ⟨p, hp⟩ : ∃ p, rd_T40 l0_2 ix = p := ⟨_, rfl⟩
        rw [hp] at g0 g1 g2 hlR hCR HH1
        have HIX := Lib.hid hix
        have HHI := Lib.hid HH1
        have hpRl : p.f1.length ≤ 9223372036854775807 := hCR.2.1
        have ko' : W2.cell? ado = some (.int .i64 ix) := by rw [show ado.add (0 : Int).toNat = ado from by unfold Addr.add; cases ado; split <;> simp_all] at ko; exact ko
        rw [hW2]
        have hHeld : (fun X => X.cell? ⟨W.heap.size, 2, none⟩ = some (.slice (some adp) l0_2.length c0_2) ∧ X.cell? ado = some (.int .i64 ix) ∧ X.cell? ⟨(adp.add (ix.toNat * 3)).block, (adp.add (ix.toNat * 3)).off + 1, none⟩ = some (.slice AR p.f1.length cR)) W2.drew := ⟨blk_cell hf2 2, ko', pw_cell_below hu2 g1⟩
        have bs2 : W.heap.size + 1 ≤ W2.heap.size := by rw [← hW2]; have := hB1.size; simp; omega
        clear HB hoc hW2 HPK hR1 hCo kb1 kf1 hw1 hbl1 B1 hix hp HH HH1
        refine Ahd.wp_qz (start_ (S := (fun X => X.cell? ⟨W.heap.size, 2, none⟩ = some (.slice (some adp) l0_2.length c0_2) ∧ X.cell? ado = some (.int .i64 ix) ∧ X.cell? ⟨(adp.add (ix.toNat * 3)).block, (adp.add (ix.toNat * 3)).off + 1, none⟩ = some (.slice AR p.f1.length cR))) (ds := []) #[false, false, false, false, false, false, false, false, false, false, false] (by kernel_rfl) rfl rfl hHeld (fun h0_ => ?_))
        clear h0_
        refine pure_ (i := 0) (N := (some 59)) (v := ?_) (a' := ?_) #[true, false, false, false, false, false, false, false, false, false, false] rfl rfl (by kernel_rfl) (fun _ _ _ h => h) (Or.inl ⟨by rfl, ?_⟩) ?_ ?_
        rotate_left
        · intro w'
          go_simp
          with_reducible rfl
        rotate_left
        · simp only [Act.put, List.setIfInBounds_toArray, List.set_cons_zero, List.set_cons_succ]
          rfl
        refine take_ (i := 1) (N := (some 60)) (v := ?_) (a' := ?_) #[true, true, false, false, false, false, false, false, false, false, false] rfl rfl (by kernel_rfl) (fun _ _ _ h => h) (Or.inl ⟨by rfl, ?_⟩) hHeld ?_ ?_
        rotate_left
        · rintro w' ⟨s0, s1, s2⟩
          go_simp
          with_reducible rfl
        rotate_left
        · simp only [Act.put, List.setIfInBounds_toArray, List.set_cons_zero, List.set_cons_succ]
          rfl
        refine pure_ (i := 2) (N := (some 61)) (v := ?_) (a' := ?_) #[true, true, true, false, false, false, false, false, false, false, false] rfl rfl (by kernel_rfl) (fun _ _ _ h => h) (Or.inl ⟨by rfl, ?_⟩) ?_ ?_
        rotate_left
        · intro w'
          go_simp
          with_reducible rfl
        rotate_left
        · simp only [Act.put, List.setIfInBounds_toArray, List.set_cons_zero, List.set_cons_succ]
          rfl
        refine pure_ (i := 3) (N := (some 62)) (v := ?_) (a' := ?_) #[true, true, true, true, false, false, false, false, false, false, false] rfl rfl (by kernel_rfl) (fun _ _ _ h => h) (Or.inl ⟨by rfl, ?_⟩) ?_ ?_
        rotate_left
        · intro w'
          go_simp
          with_reducible rfl
        rotate_left
        · simp only [Act.put, List.setIfInBounds_toArray, List.set_cons_zero, List.set_cons_succ]
          rfl
        refine pure_ (i := 4) (N := (some 63)) (v := ?_) (a' := ?_) #[true, true, true, true, true, false, false, false, false, false, false] rfl rfl (by kernel_rfl) (fun _ _ _ h => h) (Or.inl ⟨by rfl, ?_⟩) ?_ ?_
        rotate_left
        · intro w'
          go_simp
          with_reducible rfl
        rotate_left
        · simp only [Act.put, List.setIfInBounds_toArray, List.set_cons_zero, List.set_cons_succ]
          rfl
        refine take_ (i := 5) (N := (some 64)) (v := ?_) (a' := ?_) #[true, true, true, true, true, true, false, false, false, false, false] rfl rfl (by kernel_rfl) (fun _ _ _ h => h) (Or.inl ⟨by rfl, ?_⟩) hHeld ?_ ?_
        rotate_left
        · rintro w' ⟨s0, s1, s2⟩
          go_simp
          with_reducible rfl
        rotate_left
        · simp only [Act.put, List.setIfInBounds_toArray, List.set_cons_zero, List.set_cons_succ]
          rfl
        refine pure_ (i := 6) (N := (some 65)) (v := ?_) (a' := ?_) #[true, true, true, true, true, true, true, false, false, false, false] rfl rfl (by kernel_rfl) (fun _ _ _ h => h) (Or.inl ⟨by rfl, ?_⟩) ?_ ?_
        rotate_left
        · intro w'
          go_simp
          with_reducible rfl
        rotate_left
        · simp only [Act.put, List.setIfInBounds_toArray, List.set_cons_zero, List.set_cons_succ]
          rfl
        refine pure_ (i := 7) (N := (some 66)) (v := ?_) (a' := ?_) #[true, true, true, true, true, true, true, true, false, false, false] rfl rfl (by kernel_rfl) (fun _ _ _ h => h) (Or.inl ⟨by rfl, ?_⟩) ?_ ?_
        rotate_left
        · intro w'
          go_simp
          with_reducible rfl
        rotate_left
        · simp only [Act.put, List.setIfInBounds_toArray, List.set_cons_zero, List.set_cons_succ]
          rfl
        refine take_ (i := 8) (N := (some 67)) (v := ?_) (a' := ?_) #[true, true, true, true, true, true, true, true, true, false, false] rfl rfl (by kernel_rfl) (fun _ _ _ h => h) (Or.inl ⟨by rfl, ?_⟩) hHeld ?_ ?_
        rotate_left
        · rintro w' ⟨s0, s1, s2⟩
          go_simp
          with_reducible rfl
        rotate_left
        · simp only [Act.put, List.setIfInBounds_toArray, List.set_cons_zero, List.set_cons_succ]
          rfl
        refine pure_ (i := 9) (N := (some 68)) (v := ?_) (a' := ?_) #[true, true, true, true, true, true, true, true, true, true, false] rfl rfl (by kernel_rfl) (fun _ _ _ h => h) (Or.inl ⟨by rfl, ?_⟩) ?_ ?_
        rotate_left
        · intro w'
          go_simp
          with_reducible rfl
        rotate_left
        · simp only [Act.put, List.setIfInBounds_toArray, List.set_cons_zero, List.set_cons_succ]
          rfl
        refine pure_ (i := 10) (N := (some 69)) (v := ?_) (a' := ?_) #[true, true, true, true, true, true, true, true, true, true, true] rfl rfl (by kernel_rfl) (fun _ _ _ h => h) (Or.inl ⟨by rfl, ?_⟩) ?_ ?_
        rotate_left
        · intro w'
          go_simp
          with_reducible rfl
        rotate_left
        · simp only [Act.put, List.setIfInBounds_toArray, List.set_cons_zero, List.set_cons_succ]
          rfl
        refine done_ (by kernel_rfl) ?_
        refine hK6 _ _ ?_
        clear hK6 hHeld ko ko'
        have HF2 := Lib.hid (blk_drew hf2)
        have HB2 := Lib.hid (blk_drew hb2)
        have hu2d := below_drew hu2
        have hk2d := keep_drew hk2
        have HI0 := Lib.hid (show itemsV (rowV kk l0_0 l0_1 l0_2 picks k) (p.f1.drop 0) [] (fu - 1) = some (m, ok, fu2) from HHI.out)
        clear hf2 hb2 hR2 HHI
        have hfr : -1000 ≤ fu - 1 ∧ fu - 1 ≤ 1000 := by omega
        have bs2d : W.heap.size + 1 ≤ W2.drew.heap.size := bs2
        go_wp2
        go_loopw [12, 69] (fun out i wx => ∃ (j : Nat) (acc : List Int) (fj : Int), i = .int .i64 (j : Int) ∧ j ≤ p.f1.length ∧ Hid (itemsV (rowV kk l0_0 l0_1 l0_2 picks k) (p.f1.drop j) acc fj = some (m, ok, fu2)) ∧ Kd.R (Kd.int .i64) 3 wx (W.heap.size + 1) (fun k => k ≠ bf) out acc ∧ Hid (wx.heap[bf]? = some (.cells #[.int .i64 fj] 3 (0, 0))) ∧ Hid (wx.heap[W.heap.size]? = some (.cells #[.slice A0_0 l0_0.length c0_0, .slice A0_1 l0_1.length c0_1, .slice (some adp) l0_2.length c0_2] 25 (0, 0))) ∧ Below u.heap.size u wx ∧ KeepBut W wx bf none ∧ (-1000 ≤ fj ∧ fj ≤ 1000) ∧ W.heap.size + 1 ≤ wx.heap.size) (fun _ i _ => p.f1.length - (Go.RowKit.intOf i).toNat)
        case atStart => exact ⟨0, [], fu - 1, rfl, Nat.zero_le _, HI0, Kd.R_nil _ _ _ _ _, HB2, HF2, hu2d, hk2d, hfr, bs2d⟩
        case round =>
          clear HI0 HB2 HF2 hu2 hu2d hk2 hk2d bs2 bs2d hfr
          obtain ⟨j, acc, fj, rfl, hj, HI, hRo, HB, HF, hux, hkx, hfr, hsz⟩ := hrel
          by_cases hlt : j < p.f1.length
          · obtain ⟨adx, hadx, i0', i1', i2'⟩ := at_T48 hCR (j : Int) (by omega) (by omega)
            subst hadx
            simp only [Int.toNat_natCast] at i0' i1' i2'
            have hdx := rdDropI p.f1 j hlt
            obtain ⟨x, hx⟩ : ∃ x, rd_T48 p.f1 (j : Int) = x := ⟨_, rfl⟩
            rw [hx] at i0' i1' i2' hdx
            have i0 := pw_cell_below hux i0'
            have i1 := pw_cell_below hux i1'
            have i2 := pw_cell_below hux i2'
            have hi := HI.out
            rw [hdx] at hi
            simp only [itemsV] at hi
            obtain ⟨⟨m', ok', f'⟩, hrec, hi⟩ := Option.bind_eq_some_iff.mp hi
            simp only at hi
            have zb0 : wr.cell? ⟨W.heap.size, 0, none⟩ = some (.slice A0_0 l0_0.length c0_0) := blk_cell HF.out 0
            have zb1 : wr.cell? ⟨W.heap.size, 1, none⟩ = some (.slice A0_1 l0_1.length c0_1) := blk_cell HF.out 1
            have zb2 : wr.cell? ⟨W.heap.size, 2, none⟩ = some (.slice (some adp) l0_2.length c0_2) := blk_cell HF.out 2
            have hBx : Below wr.heap.size wr (wr.alloc (.cells #[.int .i64 x.f0, .string x.f1, .string x.f2] 48)) := (Below.refl _ _).alloc (Nat.le_refl _) _
            have hrc := ih x.f0 fj m' ok' f' _ hrec hfr.1 hfr.2 (hux.trans (hBx.mono hux.size)) (blk_below HB.out hBx)
            have HX := Lib.hid hi
            have hszl : W.heap.size < wr.heap.size := by omega
            clear hx hdx hi HI hrec
            cases ok' with
            | false =>
              go_wp2_with (go_at_call 9; refine hrc.mono ?_; rintro e W5 ⟨v5, rfl, hR5, hb5, hu5, hk5⟩)
              have hi := HX.out
              simp only [Bool.false_eq_true, if_false, Option.some.injEq, Prod.mk.injEq] at hi
              obtain ⟨rfl, rfl, rfl⟩ := hi
              refine bodyPost_ret (v := .tuple #[.slice none 0 0, .bool false]) (by simp [results, Try.results9, go_sem]) rfl ⟨_, rfl, Kd.R_nil _ _ _ _ _, hb5, hu5, (keep_alloc hkx _).trans hk5 (.inl rfl)⟩
            | true =>
              have hi := HX.out
              simp only [if_true] at hi
              split at hi
              case isFalse => cases hi
              rename_i hgu
              have HX2 := Lib.hid hi
              have hgl := hgu.1
              have hgf := hgu.2
              clear hi HX hgu
              obtain ⟨Ac, cc, hac, hla, hCa⟩ := Kd.R_reads hRo
              subst hac
              go_wp2_with (first
                | (go_at_call 9; refine hrc.mono ?_; rintro e W5 ⟨v5, rfl, hR5, hb5, hu5, hk5⟩; obtain ⟨A5, c5, hv5, hl5, hC5⟩ := Kd.R_reads hR5; subst hv5; have hRo5 := Kd.R_keep (Kd.R_alloc hRo _) hk5 (fun k hk => hk); have hs5 := keep_size hk5; have HF5 := Lib.hid (hk5.blk (blk_alloc HF.out (.cells #[.int .i64 x.f0, .string x.f1, .string x.f2] 48)) (show W.heap.size ≠ bf by omega) (by simp)); have HB5 := Lib.hid hb5; clear hb5 hrc)
                | (at_builtin; (refine Kd.R_append_rows (Kd.int .i64) (w0 := W5) (W.heap.size + 1) rfl (.tmp 84) (.tmp 85) 26 3 (.int .i64 0) 8 rfl Try.underlying26 Refs.infoN rfl (by decide) (by decide) (.slice Ac acc.length cc) acc m' A5 m'.length c5 (fun k => k ≠ bf) (fun _ => False) rfl rfl hRo5 hC5 (fun _ _ h => h) (fun _ h => h.elim) (fun k hk => by have := World.block_lt_of_cell? _ _ (blk_cell HB5.out 0 : W5.cell? ⟨bf, 0, none⟩ = some (.int .i64 f')); show k ≠ bf; simp at this; omega) (Below.refl _ _) (by simp at hs5; omega) (by omega) ?_); intro v6 W6 R6 hb6 hg6 _))
              go_roundw
              case rel =>
                refine ⟨j + 1, acc ++ m', f', by go_num, by omega, HX2, R6, Lib.hid ((hb6.block bf (by omega)).trans HB5.out), Lib.hid ((hb6.block W.heap.size (by omega)).trans HF5.out), hu5.trans (hb6.mono (by have := hu.size; omega)), ?_, hgf, by have := hb6.size; simp at hs5; omega⟩
                have hkk : KeepBut W W5 bf none := (keep_alloc hkx _).trans hk5 (.inl rfl)
                exact ⟨Nat.le_trans hkk.1 hb6.size, fun i hi' hne hr => (hb6.block i (by omega)).trans (hkk.2 i hi' hne hr)⟩
              case measure => simp [Go.RowKit.intOf]; omega
          · have hj2 : j = p.f1.length := by omega
            subst hj2
            have hi := HI.out
            rw [List.drop_length] at hi
            simp only [itemsV, Option.some.injEq, Prod.mk.injEq] at hi
            obtain ⟨rfl, rfl, rfl⟩ := hi
            obtain ⟨Ac, cc, hac, hla, hCa⟩ := Kd.R_reads hRo
            subst hac
            clear HI
            go_wp2
            refine bodyPost_ret (v := .tuple #[.slice Ac acc.length cc, .bool true]) (by simp [results, Try.results9, go_sem]) rfl ⟨_, rfl, Kd.R_mono (Kd.R_lower hRo (Nat.le_succ _)) (fun _ _ => trivial), HB.out, hux, hkx⟩
      · obtain ⟨q, hq⟩ : ∃ q, (fu - 1) % (picks.length : Int) = q := ⟨_, rfl⟩
        have hq0 : 0 ≤ q := by rw [← hq]; exact Int.emod_nonneg _ (by omega)
        have hq1 : q < picks.length := by rw [← hq]; exact Int.emod_lt_of_pos _ (by omega)
        obtain ⟨adk, rfl, kq⟩ := Kd.at_int hr2 q hq0 hq1
        obtain ⟨x, hx⟩ : ∃ x, rd picks q = x := ⟨_, rfl⟩
        rw [hx] at kq
        have hfu0 : 0 ≤ fu - 1 := by omega
        have hpl0 : (0 : Int) < picks.length := by omega
        have hqb : adk.block ≠ bf := by have := World.block_lt_of_cell? _ _ kq; have e : (adk.add q.toNat).block = adk.block := addr_block _ _; omega
        have hpke : wrap64 ((IntKind.u64.wrap x).tmod (of.length : Int)) = pk := by
          rw [← HPK.out]
          unfold pickV
          rw [if_neg (by omega), hq, hx]
          exact pick_eq x of.length hofl hol
        have hdz : decide (0 < picks.length) = true := by simpa using hpz
        clear h1 h2 hx
        go_enter Try.func9, Try.ntmps9
        go_wp2_with (go_at_call 26; refine hoc.mono ?_; rintro e W1 ⟨v1, rfl, hR1, hB1⟩; obtain ⟨Ao, co, rfl, hlo, hCo⟩ := Kd.R_reads hR1; have b1 := blk_below HB.out hB1; have kb1 : W1.cell? ⟨bf, 0, none⟩ = some (.int .i64 fu) := blk_cell b1 0; have kf1 : W1.frozen? ⟨bf, 0, none⟩ = false := blk_frozen b1 0; have hw1 : IntKind.i64.wrap (fu - 1) = fu - 1 := (by rw [IntKind.wrap_i64]; omega); have hbl1 : bf < W1.heap.size := blk_lt b1; have B1 := Lib.hid b1; clear b1; have kq2 := cellFarG (g := bf) (i := 0) (v := .int .i64 (fu - 1)) (by rw [addr_block]; exact hqb) (pw_cell_below (hu0.trans (hB1.mono hu0.size)) kq))
        rename_i K6 hK6
        have hu1 := hu0.trans (hB1.mono hu0.size)
        obtain ⟨W2, hW2⟩ : ∃ W2, W1.setCell ⟨bf, 0, none⟩ (.int .i64 (fu - 1)) = W2 := ⟨_, rfl⟩
        have hu2 : Below u.heap.size u W2 := by rw [← hW2]; exact hu1.setCell (p := ⟨bf, 0, none⟩) hbf _
        have hk2 : KeepBut W W2 bf none := by rw [← hW2]; exact (KeepBut.of_below (hB0.trans (hB1.mono hB0.size)) bf none).set_ 0 _
        have hb2 : W2.heap[bf]? = some (.cells #[.int .i64 (fu - 1)] 3 (0, 0)) := by rw [← hW2]; exact blk_put B1.out 0 _ rfl
        have hR2 : Kd.R (Kd.int .i64) 3 W2 W0.heap.size (fun k => k ≠ bf) (.slice Ao of.length co) of := by
          rw [← hW2]
          exact Kd.R_grown (Kd.R_mono (Kd.R_bound hR1) (fun k hk => by have := hk.2.1; omega)) (grownSetG W1 bf 0 _) (fun k hk e => by cases e; exact hk rfl)
        have hf2 : W2.heap[W.heap.size]? = some (.cells #[.slice A0_0 l0_0.length c0_0, .slice A0_1 l0_1.length c0_1, .slice A0_2 l0_2.length c0_2] 25 (0, 0)) := by rw [← hW2]; exact blk_far (blk_below HF0.out hB1) (by show W.heap.size ≠ bf; omega) _
        obtain ⟨ix, hix⟩ : ∃ ix, rd of pk = ix := ⟨_, rfl⟩
        obtain ⟨hix0, hix1⟩ := hrb
        have HH1 := HH.out
        rw [hix] at hix0 hix1 HH1
        obtain ⟨ado, hado, ko⟩ := Kd.at_int (Kd.R_reads' hR2).2.2 pk hpk0 hpkl
        subst hado
        rw [hix] at ko
        obtain ⟨adp, AR, cR, hadp, g0, g1, g2, hlR, hCR⟩ := at_T40 hr0_2 ix hix0 hix1
        subst hadp
        obtain ⟨p, hp⟩ : ∃ p, rd_T40 l0_2 ix = p := ⟨_, rfl⟩
        rw [hp] at g0 g1 g2 hlR hCR HH1
        have HIX := Lib.hid hix
        have HHI := Lib.hid HH1
        have hpRl : p.f1.length ≤ 9223372036854775807 := hCR.2.1
        have ko' : W2.cell? (ado.add pk.toNat) = some (.int .i64 ix) := by simpa using ko
        rw [hW2]
        simp only [hpke]
        have hHeld : (fun X => X.cell? ⟨W.heap.size, 2, none⟩ = some (.slice (some adp) l0_2.length c0_2) ∧ X.cell? (ado.add pk.toNat) = some (.int .i64 ix) ∧ X.cell? ⟨(adp.add (ix.toNat * 3)).block, (adp.add (ix.toNat * 3)).off + 1, none⟩ = some (.slice AR p.f1.length cR)) W2.drew := ⟨blk_cell hf2 2, ko', pw_cell_below hu2 g1⟩
        have bs2 : W.heap.size + 1 ≤ W2.heap.size := by rw [← hW2]; have := hB1.size; simp; omega
        clear HB hoc hW2 HPK hR1 hCo kb1 kf1 hw1 hbl1 B1 hix hp HH HH1 kq2 kq hpke hq
        refine Ahd.wp_qz (start_ (S := (fun X => X.cell? ⟨W.heap.size, 2, none⟩ = some (.slice (some adp) l0_2.length c0_2) ∧ X.cell? (ado.add pk.toNat) = some (.int .i64 ix) ∧ X.cell? ⟨(adp.add (ix.toNat * 3)).block, (adp.add (ix.toNat * 3)).off + 1, none⟩ = some (.slice AR p.f1.length cR))) (ds := []) #[false, false, false, false, false, false, false, false, false, false, false] (by kernel_rfl) rfl rfl hHeld (fun h0_ => ?_))
        clear h0_
        refine pure_ (i := 0) (N := (some 59)) (v := ?_) (a' := ?_) #[true, false, false, false, false, false, false, false, false, false, false] rfl rfl (by kernel_rfl) (fun _ _ _ h => h) (Or.inl ⟨by rfl, ?_⟩) ?_ ?_
        rotate_left
        · intro w'
          go_simp
          with_reducible rfl
        rotate_left
        · simp only [Act.put, List.setIfInBounds_toArray, List.set_cons_zero, List.set_cons_succ]
          rfl
        refine take_ (i := 1) (N := (some 60)) (v := ?_) (a' := ?_) #[true, true, false, false, false, false, false, false, false, false, false] rfl rfl (by kernel_rfl) (fun _ _ _ h => h) (Or.inl ⟨by rfl, ?_⟩) hHeld ?_ ?_
        rotate_left
        · rintro w' ⟨s0, s1, s2⟩
          go_simp
          with_reducible rfl
        rotate_left
        · simp only [Act.put, List.setIfInBounds_toArray, List.set_cons_zero, List.set_cons_succ]
          rfl
        refine pure_ (i := 2) (N := (some 61)) (v := ?_) (a' := ?_) #[true, true, true, false, false, false, false, false, false, false, false] rfl rfl (by kernel_rfl) (fun _ _ _ h => h) (Or.inl ⟨by rfl, ?_⟩) ?_ ?_
        rotate_left
        · intro w'
          go_simp
          with_reducible rfl
        rotate_left
        · simp only [Act.put, List.setIfInBounds_toArray, List.set_cons_zero, List.set_cons_succ]
          rfl
        refine pure_ (i := 3) (N := (some 62)) (v := ?_) (a' := ?_) #[true, true, true, true, false, false, false, false, false, false, false] rfl rfl (by kernel_rfl) (fun _ _ _ h => h) (Or.inl ⟨by rfl, ?_⟩) ?_ ?_
        rotate_left
        · intro w'
          go_simp
          with_reducible rfl
        rotate_left
        · simp only [Act.put, List.setIfInBounds_toArray, List.set_cons_zero, List.set_cons_succ]
          rfl
        refine pure_ (i := 4) (N := (some 63)) (v := ?_) (a' := ?_) #[true, true, true, true, true, false, false, false, false, false, false] rfl rfl (by kernel_rfl) (fun _ _ _ h => h) (Or.inl ⟨by rfl, ?_⟩) ?_ ?_
        rotate_left
        · intro w'
          go_simp
          with_reducible rfl
        rotate_left
        · simp only [Act.put, List.setIfInBounds_toArray, List.set_cons_zero, List.set_cons_succ]
          rfl
        refine take_ (i := 5) (N := (some 64)) (v := ?_) (a' := ?_) #[true, true, true, true, true, true, false, false, false, false, false] rfl rfl (by kernel_rfl) (fun _ _ _ h => h) (Or.inl ⟨by rfl, ?_⟩) hHeld ?_ ?_
        rotate_left
        · rintro w' ⟨s0, s1, s2⟩
          go_simp
          with_reducible rfl
        rotate_left
        · simp only [Act.put, List.setIfInBounds_toArray, List.set_cons_zero, List.set_cons_succ]
          rfl
        refine pure_ (i := 6) (N := (some 65)) (v := ?_) (a' := ?_) #[true, true, true, true, true, true, true, false, false, false, false] rfl rfl (by kernel_rfl) (fun _ _ _ h => h) (Or.inl ⟨by rfl, ?_⟩) ?_ ?_
        rotate_left
        · intro w'
          go_simp
          with_reducible rfl
        rotate_left
        · simp only [Act.put, List.setIfInBounds_toArray, List.set_cons_zero, List.set_cons_succ]
          rfl
        refine pure_ (i := 7) (N := (some 66)) (v := ?_) (a' := ?_) #[true, true, true, true, true, true, true, true, false, false, false] rfl rfl (by kernel_rfl) (fun _ _ _ h => h) (Or.inl ⟨by rfl, ?_⟩) ?_ ?_
        rotate_left
        · intro w'
          go_simp
          with_reducible rfl
        rotate_left
        · simp only [Act.put, List.setIfInBounds_toArray, List.set_cons_zero, List.set_cons_succ]
          rfl
        refine take_ (i := 8) (N := (some 67)) (v := ?_) (a' := ?_) #[true, true, true, true, true, true, true, true, true, false, false] rfl rfl (by kernel_rfl) (fun _ _ _ h => h) (Or.inl ⟨by rfl, ?_⟩) hHeld ?_ ?_
        rotate_left
        · rintro w' ⟨s0, s1, s2⟩
          go_simp
          with_reducible rfl
        rotate_left
        · simp only [Act.put, List.setIfInBounds_toArray, List.set_cons_zero, List.set_cons_succ]
          rfl
        refine pure_ (i := 9) (N := (some 68)) (v := ?_) (a' := ?_) #[true, true, true, true, true, true, true, true, true, true, false] rfl rfl (by kernel_rfl) (fun _ _ _ h => h) (Or.inl ⟨by rfl, ?_⟩) ?_ ?_
        rotate_left
        · intro w'
          go_simp
          with_reducible rfl
        rotate_left
        · simp only [Act.put, List.setIfInBounds_toArray, List.set_cons_zero, List.set_cons_succ]
          rfl
        refine pure_ (i := 10) (N := (some 69)) (v := ?_) (a' := ?_) #[true, true, true, true, true, true, true, true, true, true, true] rfl rfl (by kernel_rfl) (fun _ _ _ h => h) (Or.inl ⟨by rfl, ?_⟩) ?_ ?_
        rotate_left
        · intro w'
          go_simp
          with_reducible rfl
        rotate_left
        · simp only [Act.put, List.setIfInBounds_toArray, List.set_cons_zero, List.set_cons_succ]
          rfl
        refine done_ (by kernel_rfl) ?_
        refine hK6 _ _ ?_
        clear hK6 hHeld ko ko'
        have HF2 := Lib.hid (blk_drew hf2)
        have HB2 := Lib.hid (blk_drew hb2)
        have hu2d := below_drew hu2
        have hk2d := keep_drew hk2
        have HI0 := Lib.hid (show itemsV (rowV kk l0_0 l0_1 l0_2 picks k) (p.f1.drop 0) [] (fu - 1) = some (m, ok, fu2) from HHI.out)
        clear hf2 hb2 hR2 HHI
        have hfr : -1000 ≤ fu - 1 ∧ fu - 1 ≤ 1000 := by omega
        have bs2d : W.heap.size + 1 ≤ W2.drew.heap.size := bs2
        go_wp2
        go_loopw [12, 69] (fun out i wx => ∃ (j : Nat) (acc : List Int) (fj : Int), i = .int .i64 (j : Int) ∧ j ≤ p.f1.length ∧ Hid (itemsV (rowV kk l0_0 l0_1 l0_2 picks k) (p.f1.drop j) acc fj = some (m, ok, fu2)) ∧ Kd.R (Kd.int .i64) 3 wx (W.heap.size + 1) (fun k => k ≠ bf) out acc ∧ Hid (wx.heap[bf]? = some (.cells #[.int .i64 fj] 3 (0, 0))) ∧ Hid (wx.heap[W.heap.size]? = some (.cells #[.slice A0_0 l0_0.length c0_0, .slice A0_1 l0_1.length c0_1, .slice (some adp) l0_2.length c0_2] 25 (0, 0))) ∧ Below u.heap.size u wx ∧ KeepBut W wx bf none ∧ (-1000 ≤ fj ∧ fj ≤ 1000) ∧ W.heap.size + 1 ≤ wx.heap.size) (fun _ i _ => p.f1.length - (Go.RowKit.intOf i).toNat)
        case atStart => exact ⟨0, [], fu - 1, rfl, Nat.zero_le _, HI0, Kd.R_nil _ _ _ _ _, HB2, HF2, hu2d, hk2d, hfr, bs2d⟩
        case round =>
          clear HI0 HB2 HF2 hu2 hu2d hk2 hk2d bs2 bs2d hfr
          obtain ⟨j, acc, fj, rfl, hj, HI, hRo, HB, HF, hux, hkx, hfr, hsz⟩ := hrel
          by_cases hlt : j < p.f1.length
          · obtain ⟨adx, hadx, i0', i1', i2'⟩ := at_T48 hCR (j : Int) (by omega) (by omega)
            subst hadx
            simp only [Int.toNat_natCast] at i0' i1' i2'
            have hdx := rdDropI p.f1 j hlt
            obtain ⟨x, hx⟩ : ∃ x, rd_T48 p.f1 (j : Int) = x := ⟨_, rfl⟩
            rw [hx] at i0' i1' i2' hdx
            have i0 := pw_cell_below hux i0'
            have i1 := pw_cell_below hux i1'
            have i2 := pw_cell_below hux i2'
            have hi := HI.out
            rw [hdx] at hi
            simp only [itemsV] at hi
            obtain ⟨⟨m', ok', f'⟩, hrec, hi⟩ := Option.bind_eq_some_iff.mp hi
            simp only at hi
            have zb0 : wr.cell? ⟨W.heap.size, 0, none⟩ = some (.slice A0_0 l0_0.length c0_0) := blk_cell HF.out 0
            have zb1 : wr.cell? ⟨W.heap.size, 1, none⟩ = some (.slice A0_1 l0_1.length c0_1) := blk_cell HF.out 1
            have zb2 : wr.cell? ⟨W.heap.size, 2, none⟩ = some (.slice (some adp) l0_2.length c0_2) := blk_cell HF.out 2
            have hBx : Below wr.heap.size wr (wr.alloc (.cells #[.int .i64 x.f0, .string x.f1, .string x.f2] 48)) := (Below.refl _ _).alloc (Nat.le_refl _) _
            have hrc := ih x.f0 fj m' ok' f' _ hrec hfr.1 hfr.2 (hux.trans (hBx.mono hux.size)) (blk_below HB.out hBx)
            have HX := Lib.hid hi
            have hszl : W.heap.size < wr.heap.size := by omega
            clear hx hdx hi HI hrec
            cases ok' with
            | false =>
              go_wp2_with (go_at_call 9; refine hrc.mono ?_; rintro e W5 ⟨v5, rfl, hR5, hb5, hu5, hk5⟩)
              have hi := HX.out
              simp only [Bool.false_eq_true, if_false, Option.some.injEq, Prod.mk.injEq] at hi
              obtain ⟨rfl, rfl, rfl⟩ := hi
              refine bodyPost_ret (v := .tuple #[.slice none 0 0, .bool false]) (by simp [results, Try.results9, go_sem]) rfl ⟨_, rfl, Kd.R_nil _ _ _ _ _, hb5, hu5, (keep_alloc hkx _).trans hk5 (.inl rfl)⟩
            | true =>
              have hi := HX.out
              simp only [if_true] at hi
              split at hi
              case isFalse => cases hi
              rename_i hgu
              have HX2 := Lib.hid hi
              have hgl := hgu.1
              have hgf := hgu.2
              clear hi HX hgu
              obtain ⟨Ac, cc, hac, hla, hCa⟩ := Kd.R_reads hRo
              subst hac
              go_wp2_with (first
                | (go_at_call 9; refine hrc.mono ?_; rintro e W5 ⟨v5, rfl, hR5, hb5, hu5, hk5⟩; obtain ⟨A5, c5, hv5, hl5, hC5⟩ := Kd.R_reads hR5; subst hv5; have hRo5 := Kd.R_keep (Kd.R_alloc hRo _) hk5 (fun k hk => hk); have hs5 := keep_size hk5; have HF5 := Lib.hid (hk5.blk (blk_alloc HF.out (.cells #[.int .i64 x.f0, .string x.f1, .string x.f2] 48)) (show W.heap.size ≠ bf by omega) (by simp)); have HB5 := Lib.hid hb5; clear hb5 hrc)
                | (at_builtin; (refine Kd.R_append_rows (Kd.int .i64) (w0 := W5) (W.heap.size + 1) rfl (.tmp 84) (.tmp 85) 26 3 (.int .i64 0) 8 rfl Try.underlying26 Refs.infoN rfl (by decide) (by decide) (.slice Ac acc.length cc) acc m' A5 m'.length c5 (fun k => k ≠ bf) (fun _ => False) rfl rfl hRo5 hC5 (fun _ _ h => h) (fun _ h => h.elim) (fun k hk => by have := World.block_lt_of_cell? _ _ (blk_cell HB5.out 0 : W5.cell? ⟨bf, 0, none⟩ = some (.int .i64 f')); show k ≠ bf; simp at this; omega) (Below.refl _ _) (by simp at hs5; omega) (by omega) ?_); intro v6 W6 R6 hb6 hg6 _))
              go_roundw
              case rel =>
                refine ⟨j + 1, acc ++ m', f', by go_num, by omega, HX2, R6, Lib.hid ((hb6.block bf (by omega)).trans HB5.out), Lib.hid ((hb6.block W.heap.size (by omega)).trans HF5.out), hu5.trans (hb6.mono (by have := hu.size; omega)), ?_, hgf, by have := hb6.size; simp at hs5; omega⟩
                have hkk : KeepBut W W5 bf none := (keep_alloc hkx _).trans hk5 (.inl rfl)
                exact ⟨Nat.le_trans hkk.1 hb6.size, fun i hi' hne hr => (hb6.block i (by omega)).trans (hkk.2 i hi' hne hr)⟩
              case measure => simp [Go.RowKit.intOf]; omega
          · have hj2 : j = p.f1.length := by omega
            subst hj2
            have hi := HI.out
            rw [List.drop_length] at hi
            simp only [itemsV, Option.some.injEq, Prod.mk.injEq] at hi
            obtain ⟨rfl, rfl, rfl⟩ := hi
            obtain ⟨Ac, cc, hac, hla, hCa⟩ := Kd.R_reads hRo
            subst hac
            clear HI
            go_wp2
            refine bodyPost_ret (v := .tuple #[.slice Ac acc.length cc, .bool true]) (by simp [results, Try.results9, go_sem]) rfl ⟨_, rfl, Kd.R_mono (Kd.R_lower hRo (Nat.le_succ _)) (fun _ _ => trivial), HB.out, hux, hkx⟩

end Go.Proofs.Ytkfpmolplemdlaa.PSetsDerive
