/- sets.derive walked, with Empty and Useful: the symbols that derive a row of some symbols. Over productions whose symbols are there. -/
import Derived.Test.YtkfpmolplemdlaaGrow
namespace Go.Proofs.Ytkfpmolplemdlaa.Deri
open Go Go.RowKit Go.Shelf Go.Proofs.YtkfpmolplemdlaaW.PrintWords Go.Proofs.Ytkfpmolplemdlaa.Round Go.Proofs.Ytkfpmolplemdlaa.RangeG Go.Proofs.Ytkfpmolplemdlaa.Fl Go.Proofs.Ytkfpmolplemdlaa.Grow
attribute [local go_sem] Oper.semAt_some
set_option linter.unusedVariables false
set_option linter.unusedSimpArgs false
/-- The items' symbols are there. -/
def ItOk (N : Nat) (l : List I) : Prop := ∀ i ∈ l, 0 ≤ i.1 ∧ i.1 < N
def PrOk (N : Nat) (p : P) : Prop := 0 ≤ p.1 ∧ p.1 < N ∧ ItOk N p.2.1
def at_ (bs : List Bool) (i : Int) : Bool := bs.getD i.toNat false
/-- The row of bools and the variable that holds it. -/
def Row (g B N : Nat) (bs : List Bool) (W : World) : Prop := bs.length = N ∧ W.heap[g]? = some (.cells (bs.map Value.bool).toArray 4 (0, 0)) ∧ Boxed W B 33 (.slice (some ⟨g, 0, none⟩) N N)
theorem Row.cell {g B N : Nat} {bs : List Bool} {W : World} (h : Row g B N bs W) (i : Int) (h0 : 0 ≤ i) (h1 : i < N) : W.cell? ⟨g, i.toNat, none⟩ = some (.bool (at_ bs i)) := by
  have := blk_cell h.2.1 i.toNat
  rw [this]
  have hl : i.toNat < bs.length := by have := h.1; omega
  unfold at_
  rw [List.getD_eq_getElem?_getD, List.getElem?_eq_getElem hl]
  simp [hl]
theorem Row.frozen {g B N : Nat} {bs : List Bool} {W : World} (h : Row g B N bs W) (i : Nat) : W.frozen? ⟨g, i, none⟩ = false := blk_frozen h.2.1 i
theorem Row.below {g B N : Nat} {bs : List Bool} {W W' : World} (h : Row g B N bs W) (hb : Below W.heap.size W W') : Row g B N bs W' := ⟨h.1, (hb.block g (blk_lt h.2.1)).trans h.2.1, (hb.block B h.2.2.lt).trans h.2.2⟩
theorem Row.ne {g B N : Nat} {bs : List Bool} {W : World} (h : Row g B N bs W) : B ≠ g := fun e => by
  have h1 := h.2.2
  unfold Boxed at h1
  rw [e, h.2.1] at h1
  simp at h1
theorem Row.set {g B N : Nat} {bs : List Bool} {W : World} (h : Row g B N bs W) (i : Nat) (hi : i < N) (v : Bool) : Row g B N (bs.set i v) (W.setCell ⟨g, i, none⟩ (.bool v)) := by
  refine ⟨by simpa using h.1, ?_, (Below.heap_setCell W ⟨g, i, none⟩ _ B h.ne).trans h.2.2⟩
  rw [blk_set h.2.1 i _]
  simp [List.map_set]
set_option maxHeartbeats 1000000 in
theorem not_calls (g B N : Nat) (bs : List Bool) (x : I) (W : World) (h : Row g B N bs W) (h0 : 0 ≤ x.1) (h1 : x.1 < N) :
    Calls Try.prog 47 #[.agg #[.int .i64 x.1, .string x.2.1, .string x.2.2], .pointer (some ⟨B, 0, none⟩)] W fun e W' => e = .returned (.bool (!at_ bs x.1)) ∧ Below W.heap.size W W' := by
  have cB := h.2.2.cell
  have cg := h.cell x.1 h0 h1
  have lB := h.2.2.lt
  have lg := blk_lt h.2.1
  go_enter Try.func47, Try.ntmps47
  go_wp2
  go_ret
  exact ⟨rfl, (Below.refl _ _).alloc (Nat.le_refl _) _⟩
def idxV (q : I → Bool) (l : List I) : Int := match l.findIdx? q with
  | none => -1
  | some i => (i : Int)
theorem findIdx_none {α : Type} {l : List α} {p : α → Bool} (h : ∀ (j : Nat) x, l[j]? = some x → p x = false) : l.findIdx? p = none := by
  rw [List.findIdx?_eq_none_iff]
  intro x hx
  obtain ⟨j, hj, rfl⟩ := List.mem_iff_getElem.1 hx
  exact h j _ (List.getElem?_eq_getElem hj)
theorem findIdx_at {α : Type} {l : List α} {p : α → Bool} {k : Nat} {x : α} (hk : l[k]? = some x) (hp : p x = true) (h : ∀ (j : Nat) y, j < k → l[j]? = some y → p y = false) : l.findIdx? p = some k := by
  obtain ⟨hlt, rfl⟩ := List.getElem?_eq_some_iff.1 hk
  rw [List.findIdx?_eq_some_iff_getElem]
  exact ⟨hlt, hp, fun j hj => by rw [h j _ hj (List.getElem?_eq_getElem (by omega))]; simp⟩
set_option maxRecDepth 100000 in
set_option maxHeartbeats 2000000 in
theorem index_calls (A : Option Addr) (cap : Nat) (l : List I) (g B N : Nat) (bs : List Bool) (w : World) (hC : Kd.C kI w A l.length l) (hR : Row g B N bs w) (hok : ItOk N l) :
    Calls Try.prog 59 #[.slice A l.length cap, .func (.func 47) #[] #[.pointer (some ⟨B, 0, none⟩)]] w fun e w' => e = .returned (.int .i64 (idxV (fun x => !at_ bs x.1) l)) ∧ Below w.heap.size w w' := by
  have hlen : l.length ≤ 9223372036854775807 := hC.2.1
  have e36 : ∀ args w, (callFunc 47 args).run Try.prog w = .ok (.enter 47 args) w := enters_of Try.func47 (by kernel_rfl) rfl
  go_enter Try.func59, Try.ntmps59
  go_wp2
  go_loopw [8] (fun i wr => ∃ k : Nat, i = .int .i64 k ∧ k ≤ l.length ∧ (Hid (∀ (j : Nat) y, j < k → l[j]? = some y → (!at_ bs y.1) = false)) ∧ Below w.heap.size w wr) (fun i _ => l.length - (intOf i).toNat)
  case atStart => exact ⟨0, rfl, Nat.zero_le _, Lib.hid (fun j y hj => absurd hj (Nat.not_lt_zero _)), Below.refl _ _⟩
  case round =>
    obtain ⟨k, rfl, hk, hno, hB⟩ := hrel
    by_cases hlt : k < l.length
    · obtain ⟨ad, x, rfl, hx, c0, c1, c2⟩ := atI (Kd.C_below hC hB) k hlt
      have hm := hok x (List.mem_of_getElem? hx)
      have hcall := not_calls g B N bs x wr (hR.below hB) hm.1 hm.2
      have HX := Lib.hid hx
      clear hx
      cases hv : (!at_ bs x.1) with
      | true =>
        rw [hv] at hcall
        have HV := Lib.hid hv
        clear hv
        go_wp2_with (go_at_call 47; refine hcall.mono ?_; rintro e w' ⟨rfl, hb2⟩)
        go_ret
        have : idxV (fun x => !at_ bs x.1) l = k := by unfold idxV; rw [findIdx_at HX.out HV.out hno.out]
        rw [this]
        exact ⟨rfl, hB.trans (hb2.mono hB.size)⟩
      | false =>
        rw [hv] at hcall
        have HV := Lib.hid hv
        clear hv
        go_wp2_with (go_at_call 47; refine hcall.mono ?_; rintro e w' ⟨rfl, hb2⟩)
        go_roundw
        case rel =>
          refine ⟨k + 1, by go_num, by omega, Lib.hid (fun j y hj hy => ?_), hB.trans (hb2.mono hB.size)⟩
          by_cases ej : j = k
          · subst ej
            rw [HX.out] at hy
            cases hy
            exact HV.out
          · exact hno.out j y (by omega) hy
        case measure => simp [intOf]; omega
    · obtain rfl : k = l.length := by omega
      go_wp2
      go_ret
      have : idxV (fun x => !at_ bs x.1) l = -1 := by
        unfold idxV
        rw [findIdx_none (fun j y hy => hno.out j y (List.getElem?_eq_some_iff.1 hy).1 hy)]
      rw [this]
      exact ⟨rfl, hB⟩
theorem idx_any (q : I → Bool) (l : List I) : decide (idxV q l ≥ 0) = l.any q := by
  unfold idxV
  rw [Bool.eq_iff_iff, decide_eq_true_eq, List.any_eq_true]
  cases h : l.findIdx? q with
  | none =>
    rw [List.findIdx?_eq_none_iff] at h
    constructor
    · intro h'; exact absurd h' (by decide)
    · rintro ⟨x, hx, hq⟩; rw [h x hx] at hq; cases hq
  | some i =>
    rw [List.findIdx?_eq_some_iff_getElem] at h
    obtain ⟨hi, hq, _⟩ := h
    exact ⟨fun _ => ⟨_, List.getElem_mem hi, hq⟩, fun _ => Int.natCast_nonneg i⟩
set_option maxHeartbeats 1000000 in
theorem contains_calls (A : Option Addr) (cap : Nat) (l : List I) (g B N : Nat) (bs : List Bool) (w : World) (hC : Kd.C kI w A l.length l) (hR : Row g B N bs w) (hok : ItOk N l) :
    Calls Try.prog 46 #[.slice A l.length cap, .func (.func 47) #[] #[.pointer (some ⟨B, 0, none⟩)]] w fun e w' => e = .returned (.bool (l.any fun x => !at_ bs x.1)) ∧ Below w.heap.size w w' := by
  have hc := index_calls A cap l g B N bs w hC hR hok
  rw [← idx_any]
  go_enter Try.func46, Try.ntmps46
  go_wp2_with (go_at_call 59; refine hc.mono ?_; rintro e w' ⟨rfl, hb⟩)
  go_ret
  exact ⟨rfl, hb⟩
/-- One production's turn. -/
def stepD (bs : List Bool) (p : P) : List Bool × Bool := if at_ bs p.1 || p.2.1.any (fun x => !at_ bs x.1) then (bs, false) else (bs.set p.1.toNat true, true)
set_option maxRecDepth 100000 in
set_option maxHeartbeats 2000000 in
theorem change_calls (g B N : Nat) (bs : List Bool) (p : P) (A : Option Addr) (c : Nat) (W : World) (hR : Row g B N bs W) (hok : PrOk N p) (hc : p.2.1.length ≤ c) (hC : Kd.C kI W A p.2.1.length p.2.1) :
    Calls Try.prog 45 #[.agg #[.int .i64 p.1, .slice A p.2.1.length c, .int .i64 p.2.2], .pointer (some ⟨B, 0, none⟩)] W fun e W' => e = .returned (.bool (stepD bs p).2) ∧ Row g B N (stepD bs p).1 W' ∧ Turn W.heap.size (fun k => k = g) W W' := by
  obtain ⟨W0, hW0⟩ : ∃ W0, W.alloc (.cells #[.int .i64 p.1, .slice A p.2.1.length c, .int .i64 p.2.2] TP) = W0 := ⟨_, rfl⟩
  have hB0 : Below W.heap.size W W0 := by rw [← hW0]; exact (Below.refl _ _).alloc (Nat.le_refl _) _
  have sz0 : W0.heap.size = W.heap.size + 1 := by rw [← hW0]; simp
  have hR0 := hR.below hB0
  have cB := hR0.2.2.cell
  have cg := hR0.cell p.1 hok.1 hok.2.1
  have hb : W0.heap[W.heap.size]? = some (.cells #[.int .i64 p.1, .slice A p.2.1.length c, .int .i64 p.2.2] TP (0, 0)) := by rw [← hW0]; exact blk_new W _
  have p0 : W0.cell? ⟨W.heap.size, 0, none⟩ = some (.int .i64 p.1) := blk_cell hb 0
  have p1 : W0.cell? ⟨W.heap.size, 1, none⟩ = some (.slice A p.2.1.length c) := blk_cell hb 1
  have hcall := contains_calls A c p.2.1 g B N bs W0 (Kd.C_below hC hB0) hR0 hok.2.2
  have t1 : p.2.1.length ≤ 9223372036854775807 := hC.2.1
  have q0 := hok.1
  have q1 := hok.2.1
  have HBK := Lib.hid hb
  clear hb
  unfold stepD
  cases h1 : at_ bs p.1 with
  | true =>
    rw [h1] at cg
    simp only [Bool.true_or, if_true]
    go_enter Try.func45, Try.ntmps45
    go_wp2
    go_ret
    exact ⟨rfl, hR0, Turn.below hB0⟩
  | false =>
    rw [h1] at cg
    cases h2 : p.2.1.any (fun x => !at_ bs x.1) with
    | true =>
      rw [h2] at hcall
      simp only [Bool.false_or, if_true]
      go_enter Try.func45, Try.ntmps45
      go_wp2_with (go_at_call 46; refine hcall.mono ?_; rintro e w' ⟨rfl, hb⟩)
      go_ret
      have hb' := hB0.trans (hb.mono hB0.size)
      exact ⟨rfl, hR.below hb', Turn.below hb'⟩
    | false =>
      rw [h2] at hcall
      simp only [Bool.or_self, Bool.false_eq_true, if_false]
      go_enter Try.func45, Try.ntmps45
      go_wp2_with (go_at_call 46; refine hcall.mono ?_; rintro e w' ⟨rfl, hb⟩; have hb' := hB0.trans (hb.mono hB0.size); have hR' := hR.below hb'; have cB' := hR'.2.2.cell; have fg := hR'.frozen p.1.toNat; have cg' := hR'.cell p.1 hok.1 hok.2.1; have cp : w'.cell? ⟨W.heap.size, 0, none⟩ = some (.int .i64 p.1) := (hb.cell (p := ⟨W.heap.size, 0, none⟩) (by show W.heap.size < _; omega)).trans p0)
      go_ret
      exact ⟨rfl, hR'.set p.1.toNat (by omega) true, (Turn.below hb').trans (Turn.setCell _ _ rfl)⟩
set_option maxRecDepth 100000 in
set_option maxHeartbeats 2000000 in
theorem derive_calls (u w : World) (A0 A1 A2 : Option Addr) (n0 n1 c0 c1 c2 : Nat) (ps : List P) (hC : Kd.C kP u A2 ps.length ps) (hu : Below u.heap.size u w) (g N : Nat) (bs0 bs1 : List Bool) (hl : bs0.length = N) (hg : u.heap.size ≤ g)
    (hh : w.heap[g]? = some (.cells (bs0.map Value.bool).toArray 4 (0, 0))) (hps : ∀ p ∈ ps, PrOk N p) (k : Nat) (h : growV stepD ps k bs0 = some bs1) :
    Calls Try.prog 28 #[.agg #[.slice A0 n0 c0, .slice A1 n1 c1, .slice A2 ps.length c2], .slice (some ⟨g, 0, none⟩) N N] w fun e w' => e = .returned (.slice (some ⟨g, 0, none⟩) N N) ∧ bs1.length = N ∧ w'.heap[g]? = some (.cells (bs1.map Value.bool).toArray 4 (0, 0)) ∧ Turn w.heap.size (fun k => k = g) w w' := by
  have hlt := blk_lt hh
  obtain ⟨W1, hW1⟩ : ∃ W1, (w.alloc (.cells #[.slice A0 n0 c0, .slice A1 n1 c1, .slice A2 ps.length c2] TF)).alloc (.cells #[.slice (some ⟨g, 0, none⟩) N N] 33) = W1 := ⟨_, rfl⟩
  have sz1 : W1.heap.size = w.heap.size + 2 := by rw [← hW1]; simp
  have tW : Turn w.heap.size (fun k => k = g) w W1 := by rw [← hW1]; exact (Turn.alloc _).trans (Turn.alloc _)
  have bB : Boxed W1 (w.heap.size + 1) 33 (.slice (some ⟨g, 0, none⟩) N N) := by rw [← hW1]; have := Boxed.new (w.alloc (.cells #[.slice A0 n0 c0, .slice A1 n1 c1, .slice A2 ps.length c2] TF)) 33 (.slice (some ⟨g, 0, none⟩) N N); simpa using this
  have hg1 : W1.heap[g]? = some (.cells (bs0.map Value.bool).toArray 4 (0, 0)) := by rw [← hW1]; exact blk_alloc (blk_alloc hh _) _
  have hu1 : Below u.heap.size u W1 := by rw [← hW1]; exact (hu.alloc hu.size _).alloc (by have := hu.size; simp; omega) _
  have f0 : W1.heap[w.heap.size]? = some (.cells #[.slice A0 n0 c0, .slice A1 n1 c1, .slice A2 ps.length c2] TF (0, 0)) := by rw [← hW1]; exact blk_alloc (blk_new w _) _
  have hen : ∀ args w, (callFunc 45 args).run Try.prog w = .ok (.enter 45 args) w := enters_of Try.func45 (by kernel_rfl) rfl
  have hgr := grow_calls 45 #[.pointer (some ⟨w.heap.size + 1, 0, none⟩)] hen u W1 A0 A1 A2 n0 n1 c0 c1 c2 ps (fun k => k = g) (fun k hk => by omega) hu1 hC (fun bs W => Row g (w.heap.size + 1) N bs W)
    (fun s W W' ht hR => ⟨hR.1, ht.same g _ hR.2.1 (by omega) (.inr rfl), ht.same _ _ hR.2.2 (by omega) (.inr rfl)⟩) stepD
    (fun x s W hsz hb hR => change_calls g (w.heap.size + 1) N s x.p x.1.2.1 x.1.2.2 W hR (hps _ x.2.2.2) x.2.1 (Kd.C_below x.2.2.1 hb)) k bs0 bs1 ⟨hl, hg1, bB⟩ h
  have c0' : W1.cell? ⟨w.heap.size, 0, none⟩ = some (.slice A0 n0 c0) := blk_cell f0 0
  have c1' : W1.cell? ⟨w.heap.size, 1, none⟩ = some (.slice A1 n1 c1) := blk_cell f0 1
  have c2' : W1.cell? ⟨w.heap.size, 2, none⟩ = some (.slice A2 ps.length c2) := blk_cell f0 2
  have HH := Lib.hid h
  clear f0 hg1 h hh bB
  go_enter Try.func28, Try.ntmps28
  go_wp2_with (go_at_call 34; refine hgr.mono ?_; rintro e w' ⟨rfl, hR', ht'⟩; have cB' := hR'.2.2.cell)
  go_ret
  exact ⟨rfl, hR'.1, hR'.2.1, tW.trans (ht'.mono (by omega) (fun _ h => h))⟩
theorem size_calls (A0 A1 A2 : Option Addr) (n0 n1 n2 c0 c1 c2 : Nat) (w : World) (h : n0 + n1 ≤ 1000000) : Calls Try.prog 27 #[.agg #[.slice A0 n0 c0, .slice A1 n1 c1, .slice A2 n2 c2]] w fun e w' => e = .returned (.int .i64 ((n0 + n1 : Nat) : Int)) ∧ Below w.heap.size w w' := by
  go_enter Try.func27, Try.ntmps27
  go_wp2
  go_ret
  exact ⟨by go_num, (Below.refl _ _).alloc (Nat.le_refl _) _⟩
theorem infoB : (Try.prog.info? 4).map (fun i => (i.zero, i.size, i.bytes)) = some (some (.bool false), 1, 1) := by kernel_rfl
theorem make_bools (N : Nat) (hN : N ≤ 1000000) (w : World) : (Instr.makeSlice 33 (.int .i64 (N : Int)) (.int .i64 (N : Int))).run Try.prog w = .ok (.slice (some ⟨w.heap.size, 0, none⟩) N N) (w.alloc (.cells (Array.replicate N (Value.bool false)) 4)) := by
  obtain ⟨i0, hi, hz0, hz1, hz2⟩ := info_parts infoB
  have h := run_makeSlice w 33 4 i0 (.bool false) Try.underlying33 hi hz0 .i64 .i64 (N : Int) (N : Int) (by omega) (by omega) (by rw [hz1]; simp; omega) (by rw [hz2]; omega) (by omega)
  rw [h, hz1]
  simp only [Int.toNat_natCast, Nat.mul_one]
  have e : madeCells (Value.bool false).cells N = Array.replicate N (Value.bool false) := by
    apply Array.toList_inj.1
    rw [show (Value.bool false).cells = #[.bool false] from rfl, toList_madeCells_one]
    simp
  rw [e]
set_option maxRecDepth 100000 in
set_option maxHeartbeats 2000000 in
theorem empty_calls (w : World) (A0 A1 A2 : Option Addr) (n0 n1 c0 c1 c2 N : Nat) (hNe : n0 + n1 = N) (ps : List P) (hC : Kd.C kP w A2 ps.length ps) (hN : N ≤ 1000000) (hps : ∀ p ∈ ps, PrOk N p) (k : Nat) (bs1 : List Bool) (h : growV stepD ps k (List.replicate N false) = some bs1) :
    Calls Try.prog 11 #[.agg #[.slice A0 n0 c0, .slice A1 n1 c1, .slice A2 ps.length c2]] w fun e w' => ∃ g, e = .returned (.slice (some ⟨g, 0, none⟩) N N) ∧ bs1.length = N ∧ w.heap.size ≤ g ∧ w'.heap[g]? = some (.cells (bs1.map Value.bool).toArray 4 (0, 0)) ∧ Below w.heap.size w w' := by
  refine (callsIn_wide (n := 3)).1 ?_
  refine callsIn_of_wp Try.func11 rfl trivial ?_ rfl
  simp only [Try.ntmps11, List.size_toArray, List.length_cons, List.length_nil, Nat.reduceAdd, Nat.reduceSub, Array.replicate_succ, Array.replicate_zero, List.push_toArray, List.append_toArray, List.nil_append, List.cons_append]
  gi_wp2
  rename_i hK2
  obtain ⟨W0, hW0⟩ : ∃ W0, w.alloc (.cells #[.slice A0 n0 c0, .slice A1 n1 c1, .slice A2 ps.length c2] TF) = W0 := ⟨_, rfl⟩
  have f0 : W0.heap[w.heap.size]? = some (.cells #[.slice A0 n0 c0, .slice A1 n1 c1, .slice A2 ps.length c2] TF (0, 0)) := by rw [← hW0]; exact blk_new w _
  have hB0 : Below w.heap.size w W0.drew := by rw [← hW0]; exact below_drew ((Below.refl _ _).alloc (Nat.le_refl _) _)
  have sz0 : W0.drew.heap.size = w.heap.size + 1 := by rw [← hW0]; simp [World.drew]
  rw [hW0]
  clear hW0
  have c0' : W0.drew.cell? ⟨w.heap.size, 0, none⟩ = some (.slice A0 n0 c0) := blk_cell f0 0
  have c1' : W0.drew.cell? ⟨w.heap.size, 1, none⟩ = some (.slice A1 n1 c1) := blk_cell f0 1
  have c2' : W0.drew.cell? ⟨w.heap.size, 2, none⟩ = some (.slice A2 ps.length c2) := blk_cell f0 2
  have hs := fun W => size_calls A0 A1 A2 n0 n1 ps.length c0 c1 c2 W (by rw [hNe]; exact hN)
  rw [hNe] at hs
  have hmk := make_bools N hN
  have h27 : Fence.wide.fn 27 := trivial
  have h28 : Fence.wide.fn 28 := trivial
  have HH := Lib.hid h
  clear h f0
  gi_region_with (first
    | (gi_at_call 27
       refine (callsIn_wide.2 (hs _)).mono ?_
       rintro e w1 ⟨rfl, hB1⟩
       have d0 := pw_cell_below hB1 c0'
       have d1 := pw_cell_below hB1 c1'
       have d2 := pw_cell_below hB1 c2'
       have hl1 : w.heap.size < w1.heap.size := by have := hB1.size; omega
       have hB01 := hB0.trans (hB1.mono hB0.size)
       have hd := derive_calls w (w1.alloc (.cells (Array.replicate N (Value.bool false)) 4)) A0 A1 A2 n0 n1 c0 c1 c2 ps hC (hB01.alloc hB01.size _) w1.heap.size N (List.replicate N false) bs1 (by simp) hB01.size (by have := blk_new w1 (.cells (Array.replicate N (Value.bool false)) 4); simpa using this) hps k HH.out)
    | (gi_at_call 28
       refine (callsIn_wide.2 hd).mono ?_
       clear hd
       rintro e w2 ⟨rfl, hl2, hh2, ht2⟩))
  all_goals
    refine hK2 _ _ ?_
    gi_wp2
    refine bodyPost_ret (results_tmp rfl _ _ _) rfl ?_
    have hB2 : Below w.heap.size w w2 := below_turn (hB01.alloc hB01.size _) ht2 (Nat.le_refl _) (by have := hB01.size; simp; omega) (fun k hk => by have := hB01.size; omega)
    exact ⟨_, rfl, hl2, hB01.size, hh2, hB2⟩
def ups (N j : Nat) : List Bool := List.replicate j true ++ List.replicate (N - j) false
theorem ups_set (N j : Nat) (h : j < N) : (ups N j).set j true = ups N (j + 1) := by
  unfold ups
  rw [List.set_append_right _ _ (by simp), List.length_replicate, Nat.sub_self, show N - j = (N - (j + 1)) + 1 by omega, List.replicate_succ, List.set_cons_zero, List.replicate_succ', List.append_assoc]
  rfl
set_option maxRecDepth 100000 in
set_option maxHeartbeats 2000000 in
theorem useful_calls (w : World) (A0 A1 A2 : Option Addr) (n0 n1 c0 c1 c2 N : Nat) (hNe : n0 + n1 = N) (ps : List P) (hC : Kd.C kP w A2 ps.length ps) (hN : N ≤ 1000000) (hps : ∀ p ∈ ps, PrOk N p) (k : Nat) (bs1 : List Bool) (h : growV stepD ps k (ups N n0) = some bs1) :
    Calls Try.prog 10 #[.agg #[.slice A0 n0 c0, .slice A1 n1 c1, .slice A2 ps.length c2]] w fun e w' => ∃ g, e = .returned (.slice (some ⟨g, 0, none⟩) N N) ∧ bs1.length = N ∧ w.heap.size ≤ g ∧ w'.heap[g]? = some (.cells (bs1.map Value.bool).toArray 4 (0, 0)) ∧ Below w.heap.size w w' := by
  have hs := fun W => size_calls A0 A1 A2 n0 n1 ps.length c0 c1 c2 W (by rw [hNe]; exact hN)
  rw [hNe] at hs
  obtain ⟨W0, hW0⟩ : ∃ W0, w.alloc (.cells #[.slice A0 n0 c0, .slice A1 n1 c1, .slice A2 ps.length c2] TF) = W0 := ⟨_, rfl⟩
  have f0 : W0.heap[w.heap.size]? = some (.cells #[.slice A0 n0 c0, .slice A1 n1 c1, .slice A2 ps.length c2] TF (0, 0)) := by rw [← hW0]; exact blk_new w _
  have hB0 : Below w.heap.size w W0 := by rw [← hW0]; exact (Below.refl _ _).alloc (Nat.le_refl _) _
  have sz0 : W0.heap.size = w.heap.size + 1 := by rw [← hW0]; simp
  have c0' : W0.cell? ⟨w.heap.size, 0, none⟩ = some (.slice A0 n0 c0) := blk_cell f0 0
  have c1' : W0.cell? ⟨w.heap.size, 1, none⟩ = some (.slice A1 n1 c1) := blk_cell f0 1
  have c2' : W0.cell? ⟨w.heap.size, 2, none⟩ = some (.slice A2 ps.length c2) := blk_cell f0 2
  have hmk := make_bools N hN
  have HH := Lib.hid h
  have F0 := Lib.hid f0
  clear h f0
  go_enter Try.func10, Try.ntmps10
  go_wp2_with (go_at_call 27; refine (hs _).mono ?_; rintro e w1 ⟨rfl, hB1⟩; have d0 := pw_cell_below hB1 c0'; have d1 := pw_cell_below hB1 c1'; have d2 := pw_cell_below hB1 c2'; have hl1 : w.heap.size < w1.heap.size := by have := hB1.size; omega)
  have hB01 := hB0.trans (hB1.mono hB0.size)
  have fb : w1.heap[w.heap.size]? = some (.cells #[.slice A0 n0 c0, .slice A1 n1 c1, .slice A2 ps.length c2] TF (0, 0)) := (hB1.block _ (by omega)).trans F0.out
  obtain ⟨W2, hW2⟩ : ∃ W2, w1.alloc (.cells (Array.replicate N (Value.bool false)) 4) = W2 := ⟨_, rfl⟩
  have g0 : W2.heap[w1.heap.size]? = some (.cells ((ups N 0).map Value.bool).toArray 4 (0, 0)) := by rw [← hW2]; have := blk_new w1 (.cells (Array.replicate N (Value.bool false)) 4); simpa [ups] using this
  have fb2 : W2.heap[w.heap.size]? = some (.cells #[.slice A0 n0 c0, .slice A1 n1 c1, .slice A2 ps.length c2] TF (0, 0)) := by rw [← hW2]; exact blk_alloc fb _
  have hB2 : Below w.heap.size w W2 := by rw [← hW2]; exact hB01.alloc hB01.size _
  rw [hW2]
  clear hW2 d0 d1 d2 hB1 c0' c1' c2' hs hmk hW0 hB0 F0 fb sz0
  go_loopw [11] (fun i wr => ∃ j : Nat, i = .int .i64 j ∧ j ≤ n0 ∧ wr.heap[w1.heap.size]? = some (.cells ((ups N j).map Value.bool).toArray 4 (0, 0)) ∧ wr.heap[w.heap.size]? = some (.cells #[.slice A0 n0 c0, .slice A1 n1 c1, .slice A2 ps.length c2] TF (0, 0)) ∧ Below w.heap.size w wr) (fun i _ => n0 - (intOf i).toNat)
  case atStart => exact ⟨0, rfl, Nat.zero_le _, g0, fb2, hB2⟩
  case round =>
    obtain ⟨j, rfl, hj, hg, hf, hb⟩ := hrel
    by_cases hlt : j < n0
    · have cg : wr.cell? ⟨w1.heap.size, j, none⟩ = some (.bool false) := by
        rw [blk_cell hg j]
        unfold ups
        rw [List.map_append, List.map_replicate, List.map_replicate, List.getElem?_toArray, List.getElem?_append_right (by simp), List.length_replicate, Nat.sub_self, List.getElem?_replicate]
        simp; omega
      have fg := blk_frozen hg j
      have hs := blk_set hg j (.bool true)
      have e1 : (((ups N j).map Value.bool).toArray).setIfInBounds j (.bool true) = ((ups N (j + 1)).map Value.bool).toArray := by
        rw [← ups_set N j (by omega)]
        simp [List.map_set]
      rw [e1] at hs
      have hf2 := blk_far hf (p := ⟨w1.heap.size, j, none⟩) (by show w.heap.size ≠ w1.heap.size; omega) (.bool true)
      have HS := Lib.hid hs
      have HF2 := Lib.hid hf2
      clear hs hf2 e1
      go_wp2
      go_roundw
      case rel => exact ⟨j + 1, by go_num, by omega, HS.out, HF2.out, hb.setCell (p := ⟨w1.heap.size, j, none⟩) (by show w.heap.size ≤ w1.heap.size; omega) _⟩
      case measure => simp [intOf]; omega
    · obtain rfl : j = n0 := by omega
      have k0 : wr.cell? ⟨w.heap.size, 0, none⟩ = some (.slice A0 j c0) := blk_cell hf 0
      have k1 : wr.cell? ⟨w.heap.size, 1, none⟩ = some (.slice A1 n1 c1) := blk_cell hf 1
      have k2 : wr.cell? ⟨w.heap.size, 2, none⟩ = some (.slice A2 ps.length c2) := blk_cell hf 2
      have hul : (ups N j).length = N := by unfold ups; simp; omega
      have hd := derive_calls w wr A0 A1 A2 j n1 c0 c1 c2 ps hC hb w1.heap.size N (ups N j) bs1 hul (by omega) hg hps k HH.out
      clear hg hf hul
      go_wp2_with (go_at_call 28; refine hd.mono ?_; rintro e w2 ⟨rfl, hl2, hh2, ht2⟩)
      go_ret
      exact ⟨_, rfl, hl2, by omega, hh2, below_turn hb ht2 (Nat.le_refl _) hb.size (fun k hk => by omega)⟩
end Go.Proofs.Ytkfpmolplemdlaa.Deri
