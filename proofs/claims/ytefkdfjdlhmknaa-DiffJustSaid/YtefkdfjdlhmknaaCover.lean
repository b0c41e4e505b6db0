/- diff.cover walked: the nodes that cover a byte, from the root on, as an iterator that keeps its place in a variable of its own; and diff.Marks over it. Over any kind of trees that lie as the program's nodes do. No condition. -/
import Derived.Test.YtefkdfjdlhmknaaProg
import Derived.Test.YtefkdfjdlhmknaaWWords
import Derived.Test.YtefkdfjdlhmknaaRound
import Derived.Test.YtefkdfjdlhmknaaRangeG
import Derived.Test.YtefkdfjdlhmknaaFrom
import Derived.Deep.LoopGhost
namespace Go.Proofs.Ytefkdfjdlhmknaa.Cover
open Go Go.RowKit Go.Shelf Go.Proofs.YtefkdfjdlhmknaaW.PrintWords Go.Proofs.Ytefkdfjdlhmknaa.Round Go.Proofs.Ytefkdfjdlhmknaa.RangeG
attribute [local go_sem] Oper.semAt_some
set_option linter.unusedVariables false
set_option linter.unusedSimpArgs false

/-- A kind of trees that lie as the program's nodes do. -/
structure NodeK (τ : Type) where
  d : Kd τ
  kind : τ → ByteArray
  named : τ → Bool
  field : τ → ByteArray
  from_ : τ → Int
  to_ : τ → Int
  bad : τ → Int
  kids : τ → List τ
  sz : τ → Nat
  sz_kid : ∀ x y, y ∈ kids x → sz y < sz x
  size : d.sz = 7
  open_ : ∀ {w : World} {x : τ} {cs : List Value}, d.K w x cs → ∃ A c, cs = [.string (kind x), .bool (named x), .string (field x), .int .i64 (from_ x), .int .i64 (to_ x), .int .i64 (bad x), .slice A (kids x).length c] ∧ (kids x).length ≤ c ∧ d.C w A (kids x).length (kids x)

section
variable {τ : Type} (N : NodeK τ)
def NodeK.cells (x : τ) (A : Option Addr) (c : Nat) : List Value := [.string (N.kind x), .bool (N.named x), .string (N.field x), .int .i64 (N.from_ x), .int .i64 (N.to_ x), .int .i64 (N.bad x), .slice A (N.kids x).length c]
def NodeK.has (a : Int) (x : τ) : Bool := decide (N.from_ x ≤ a) && decide (N.to_ x > a)
/-- The nodes that cover a byte, from one on. -/
def NodeK.cov (a : Int) : Nat → τ → List τ
  | 0, _ => []
  | f + 1, x => if N.has a x = true then x :: (match (N.kids x).find? (N.has a) with
    | none => []
    | some y => NodeK.cov a f y) else []

theorem atN {w : World} {A : Option Addr} {n : Nat} {xs : List τ} (h : N.d.C w A n xs) (k : Nat) (hk : k < n) :
    ∃ ad x A6 c6, A = some ad ∧ xs[k]? = some x ∧ (N.kids x).length ≤ c6 ∧ N.d.C w A6 (N.kids x).length (N.kids x) ∧
      w.cell? (ad.add (k * 7)) = some (.string (N.kind x)) ∧ w.cell? ⟨(ad.add (k * 7)).block, (ad.add (k * 7)).off + 1, none⟩ = some (.bool (N.named x)) ∧ w.cell? ⟨(ad.add (k * 7)).block, (ad.add (k * 7)).off + 2, none⟩ = some (.string (N.field x)) ∧
      w.cell? ⟨(ad.add (k * 7)).block, (ad.add (k * 7)).off + 3, none⟩ = some (.int .i64 (N.from_ x)) ∧ w.cell? ⟨(ad.add (k * 7)).block, (ad.add (k * 7)).off + 4, none⟩ = some (.int .i64 (N.to_ x)) ∧ w.cell? ⟨(ad.add (k * 7)).block, (ad.add (k * 7)).off + 5, none⟩ = some (.int .i64 (N.bad x)) ∧
      w.cell? ⟨(ad.add (k * 7)).block, (ad.add (k * 7)).off + 6, none⟩ = some (.slice A6 (N.kids x).length c6) := by
  obtain ⟨h1, h2, h3⟩ := h
  obtain ⟨ad, e, hc⟩ := h3 (by omega)
  have hk' : k < xs.length := by omega
  obtain ⟨c, hl, hK, hcell⟩ := hc k _ (List.getElem?_eq_getElem hk')
  obtain ⟨A6, c6, rfl, hl6, hC6⟩ := N.open_ hK
  have hc0 : ∀ j u, (N.cells xs[k] A6 c6)[j]? = some u → w.cell? (ad.add (k * 7 + j)) = some u := by
    have := hcell
    rw [N.size] at this
    exact this
  exact ⟨ad, xs[k], A6, c6, e, List.getElem?_eq_getElem hk', hl6, hC6, hc0 0 _ rfl, by rw [← add_field _ _ 1 (by omega)]; exact hc0 1 _ rfl, by rw [← add_field _ _ 2 (by omega)]; exact hc0 2 _ rfl, by rw [← add_field _ _ 3 (by omega)]; exact hc0 3 _ rfl,
    by rw [← add_field _ _ 4 (by omega)]; exact hc0 4 _ rfl, by rw [← add_field _ _ 5 (by omega)]; exact hc0 5 _ rfl, by rw [← add_field _ _ 6 (by omega)]; exact hc0 6 _ rfl⟩

set_option maxHeartbeats 1000000 in
/-- 'has': does a node cover the byte? -/
theorem has_calls (x : τ) (A : Option Addr) (c : Nat) (a : Int) (Ba : Nat) (w : World) (hb : w.cell? ⟨Ba, 0, none⟩ = some (.int .i64 a)) :
    Calls Try.prog 36 #[.agg (N.cells x A c).toArray, .pointer (some ⟨Ba, 0, none⟩)] w fun e w' => e = .returned (.bool (N.has a x)) ∧ Below w.heap.size w w' := by
  unfold NodeK.has NodeK.cells
  generalize N.from_ x = fr
  generalize N.to_ x = tt
  generalize (Value.slice A (N.kids x).length c) = v6
  have hlt := World.block_lt_of_cell? w _ hb
  by_cases h1 : fr ≤ a
  · by_cases h2 : tt > a
    · have e : (decide (fr ≤ a) && decide (tt > a)) = true := by simp [h1]; omega
      rw [e]
      go_enter Try.func36, Try.ntmps36
      go_wp2
      go_ret
      exact ⟨rfl, (Below.refl _ _).alloc (Nat.le_refl _) _⟩
    · have e : (decide (fr ≤ a) && decide (tt > a)) = false := by simp; omega
      rw [e]
      go_enter Try.func36, Try.ntmps36
      go_wp2
      go_ret
      exact ⟨rfl, (Below.refl _ _).alloc (Nat.le_refl _) _⟩
  · have e : (decide (fr ≤ a) && decide (tt > a)) = false := by simp; omega
    have hd : decide (fr ≤ a) = false := by simpa using h1
    rw [e]
    go_enter Try.func36, Try.ntmps36
    go_wp2
    go_ret
    exact ⟨rfl, (Below.refl _ _).alloc (Nat.le_refl _) _⟩

def idxV (a : Int) (l : List τ) : Int := match l.findIdx? (N.has a) with
  | none => -1
  | some i => (i : Int)
def RetInt (r : Int) (w : World) (e : Ending) (w' : World) : Prop := e = .returned (.int .i64 r) ∧ Below w.heap.size w w'
theorem findIdx_none {l : List τ} {p : τ → Bool} (h : ∀ (j : Nat) x, l[j]? = some x → p x = false) : l.findIdx? p = none := by
  rw [List.findIdx?_eq_none_iff]
  intro x hx
  obtain ⟨j, hj, rfl⟩ := List.mem_iff_getElem.1 hx
  exact h j _ (List.getElem?_eq_getElem hj)
theorem findIdx_at {l : List τ} {p : τ → Bool} {k : Nat} {x : τ} (hk : l[k]? = some x) (hp : p x = true) (h : ∀ (j : Nat) y, j < k → l[j]? = some y → p y = false) : l.findIdx? p = some k := by
  obtain ⟨hlt, rfl⟩ := List.getElem?_eq_some_iff.1 hk
  rw [List.findIdx?_eq_some_iff_getElem]
  exact ⟨hlt, hp, fun j hj => by rw [h j _ hj (List.getElem?_eq_getElem (by omega))]; simp⟩

set_option maxRecDepth 100000 in
set_option maxHeartbeats 2000000 in
theorem index_calls (A : Option Addr) (cap : Nat) (l : List τ) (a : Int) (Ba : Nat) (w : World) (hC : N.d.C w A l.length l) (hb : w.cell? ⟨Ba, 0, none⟩ = some (.int .i64 a)) :
    Calls Try.prog 37 #[.slice A l.length cap, .func (.func 36) #[] #[.pointer (some ⟨Ba, 0, none⟩)]] w (RetInt (idxV N a l) w) := by
  have hlen : l.length ≤ 9223372036854775807 := hC.2.1
  have hBa := World.block_lt_of_cell? w _ hb
  have e36 : ∀ args w, (callFunc 36 args).run Try.prog w = .ok (.enter 36 args) w := enters_of Try.func36 (by kernel_rfl) rfl
  go_enter Try.func37, Try.ntmps37
  go_wp2
  go_loopw [8] (fun i wr => ∃ k : Nat, i = .int .i64 k ∧ k ≤ l.length ∧ (Hid (∀ (j : Nat) y, j < k → l[j]? = some y → N.has a y = false)) ∧ Below w.heap.size w wr) (fun i _ => l.length - (intOf i).toNat)
  case atStart => exact ⟨0, rfl, Nat.zero_le _, Lib.hid (fun j y hj => absurd hj (Nat.not_lt_zero _)), Below.refl _ _⟩
  case round =>
    obtain ⟨k, rfl, hk, hno, hB⟩ := hrel
    by_cases hlt : k < l.length
    · obtain ⟨ad, x, A6, c6, rfl, hx, hl6, hC6, c0, c1, c2, c3, c4, c5, c6'⟩ := atN N (Kd.C_below hC hB) k hlt
      have hb' := (hB.cell (p := ⟨Ba, 0, none⟩) hBa).trans hb
      have hcall := has_calls N x A6 c6 a Ba wr hb'
      simp only [NodeK.cells] at hcall
      have HX := Lib.hid hx
      clear hx hC6
      cases hv : N.has a x with
      | true =>
        rw [hv] at hcall
        have HV := Lib.hid hv
        clear hv
        go_wp2_with (go_at_call 36; refine hcall.mono ?_; rintro e w' ⟨rfl, hb2⟩)
        go_ret
        have : idxV N a l = k := by unfold idxV; rw [findIdx_at HX.out HV.out hno.out]
        rw [this]
        exact ⟨rfl, hB.trans (hb2.mono hB.size)⟩
      | false =>
        rw [hv] at hcall
        have HV := Lib.hid hv
        clear hv
        go_wp2_with (go_at_call 36; refine hcall.mono ?_; rintro e w' ⟨rfl, hb2⟩)
        go_roundw
        case rel =>
          refine ⟨k + 1, by go_num, by omega, Lib.hid (fun j y hj hy => ?_), hB.trans (hb2.mono hB.size)⟩
          by_cases ej : j = k
          · subst ej
            rw [HX.out] at hy
            cases hy
            exact HV.out
          · exact hno.out j y (by omega) hy
        case measure => simp [intOf]; omega
    · obtain rfl : k = l.length := by omega
      go_wp2
      go_ret
      have : idxV N a l = -1 := by
        unfold idxV
        rw [findIdx_none (fun j y hy => hno.out j y (List.getElem?_eq_some_iff.1 hy).1 hy)]
      rw [this]
      exact ⟨rfl, hB⟩

theorem cov_true (a : Int) (f : Nat) (x : τ) (h : N.has a x = true) : N.cov a (f + 1) x = x :: (match (N.kids x).find? (N.has a) with
    | none => []
    | some y => N.cov a f y) := by
  show (if N.has a x = true then _ else _) = _
  rw [if_pos h]
/-- What is handed to a round: a node, with where its kids lie. -/
abbrev NodeK.V (N : NodeK τ) := τ × Option Addr × Nat
def NodeK.enc (x : τ × Option Addr × Nat) : Array Value := #[.agg (N.cells x.1 x.2.1 x.2.2).toArray]

set_option maxRecDepth 100000 in
set_option maxHeartbeats 4000000 in
theorem cover_stops (n Ba Bn : Nat) (hn : 1 ≤ n) (x0 : τ) (A0 : Option Addr) (c0 : Nat) (a : Int) (w0 w : World) (hw0 : Below w0.heap.size w0 w) (hl0 : (N.kids x0).length ≤ c0) (hC0 : N.d.C w0 A0 (N.kids x0).length (N.kids x0))
    (hne : Ba ≠ Bn) (hBn0 : w0.heap.size ≤ Bn) (hBa : w.heap[Ba]? = some (.cells #[.int .i64 a] 3 (0, 0))) (hBn : w.heap[Bn]? = some (.cells (N.cells x0 A0 c0).toArray 24 (0, 0))) :
    SeqG n Try.prog 35 #[.pointer (some ⟨Ba, 0, none⟩), .pointer (some ⟨Bn, 0, none⟩)] N.enc (KeepL w0.heap.size [Ba, Bn]) (fun k => k = Bn)
      (fun ys => ys.map (·.1) = N.cov a (N.sz x0 + 1) x0) (fun pre => pre.map (·.1) <+: N.cov a (N.sz x0 + 1) x0) (N.cov a (N.sz x0 + 1) x0).length w := by
  intro l J Jx W hW hJ hJx hY h0
  have hBaW := hW.same Ba _ hBa (fun h => h) (.inr rfl)
  have hBnW := hW.same Bn _ hBn (fun h => h) (.inr rfl)
  have hwW : Below w0.heap.size w0 W := below_turn hw0 hW (Nat.le_refl _) hw0.size (fun k h => h.elim)
  have h36 : Fence.wide.fn 36 := trivial
  have h37 : Fence.wide.fn 37 := trivial
  have e36 : ∀ args w, (callFunc 36 args).run Try.prog w = .ok (.enter 36 args) w := enters_of Try.func36 (by kernel_rfl) rfl
  clear hW hw0 hBa hBn
  refine callsIn_of_wp Try.func35 rfl trivial ?_ rfl
  simp only [Try.ntmps35, List.size_toArray, List.length_cons, List.length_nil, Nat.reduceAdd, Nat.reduceSub, Array.replicate_succ, Array.replicate_zero, List.push_toArray, List.append_toArray, List.nil_append, List.cons_append]
  refine wpIn_wide.2 (wp_scope_straight ((wpIn_wide (n := n)).1 ?_))
  gi_wp2
  refine wpIn_label ?_
  gi_wp2
  obtain ⟨R, hRd⟩ : ∃ R : Nat → World → Prop, R = fun k wr => ∃ (x : τ) (A : Option Addr) (c : Nat) (pre : List (τ × Option Addr × Nat)), J pre wr ∧ N.sz x < k ∧ (N.kids x).length ≤ c ∧ N.d.C w0 A (N.kids x).length (N.kids x) ∧
      wr.heap[Ba]? = some (.cells #[.int .i64 a] 3 (0, 0)) ∧ wr.heap[Bn]? = some (.cells (N.cells x A c).toArray 24 (0, 0)) ∧ Below w0.heap.size w0 wr ∧ W.heap.size ≤ wr.heap.size ∧ pre.map (·.1) ++ N.cov a k x = N.cov a (N.sz x0 + 1) x0 := ⟨_, rfl⟩
  have R0 : R (N.sz x0 + 1) W := by
    rw [hRd]
    exact ⟨x0, A0, c0, [], h0, by omega, hl0, hC0, hBaW, hBnW, hwW, Nat.le_refl _, rfl⟩
  gi_loopw [] (fun wr => ∃ k, R k wr) (fun wr => leastOf fun k => R k wr)
  case atStart => exact ⟨_, R0⟩
  case round =>
    have hls := leastOf_spec hrel
    obtain ⟨K, hK⟩ : ∃ K, (leastOf fun k => R k wr) = K := ⟨_, rfl⟩
    rw [hK] at hls
    obtain ⟨hRk, _⟩ := hls
    clear hrel R0
    rw [hRd] at hRk
    obtain ⟨x, A, c, pre, hJs, hsz, hlc, hC, hba, hbn, hB, hsW, hE⟩ := hRk
    obtain ⟨f, rfl⟩ : ∃ m, K = m + 1 := ⟨K - 1, by omega⟩
    have ca : wr.cell? ⟨Ba, 0, none⟩ = some (.int .i64 a) := blk_cell hba 0
    have n0 : wr.cell? ⟨Bn, 0, none⟩ = some (.string (N.kind x)) := blk_cell hbn 0
    have n1 : wr.cell? ⟨Bn, 1, none⟩ = some (.bool (N.named x)) := blk_cell hbn 1
    have n2 : wr.cell? ⟨Bn, 2, none⟩ = some (.string (N.field x)) := blk_cell hbn 2
    have n3 : wr.cell? ⟨Bn, 3, none⟩ = some (.int .i64 (N.from_ x)) := blk_cell hbn 3
    have n4 : wr.cell? ⟨Bn, 4, none⟩ = some (.int .i64 (N.to_ x)) := blk_cell hbn 4
    have n5 : wr.cell? ⟨Bn, 5, none⟩ = some (.int .i64 (N.bad x)) := blk_cell hbn 5
    have n6 : wr.cell? ⟨Bn, 6, none⟩ = some (.slice A (N.kids x).length c) := blk_cell hbn 6
    have hcall := has_calls N x A c a Ba wr ca
    simp only [NodeK.cells] at hcall
    cases hv : N.has a x with
    | false =>
      have hcov : N.cov a (f + 1) x = [] := by unfold NodeK.cov; rw [if_neg (by rw [hv]; simp)]
      rw [hcov, List.append_nil] at hE
      rw [hv] at hcall
      have HE := Lib.hid hE
      have HRd := Lib.hid hRd
      have HK := Lib.hid hK
      clear hE hv hcov hRd hK hY hBaW hBnW hba hbn
      gi_wp2_with (gi_at_call 36; refine (callsIn_wide.2 hcall).mono ?_; rintro e w' ⟨rfl, hb2⟩)
      rw [Exit.noGoto_normal]
      go_end0
      exact ⟨⟨_, rfl⟩, .inl ⟨pre, HE.out, hJ _ _ _ hJs (Turn.below hb2)⟩⟩
    | true =>
      have hcov := cov_true N a f x hv
      rw [hv] at hcall
      rw [hcov] at hE
      have HE := Lib.hid hE
      have HRd := Lib.hid hRd
      have HK := Lib.hid hK
      have HBA := Lib.hid hba
      have HBN := Lib.hid hbn
      have hlt : pre.length < (N.cov a (N.sz x0 + 1) x0).length := by rw [← hE]; simp
      have ltA := blk_lt hba
      have ltN := blk_lt hbn
      clear hE hv hcov hRd hK hBaW hBnW hba hbn
      gi_wp2_with
        (gi_at_call 36
         refine (callsIn_wide.2 hcall).mono ?_
         rintro e w1 ⟨rfl, hb2⟩
         have hbn1 := (hb2.block Bn ltN).trans HBN.out
         have m0 : w1.cell? ⟨Bn, 0, none⟩ = some (.string (N.kind x)) := blk_cell hbn1 0
         have m1 : w1.cell? ⟨Bn, 1, none⟩ = some (.bool (N.named x)) := blk_cell hbn1 1
         have m2 : w1.cell? ⟨Bn, 2, none⟩ = some (.string (N.field x)) := blk_cell hbn1 2
         have m3 : w1.cell? ⟨Bn, 3, none⟩ = some (.int .i64 (N.from_ x)) := blk_cell hbn1 3
         have m4 : w1.cell? ⟨Bn, 4, none⟩ = some (.int .i64 (N.to_ x)) := blk_cell hbn1 4
         have m5 : w1.cell? ⟨Bn, 5, none⟩ = some (.int .i64 (N.bad x)) := blk_cell hbn1 5
         have m6 : w1.cell? ⟨Bn, 6, none⟩ = some (.slice A (N.kids x).length c) := blk_cell hbn1 6
         obtain ⟨fn, tmps, assign, body, hy, hR⟩ := hY pre (x, A, c) w1 (hJ _ _ _ hJs (Turn.below hb2)) hlt
         simp only [NodeK.enc, NodeK.cells] at hy
         clear hbn1 n0 n1 n2 n3 n4 n5 n6)
      refine hR.mono ?_
      rintro e W3 (⟨rfl, hJ3, hk3⟩ | ⟨rfl, hJx3⟩)
      · have hb3 : Below w0.heap.size w0 W3 := (hB.trans (hb2.mono hB.size)).trans hk3.1
        have hbn3 : W3.heap[Bn]? = some (.cells (N.cells x A c).toArray 24 (0, 0)) := (hk3.2 Bn (by simp) (Nat.lt_of_lt_of_le ltN hb2.size)).trans ((hb2.block Bn ltN).trans HBN.out)
        have hba3 : W3.heap[Ba]? = some (.cells #[.int .i64 a] 3 (0, 0)) := (hk3.2 Ba (by simp) (Nat.lt_of_lt_of_le ltA hb2.size)).trans ((hb2.block Ba ltA).trans HBA.out)
        have hs3 : W.heap.size ≤ W3.heap.size := Nat.le_trans hsW (Nat.le_trans hb2.size hk3.1.size |> fun h => by have := hb2.size; have := hk3.1.size; exact h)
        have k6 : W3.cell? ⟨Bn, 6, none⟩ = some (.slice A (N.kids x).length c) := blk_cell hbn3 6
        have ca3 : W3.cell? ⟨Ba, 0, none⟩ = some (.int .i64 a) := blk_cell hba3 0
        have hC3 : N.d.C W3 A (N.kids x).length (N.kids x) := Kd.C_below hC hb3
        have hidx := index_calls N A c (N.kids x) a Ba W3 hC3 ca3
        have hcs3 : KeepL w0.heap.size [Ba, Bn] w1 W3 := hk3
        clear hk3 hcall hR hy
        cases hf : (N.kids x).findIdx? (N.has a) with
        | none =>
          have hi : idxV N a (N.kids x) = -1 := by unfold idxV; rw [hf]
          have hfd : (N.kids x).find? (N.has a) = none := by
            rw [List.find?_eq_none]
            rw [List.findIdx?_eq_none_iff] at hf
            intro y hy
            rw [hf y hy]
            simp
          rw [hi] at hidx
          have HFD := Lib.hid hfd
          clear hfd hf hi hbn3 hba3 m0 m1 m2 m3 m4 m5 m6 ca
          gi_wp2_with (gi_at_call 37; refine (callsIn_wide.2 hidx).mono ?_; rintro e w4 ⟨rfl, hb4⟩)
          rw [Exit.noGoto_normal]
          go_end0
          refine ⟨⟨_, rfl⟩, .inl ⟨pre ++ [(x, A, c)], ?_, hJ _ _ _ hJ3 (Turn.below hb4)⟩⟩
          have := HE.out
          rw [HFD.out] at this
          rw [List.map_append]
          exact this
        | some k =>
          have hi : idxV N a (N.kids x) = k := by unfold idxV; rw [hf]
          rw [hi] at hidx
          rw [List.findIdx?_eq_some_iff_getElem] at hf
          obtain ⟨hkl, hkp, hkn⟩ := hf
          have hfd : (N.kids x).find? (N.has a) = some (N.kids x)[k] := by
            rw [List.find?_eq_some_iff_getElem]
            exact ⟨hkp, k, hkl, rfl, fun j hj => by simpa using hkn j hj⟩
          obtain ⟨ad, y, A6, c6, hAe, hy0, hl6, hC6, y0, y1, y2, y3, y4, y5, y6⟩ := atN N hC k hkl
          obtain rfl : (N.kids x)[k] = y := by rw [List.getElem?_eq_getElem hkl] at hy0; exact Option.some.inj hy0
          have hsy : N.sz (N.kids x)[k] < f := by have := N.sz_kid x _ (List.getElem_mem hkl); omega
          generalize (N.kids x)[k] = y at hfd y0 y1 y2 y3 y4 y5 y6 hl6 hC6 hsy
          subst hAe
          have HFD := Lib.hid hfd
          have lt3 := blk_lt hbn3
          have ltA3 := blk_lt hba3
          have HBN3 := Lib.hid hbn3
          have HBA3 := Lib.hid hba3
          clear hfd hi hbn3 hba3 m0 m1 m2 m3 m4 m5 m6 ca hkp hkn hy0
          have trans4 : ∀ w4, Below W3.heap.size W3 w4 → Below w0.heap.size w0 w4 := fun w4 h => hb3.trans (h.mono hb3.size)
          have T4 := Lib.hid trans4
          clear trans4
          gi_wp2_with
            (gi_at_call 37
             refine (callsIn_wide.2 hidx).mono ?_
             rintro e w4 ⟨rfl, hb4⟩
             have hb04 := T4.out w4 hb4
             have z0 := pw_cell_below hb04 y0
             have z1 := pw_cell_below hb04 y1
             have z2 := pw_cell_below hb04 y2
             have z3 := pw_cell_below hb04 y3
             have z4 := pw_cell_below hb04 y4
             have z5 := pw_cell_below hb04 y5
             have z6 := pw_cell_below hb04 y6
             have hbn4 := (hb4.block Bn lt3).trans HBN3.out
             have q0 := blk_cell hbn4 0
             have q1 := blk_cell hbn4 1
             have q2 := blk_cell hbn4 2
             have q3 := blk_cell hbn4 3
             have q4 := blk_cell hbn4 4
             have q5 := blk_cell hbn4 5
             have q6 := blk_cell hbn4 6
             simp only [NodeK.cells, List.getElem?_toArray, List.getElem?_cons_zero, List.getElem?_cons_succ] at q0 q1 q2 q3 q4 q5 q6
             have r0 := blk_frozen hbn4 0
             have r1 := blk_frozen hbn4 1
             have r2 := blk_frozen hbn4 2
             have r3 := blk_frozen hbn4 3
             have r4 := blk_frozen hbn4 4
             have r5 := blk_frozen hbn4 5
             have r6 := blk_frozen hbn4 6
             have HBN4 := Lib.hid hbn4
             clear hbn4)
          have hE5 : (pre ++ [(x, some ad, c)]).map (·.1) ++ N.cov a f y = N.cov a (N.sz x0 + 1) x0 := by
            have := HE.out
            rw [HFD.out] at this
            rw [List.map_append, List.append_assoc]
            exact this
          have hR5 : R f (((((((w4.setCell ⟨Bn, 0, none⟩ (Value.string (N.kind y))).setCell ⟨Bn, 1, none⟩ (Value.bool (N.named y))).setCell ⟨Bn, 2, none⟩ (Value.string (N.field y))).setCell ⟨Bn, 3, none⟩ (Value.int .i64 (N.from_ y))).setCell ⟨Bn, 4, none⟩ (Value.int .i64 (N.to_ y))).setCell ⟨Bn, 5, none⟩ (Value.int .i64 (N.bad y))).setCell ⟨Bn, 6, none⟩ (Value.slice A6 (N.kids y).length c6)) := by
            rw [HRd.out]
            refine ⟨y, A6, c6, pre ++ [(x, some ad, c)], hJ _ _ _ hJ3 ((((((((Turn.below (T := fun k => k = Bn) hb4).trans (Turn.setCell (T := fun k => k = Bn) ⟨Bn, 0, none⟩ _ rfl)).trans (Turn.setCell (T := fun k => k = Bn) ⟨Bn, 1, none⟩ _ rfl)).trans (Turn.setCell (T := fun k => k = Bn) ⟨Bn, 2, none⟩ _ rfl)).trans (Turn.setCell (T := fun k => k = Bn) ⟨Bn, 3, none⟩ _ rfl)).trans (Turn.setCell (T := fun k => k = Bn) ⟨Bn, 4, none⟩ _ rfl)).trans (Turn.setCell (T := fun k => k = Bn) ⟨Bn, 5, none⟩ _ rfl)).trans (Turn.setCell (T := fun k => k = Bn) ⟨Bn, 6, none⟩ _ rfl)), hsy, hl6, hC6, (blk_far (blk_far (blk_far (blk_far (blk_far (blk_far (blk_far ((hb4.block Ba ltA3).trans HBA3.out) (p := ⟨Bn, 0, none⟩) hne _) (p := ⟨Bn, 1, none⟩) hne _) (p := ⟨Bn, 2, none⟩) hne _) (p := ⟨Bn, 3, none⟩) hne _) (p := ⟨Bn, 4, none⟩) hne _) (p := ⟨Bn, 5, none⟩) hne _) (p := ⟨Bn, 6, none⟩) hne _), ?_, (((((((hb04.setCell (p := ⟨Bn, 0, none⟩) hBn0 _).setCell (p := ⟨Bn, 1, none⟩) hBn0 _).setCell (p := ⟨Bn, 2, none⟩) hBn0 _).setCell (p := ⟨Bn, 3, none⟩) hBn0 _).setCell (p := ⟨Bn, 4, none⟩) hBn0 _).setCell (p := ⟨Bn, 5, none⟩) hBn0 _).setCell (p := ⟨Bn, 6, none⟩) hBn0 _), ?_, hE5⟩
            · rw [(blk_set (blk_set (blk_set (blk_set (blk_set (blk_set (blk_set HBN4.out 0 _) 1 _) 2 _) 3 _) 4 _) 5 _) 6 _)]
              rfl
            · simp only [World.size_setCell]
              exact Nat.le_trans hs3 hb4.size
          refine ⟨⟨f, hR5⟩, ?_⟩
          rw [HK.out]
          exact Nat.lt_of_le_of_lt ((leastOf_spec ⟨f, hR5⟩).2 f hR5) (Nat.lt_succ_self f)
      · gi_wp2
        rw [Exit.noGoto_ret]
        refine bodyPost_ret (results_none rfl _ _ _) rfl ?_
        refine ⟨⟨_, rfl⟩, .inr ⟨pre ++ [(x, A, c)], ?_, hJx3⟩⟩
        rw [← HE.out, List.map_append]
        exact List.prefix_append_right_inj _ |>.2 ⟨_, rfl⟩

theorem cover_calls (x : τ) (A : Option Addr) (c : Nat) (a : Int) (w : World) : Calls Try.prog 27 #[.agg (N.cells x A c).toArray, .int .i64 a] w fun e w' =>
    e = .returned (.func (.func 35) #[] #[.pointer (some ⟨w.heap.size + 1, 0, none⟩), .pointer (some ⟨w.heap.size, 0, none⟩)]) ∧ (w.alloc (.cells (N.cells x A c).toArray 24)).alloc (.cells #[.int .i64 a] 3) = w' := by
  unfold NodeK.cells
  go_enter Try.func27, Try.ntmps27
  go_wp2
  go_ret
  exact ⟨rfl, rfl⟩

/-- A mark: kind, first, last. -/
abbrev M := ByteArray × Bool × Bool
def encM (m : M) : List Value := [.string m.1, .bool m.2.1, .bool m.2.2]
def markOf (a : Int) (x : τ) : M := (N.kind x, (N.from_ x == a), (wrap64 (N.to_ x - 1) == a))
def marksV (a : Int) (x : τ) : List M := (N.cov a (N.sz x + 1) x).map (markOf N a)
def RetRow (ys : List M) (w : World) (e : Ending) (w' : World) : Prop := ∃ v, e = .returned v ∧ w'.ownsRow w.heap.size 53 3 v ys.length (ys.flatMap encM) ∧ Below w.heap.size w w'
theorem infoM : (Try.prog.info? 53).map (fun i => (i.zero, i.size, i.bytes)) = some (some (.agg #[.string ByteArray.empty, .bool false, .bool false]), 3, 24) := by kernel_rfl

set_option maxRecDepth 100000 in
set_option maxHeartbeats 4000000 in
theorem marks_calls (x0 : τ) (A0 : Option Addr) (c0 : Nat) (a : Int) (w : World) (hl0 : (N.kids x0).length ≤ c0) (hC0 : N.d.C w A0 (N.kids x0).length (N.kids x0)) (hfew : (N.cov a (N.sz x0 + 1) x0).length ≤ 5000000000000) :
    Calls Try.prog 14 #[.agg (N.cells x0 A0 c0).toArray, .int .i64 a] w (RetRow (marksV N a x0) w) := by
  refine (callsIn_wide (n := 3)).1 ?_
  have h27 : Fence.wide.fn 27 := trivial
  have hcov := cover_calls N x0 A0 c0 a
  simp only [NodeK.cells] at hcov
  refine callsIn_of_wp_marks Try.func14 rfl trivial ?_ rfl
  simp only [Try.ntmps14, NodeK.cells, List.size_toArray, List.length_cons, List.length_nil, Nat.reduceAdd, Nat.reduceSub, Array.replicate_succ, Array.replicate_zero, List.push_toArray, List.append_toArray, List.nil_append, List.cons_append]
  gi_wp2_with (gi_at_call 27; refine (callsIn_wide.2 (hcov _)).mono ?_; rintro e w' ⟨rfl, rfl⟩)
  obtain ⟨W0, hW0⟩ : ∃ W0, (((((w.alloc (Obj.cells #[Value.string (N.kind x0), Value.bool (N.named x0), Value.string (N.field x0), Value.int .i64 (N.from_ x0), Value.int .i64 (N.to_ x0), Value.int .i64 (N.bad x0), Value.slice A0 (N.kids x0).length c0] 24)).alloc (Obj.cells #[Value.int IntKind.i64 a] 3)).alloc (Obj.cells #[Value.slice none 0 0] 39)).alloc (Obj.cells #[Value.string (N.kind x0), Value.bool (N.named x0), Value.string (N.field x0), Value.int .i64 (N.from_ x0), Value.int .i64 (N.to_ x0), Value.int .i64 (N.bad x0), Value.slice A0 (N.kids x0).length c0] 24)).alloc (Obj.cells #[Value.int IntKind.i64 a] 3)) = W0 := ⟨_, rfl⟩
  have bA2 : W0.heap[w.heap.size + 1 + 1 + 1 + 1]? = some (.cells #[.int .i64 a] 3 (0, 0)) := by
    rw [← hW0]; have := blk_new ((((w.alloc (Obj.cells #[Value.string (N.kind x0), Value.bool (N.named x0), Value.string (N.field x0), Value.int .i64 (N.from_ x0), Value.int .i64 (N.to_ x0), Value.int .i64 (N.bad x0), Value.slice A0 (N.kids x0).length c0] 24)).alloc (Obj.cells #[Value.int IntKind.i64 a] 3)).alloc (Obj.cells #[Value.slice none 0 0] 39)).alloc (Obj.cells #[Value.string (N.kind x0), Value.bool (N.named x0), Value.string (N.field x0), Value.int .i64 (N.from_ x0), Value.int .i64 (N.to_ x0), Value.int .i64 (N.bad x0), Value.slice A0 (N.kids x0).length c0] 24)) (Obj.cells #[Value.int IntKind.i64 a] 3); simpa using this
  have bN2 : W0.heap[w.heap.size + 1 + 1 + 1]? = some (.cells (N.cells x0 A0 c0).toArray 24 (0, 0)) := by
    rw [← hW0]; have := blk_alloc (blk_new (((w.alloc (Obj.cells #[Value.string (N.kind x0), Value.bool (N.named x0), Value.string (N.field x0), Value.int .i64 (N.from_ x0), Value.int .i64 (N.to_ x0), Value.int .i64 (N.bad x0), Value.slice A0 (N.kids x0).length c0] 24)).alloc (Obj.cells #[Value.int IntKind.i64 a] 3)).alloc (Obj.cells #[Value.slice none 0 0] 39)) (Obj.cells #[Value.string (N.kind x0), Value.bool (N.named x0), Value.string (N.field x0), Value.int .i64 (N.from_ x0), Value.int .i64 (N.to_ x0), Value.int .i64 (N.bad x0), Value.slice A0 (N.kids x0).length c0] 24)) (Obj.cells #[Value.int IntKind.i64 a] 3); simp only [World.size_alloc] at this; exact this
  have bL : Boxed W0 (w.heap.size + 1 + 1) 39 (.slice none 0 0) := by
    rw [← hW0]; have := ((Boxed.new ((w.alloc (Obj.cells #[Value.string (N.kind x0), Value.bool (N.named x0), Value.string (N.field x0), Value.int .i64 (N.from_ x0), Value.int .i64 (N.to_ x0), Value.int .i64 (N.bad x0), Value.slice A0 (N.kids x0).length c0] 24)).alloc (Obj.cells #[Value.int IntKind.i64 a] 3)) 39 (.slice none 0 0)).alloc (Obj.cells #[Value.string (N.kind x0), Value.bool (N.named x0), Value.string (N.field x0), Value.int .i64 (N.from_ x0), Value.int .i64 (N.to_ x0), Value.int .i64 (N.bad x0), Value.slice A0 (N.kids x0).length c0] 24)).alloc (Obj.cells #[Value.int IntKind.i64 a] 3); simpa using this
  have bI : Boxed W0 (w.heap.size + 1) 3 (.int .i64 a) := by
    rw [← hW0]; have := (((Boxed.new (w.alloc (Obj.cells #[Value.string (N.kind x0), Value.bool (N.named x0), Value.string (N.field x0), Value.int .i64 (N.from_ x0), Value.int .i64 (N.to_ x0), Value.int .i64 (N.bad x0), Value.slice A0 (N.kids x0).length c0] 24)) 3 (.int .i64 a)).alloc (Obj.cells #[Value.slice none 0 0] 39)).alloc (Obj.cells #[Value.string (N.kind x0), Value.bool (N.named x0), Value.string (N.field x0), Value.int .i64 (N.from_ x0), Value.int .i64 (N.to_ x0), Value.int .i64 (N.bad x0), Value.slice A0 (N.kids x0).length c0] 24)).alloc (Obj.cells #[Value.int IntKind.i64 a] 3); simpa using this
  have hB0 : Below w.heap.size w W0 := by
    rw [← hW0]; exact ((((((Below.refl _ w).alloc (Nat.le_refl _) _).alloc (by simp) _).alloc (by simp; omega) _).alloc (by simp; omega) _).alloc (by simp; omega) _)
  have hsz : W0.heap.size = w.heap.size + 5 := by rw [← hW0]; simp
  rw [hW0]
  clear hW0 hcov
  obtain ⟨L, hL⟩ : ∃ L, L = W0.heap.size := ⟨_, rfl⟩
  have hge : w.heap.size + 5 ≤ L := by omega
  clear hsz
  subst hL
  have hseq := cover_stops N 2 (w.heap.size + 1 + 1 + 1 + 1) (w.heap.size + 1 + 1 + 1) (by omega) x0 A0 c0 a w W0 hB0 hl0 hC0 (by omega) (by omega) bA2 bN2
  obtain ⟨i0, hi, hz0, hz1, hz2⟩ := info_parts infoM
  rename_i hK
  refine rangeG (gf := 35) (lb := #[.pointer (some ⟨w.heap.size + 1 + 1 + 1 + 1, 0, none⟩), .pointer (some ⟨w.heap.size + 1 + 1 + 1, 0, none⟩)]) rfl (enters_of Try.func35 (by kernel_rfl) rfl)
    hseq (fun k hk => by omega) keepL_t (keepL_b (by omega) (fun b hb => by simp at hb; omega)) (Turn.refl _ _ _) (fun _ => rfl)
    (fun pre W => (∃ v, Boxed W (w.heap.size + 1 + 1) 39 v ∧ W.ownsRow W0.heap.size 53 3 v pre.length ((pre.map (fun p => markOf N a p.1)).flatMap encM)) ∧ Boxed W (w.heap.size + 1) 3 (.int .i64 a) ∧ W0.heap.size ≤ W.heap.size ∧ Below w.heap.size w W)
    (fun c pre W => False)
    ?hI ?hIx ?h0
    (fun x a' W => ∃ Bx, W0.heap.size ≤ Bx ∧ W.heap[Bx]? = some (.cells (N.cells x.1 x.2.1 x.2.2).toArray 24 (0, 0)) ∧ a' = Act.mk (#[(.agg (N.cells x0 A0 c0).toArray), .int .i64 a, .pointer (some ⟨w.heap.size, 0, none⟩), .pointer (some ⟨w.heap.size + 1, 0, none⟩), .slice none 0 0, .pointer (some ⟨w.heap.size + 1 + 1, 0, none⟩), .pointer (some ⟨Bx, 0, none⟩), (.agg (N.cells x0 A0 c0).toArray), .int .i64 a, .func (.func 35) #[] #[.pointer (some ⟨w.heap.size + 1 + 1 + 1 + 1, 0, none⟩), .pointer (some ⟨w.heap.size + 1 + 1 + 1, 0, none⟩)], (.agg (N.cells x.1 x.2.1 x.2.2).toArray), undef, undef, undef, undef, undef, undef, undef, undef, undef, undef, undef, undef, undef, undef, undef, undef]) []) ?hAx ?assign ?body ?done ?stop
  case hI =>
    rintro pre W W' ⟨⟨v, h1, h2⟩, h3, h4, h5⟩ ht
    exact ⟨⟨v, Boxed.turn h1 ht (by omega), row_turn h2 ht (fun k hk e => by have := own_base h2 k hk; omega)⟩, Boxed.turn h3 ht (by omega), Nat.le_trans h4 ht.size, below_turn h5 ht (Nat.le_refl _) (by omega) (fun k hk => by omega)⟩
  case hIx => exact fun c s W W' h _ => h
  case h0 => exact ⟨⟨_, bL, World.ownsRow_nil _ _ _ _⟩, bI, by omega, hB0⟩
  case hAx =>
    rintro x a' s X Y ⟨Bx, h1, h2, h3⟩ ht
    exact ⟨Bx, h1, cells_turn h2 ht (by omega), h3⟩
  case assign =>
    rintro l pre x W K ⟨⟨v, h1, h2⟩, h3, h4, h5⟩ hK2
    simp only [NodeK.enc, NodeK.cells]
    gi_wp2
    refine hK2 _ _ ((KeepsOthers.alloc _ _).from _) (keepL_alloc (keepL_refl _ _ _) (by omega) _) ⟨⟨v, h1.alloc _, h2.alloc _⟩, h3.alloc _, by simp; omega, h5.alloc (by omega) _⟩ ⟨W.heap.size, h4, blk_new _ _, rfl⟩
  case body =>
    rintro l pre x a' W hl hr ⟨⟨v, h1, h2⟩, h3, h4, h5⟩ ⟨Bx, hBx, hX, rfl⟩ hpre
    have x0' : W.cell? ⟨Bx, 0, none⟩ = some (.string (N.kind x.1)) := blk_cell hX 0
    have x3' : W.cell? ⟨Bx, 3, none⟩ = some (.int .i64 (N.from_ x.1)) := blk_cell hX 3
    have x4' : W.cell? ⟨Bx, 4, none⟩ = some (.int .i64 (N.to_ x.1)) := blk_cell hX 4
    have cv := h1.cell
    have ci := h3.cell
    have hlen : pre.length < 5000000000000 := by omega
    have HP := Lib.hid hpre
    clear hpre hX
    have hcells : ∀ (k l2 : Bool) (j : Nat) (u : Value), [Value.string (N.kind x.1), .bool k, .bool l2][j]? = some u → (W.alloc (.cells #[.string (N.kind x.1), .bool k, .bool l2] 53)).cell? ((⟨W.heap.size, 0, none⟩ : Addr).add j) = some u := by
      intro k l2 j u hj
      have h := blk_cell (blk_new W (.cells #[.string (N.kind x.1), .bool k, .bool l2] 53)) j
      rw [add_plain]
      rw [h, ← hj]
      simp
    have one : ∀ (k l2 : Bool), ∀ u ∈ [Value.string (N.kind x.1), .bool k, .bool l2], u.oneCell' = true := by
      intro k l2 u hu
      simp at hu
      rcases hu with rfl | rfl | rfl <;> rfl
    have HC := Lib.hid hcells
    have H1 := Lib.hid one
    clear hcells one
    have maxl : maxLen = 9223372036854775807 := rfl
    have HM := Lib.hid maxl
    clear maxl
    gi_wp2_with (gi_at_builtin; refine wpListIn_append_own _ rfl _ _ 39 rfl W0.heap.size 53 i0 (.agg #[.string ByteArray.empty, .bool false, .bool false]) 3 24 Try.underlying39 hi hz0 hz1 hz2 rfl (by decide) _ _ _ rfl (h2.alloc _) ⟨W.heap.size, 0, none⟩ 1 1 [.string (N.kind x.1), .bool (N.from_ x.1 == a), .bool (wrap64 (N.to_ x.1 - 1) == a)] rfl rfl (HC.out _ _) (H1.out _ _) (by have := HM.out; omega) (by omega) (by simp; omega) ?_; intro v' w1 hown' hgrow _; obtain ⟨g', cap', rfl⟩ := ownsRow_succ hown'; obtain ⟨hv1, hv2, hr2, hk2, hb2⟩ := append_step (n₀ := w.heap.size) (Ls := [w.heap.size + 1 + 1 + 1 + 1, w.heap.size + 1 + 1 + 1]) h1 (by omega) h2 h4 hown' hgrow (by omega) (fun b hb => by simp at hb; omega); obtain ⟨_, _, _, _, hb3⟩ := append_step (n₀ := w.heap.size) (Ls := [w.heap.size + 1]) h1 (by omega) h2 h4 hown' hgrow (by omega) (fun b hb => by simp at hb; omega); have hc1 := hv1.cell; have hf1 := hv1.frozen)
    have e1 : ((pre ++ [x]).map (fun p => markOf N a p.1)).flatMap encM = (pre.map (fun p => markOf N a p.1)).flatMap encM ++ [.string (N.kind x.1), .bool (N.from_ x.1 == a), .bool (wrap64 (N.to_ x.1 - 1) == a)] := by simp [encM, markOf]
    have e2 : (pre ++ [x]).length = pre.length + 1 := by simp
    refine ⟨hk2, hb2, ⟨⟨_, hv2, ?_⟩, (hb3.2 _ (by simp) h3.lt).trans h3, Nat.le_trans h4 hb2.1.size, h5.trans hb2.1⟩⟩
    rw [e1, e2]
    exact hr2
  case done =>
    rintro D ys W hD hS ⟨⟨v, h1, h2⟩, h3, h4, h5⟩ hK'
    have cv := h1.cell
    have HS := Lib.hid hS
    clear hS
    gi_wp2
    refine ⟨by simp, .inl ⟨_, _, rfl, run_takeDeferred hK', ?_⟩⟩
    refine ⟨_, results_tmp rfl _ _ _, v, rfl, ?_, h5.trans (belowK_b (w := w) (Nat.le_refl _) W D _ _ (by omega) hK' rfl rfl)⟩
    have e : marksV N a x0 = ys.map (fun p => markOf N a p.1) := by
      unfold marksV
      rw [← HS.out, List.map_map]
      rfl
    rw [e, List.length_map]
    exact own_weaken (ownsRow_putObj h2 _ hK' rfl) (by omega)
  case stop => exact fun D c pre W hD hp h => h.elim

theorem reps_map {α β : Type} {R : β → List Value → Prop} {f : α → β} {enc : α → List Value} {k : Nat} (hR : ∀ x, R (f x) (enc x)) (hk : ∀ x, (enc x).length = k) (l : List α) : Reps R k (l.map f) (l.flatMap enc) := by
  have h : ∀ s : List α, Reps R k (s.reverse.map f) (s.reverse.flatMap enc) := by
    intro s
    induction s with
    | nil => exact Reps.none _ _
    | cons a s ih =>
      rw [List.reverse_cons, List.map_append, List.flatMap_append]
      have : [a].flatMap enc = enc a := by simp
      rw [this]
      exact Reps.snoc ih (hR a) (hk a)
  have := h l.reverse
  rwa [List.reverse_reverse] at this
end
end Go.Proofs.Ytefkdfjdlhmknaa.Cover
