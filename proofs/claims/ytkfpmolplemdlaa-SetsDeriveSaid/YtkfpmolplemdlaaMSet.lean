/- Sets of numbers as maps: what a block of a set holds; maps.Keys; (set).add. No condition but the reach. -/
import Derived.Test.YtkfpmolplemdlaaSeqs
import Derived.Maps.OwnIn
import Derived.Lib.SlKeysI
namespace Go.Proofs.Ytkfpmolplemdlaa.MSet
open Go Go.RowKit Go.Shelf Go.Maps Go.Proofs.YtkfpmolplemdlaaW.PrintWords Go.Proofs.Ytkfpmolplemdlaa.Round Go.Proofs.Ytkfpmolplemdlaa.RangeG Go.Proofs.Ytkfpmolplemdlaa.Fl Go.Proofs.Ytkfpmolplemdlaa.Seqs
attribute [local go_sem] Oper.semAt_some
set_option linter.unusedVariables false
set_option linter.unusedSimpArgs false
/-- A number put into a rising row. -/
def putV : List Int → Int → List Int
  | [], x => [x]
  | a :: t, x => if x < a then x :: a :: t else if x = a then a :: t else a :: putV t x
def unionV (l : List Int) (xs : List Int) : List Int := xs.foldl putV l
abbrev Rises (l : List Int) : Prop := l.Pairwise (· < ·)
theorem putV_mem (x y : Int) : ∀ l : List Int, y ∈ putV l x ↔ y = x ∨ y ∈ l
  | [] => by simp [putV]
  | a :: t => by
    unfold putV
    split
    · simp
    · split
      · rename_i h; subst h; simp
      · rw [List.mem_cons, List.mem_cons, putV_mem x y t]
        constructor
        · rintro (h | h | h)
          · exact .inr (.inl h)
          · exact .inl h
          · exact .inr (.inr h)
        · rintro (h | h | h)
          · exact .inr (.inl h)
          · exact .inl h
          · exact .inr (.inr h)
theorem putV_rises (x : Int) : ∀ {l : List Int}, Rises l → Rises (putV l x)
  | [], _ => by simp [putV]
  | a :: t, h => by
    obtain ⟨h1, h2⟩ := List.pairwise_cons.1 h
    unfold putV
    split
    · rename_i c
      refine List.pairwise_cons.2 ⟨fun y hy => ?_, h⟩
      rcases List.mem_cons.1 hy with rfl | hy
      · exact c
      · have := h1 y hy; omega
    · split
      · exact h
      · rename_i c1 c2
        refine List.pairwise_cons.2 ⟨fun y hy => ?_, putV_rises x h2⟩
        rcases (putV_mem x y t).1 hy with rfl | hy
        · omega
        · exact h1 y hy
theorem putV_len (x : Int) : ∀ {l : List Int}, Rises l → (putV l x).length = if x ∈ l then l.length else l.length + 1
  | [], _ => by simp [putV]
  | a :: t, h => by
    obtain ⟨h1, h2⟩ := List.pairwise_cons.1 h
    unfold putV
    split
    · rename_i c
      have : x ∉ a :: t := fun hm => by
        rcases List.mem_cons.1 hm with rfl | hm
        · omega
        · have := h1 x hm; omega
      rw [if_neg this]
      rfl
    · split
      · rename_i c; subst c; rw [if_pos (by simp)]
      · rename_i c1 c2
        rw [List.length_cons, putV_len x h2]
        by_cases hm : x ∈ t
        · rw [if_pos hm, if_pos (by simp [hm])]; rfl
        · rw [if_neg hm, if_neg (by simp [hm, c2])]; rfl
theorem unionV_mem (y : Int) : ∀ (xs l : List Int), y ∈ unionV l xs ↔ y ∈ xs ∨ y ∈ l
  | [], l => by simp [unionV]
  | x :: t, l => by
    show y ∈ unionV (putV l x) t ↔ _
    rw [unionV_mem y t, putV_mem, List.mem_cons]
    constructor
    · rintro (h | h | h)
      · exact .inl (.inr h)
      · exact .inl (.inl h)
      · exact .inr h
    · rintro ((h | h) | h)
      · exact .inr (.inl h)
      · exact .inl h
      · exact .inr (.inr h)
theorem unionV_rises : ∀ (xs : List Int) {l : List Int}, Rises l → Rises (unionV l xs)
  | [], _, h => h
  | x :: t, _, h => unionV_rises t (putV_rises x h)
theorem unionV_len : ∀ (xs : List Int) {l : List Int}, Rises l → (unionV l xs).length ≤ l.length + xs.length
  | [], _, _ => Nat.le_refl _
  | x :: t, l, h => by
    have h1 := unionV_len t (putV_rises x h)
    have h2 := putV_len x h
    show (unionV (putV l x) t).length ≤ _
    rw [List.length_cons]
    split at h2 <;> omega
theorem rises_one : ∀ {l m : List Int}, Rises l → Rises m → (∀ x, x ∈ l ↔ x ∈ m) → l = m
  | [], [], _, _, _ => rfl
  | [], b :: m, _, _, h => by have := (h b).2 (by simp); cases this
  | a :: l, [], _, _, h => by have := (h a).1 (by simp); cases this
  | a :: l, b :: m, hl, hm, h => by
    obtain ⟨l1, l2⟩ := List.pairwise_cons.1 hl
    obtain ⟨m1, m2⟩ := List.pairwise_cons.1 hm
    have e : a = b := by
      have h1 := (h a).1 (by simp)
      have h2 := (h b).2 (by simp)
      rcases List.mem_cons.1 h1 with h1 | h1
      · exact h1
      · rcases List.mem_cons.1 h2 with h2 | h2
        · exact h2.symm
        · have := m1 a h1; have := l1 b h2; omega
    subst e
    congr 1
    refine rises_one l2 m2 fun x => ?_
    constructor
    · intro hx
      rcases List.mem_cons.1 ((h x).1 (by simp [hx])) with rfl | h'
      · have := l1 x hx; omega
      · exact h'
    · intro hx
      rcases List.mem_cons.1 ((h x).2 (by simp [hx])) with rfl | h'
      · have := m1 x hx; omega
      · exact h'
/-! ### The block of a set -/
abbrev TB : TypeId := 4
theorem law : Keyed Try.prog TI := int_keyed Try.underlying3
def SetAt (b : Nat) (S : List Int) (W : World) : Prop := Rises S ∧ (∀ x ∈ S, (Lit.int .i64 x).wf = true) ∧ ∃ D : DataW Unit, W.ownsMap Try.prog TI (plainElem Try.prog TB) b S.length D ∧ Maps.size D = S.length ∧ ∀ x, Maps.has D (.int .i64 x) = decide (x ∈ S)
theorem tight {w : World} {b n : Nat} {D : DataW Unit} (h : w.ownsMap Try.prog TI (plainElem Try.prog TB) b n D) : w.ownsMap Try.prog TI (plainElem Try.prog TB) b (Maps.size D) D := by
  obtain ⟨es, clock, hb, F, hs, hD⟩ := h
  refine ⟨es, clock, hb, F, ?_, hD⟩
  rw [hD]
  simp [Maps.size, length_sorted]
theorem SetAt.lt {b : Nat} {S : List Int} {W : World} (h : SetAt b S W) : b < W.heap.size := by
  obtain ⟨_, _, D, h1, _⟩ := h
  exact h1.lt
theorem SetAt.block {b : Nat} {S : List Int} {W : World} (h : SetAt b S W) : ∃ o, W.heap[b]? = some o ∧ o.isCells = false ∧ o.isWalk = true := by
  obtain ⟨_, _, D, ⟨es, clock, hb, _⟩, _⟩ := h
  exact ⟨_, hb, rfl, rfl⟩
theorem SetAt.keep {b : Nat} {S : List Int} {W W' : World} (h : SetAt b S W) (hb : W'.heap[b]? = W.heap[b]?) : SetAt b S W' := by
  obtain ⟨h1, h2, D, ⟨es, clock, h3, h4⟩, h5⟩ := h
  exact ⟨h1, h2, D, ⟨es, clock, hb.trans h3, h4⟩, h5⟩
theorem SetAt.turn {b : Nat} {S : List Int} {L : Nat} {T : Nat → Prop} {W W' : World} (h : SetAt b S W) (ht : Turn L T W W') (hT : ¬ T b) (hL : b < L) : SetAt b S W' := by
  obtain ⟨o, ho, _⟩ := h.block
  exact h.keep ((ht.same b o ho hT (.inl hL)).trans ho.symm)
theorem SetAt.new (W : World) : SetAt W.heap.size [] (W.alloc (.map #[] 0)) := ⟨List.Pairwise.nil, (fun _ h => nomatch h), _, World.ownsMap_made W _ _ _, rfl, fun x => rfl⟩
theorem SetAt.put {b n : Nat} {S : List Int} {W W' : World} {D : DataW Unit} (h1 : Rises S) (h2 : ∀ x ∈ S, (Lit.int .i64 x).wf = true) (hs : Maps.size D = S.length) (hh : ∀ x, Maps.has D (.int .i64 x) = decide (x ∈ S)) (hm : W.ownsMap Try.prog TI (plainElem Try.prog TB) b n D) (x : Int) (hx : (Lit.int .i64 x).wf = true)
    (h : W'.ownsMap Try.prog TI (plainElem Try.prog TB) b (n + 1) (D.put (.int .i64 x) (.lit (.bool true)))) : SetAt b (putV S x) W' := by
  have hk : WideAt.IsKeyLit (.int .i64 x) := law.key (keyOf_int_mk Try.underlying3 hx)
  have hsz : Maps.size (D.put (.int .i64 x) (.lit (.bool true))) = (putV S x).length := by
    rw [size_put (hm.tidy law) _, hh x, hs, putV_len x h1]
    by_cases hm : x ∈ S <;> simp [hm]
  refine ⟨putV_rises x h1, fun y hy => ?_, _, ?_, hsz, fun y => ?_⟩
  · rcases (putV_mem x y S).1 hy with rfl | hy
    · exact hx
    · exact h2 y hy
  · rw [← hsz]
    exact tight h
  · by_cases e : y = x
    · subst e
      rw [has_put_same hm.isMap hk]
      simp [putV_mem]
    · rw [has_put_other (by intro e'; cases e'; exact e rfl), hh y]
      simp [putV_mem, e]
set_option maxRecDepth 100000 in
set_option maxHeartbeats 4000000 in
/-- maps.Keys' iterator: each number of the set, once. -/
theorem keys_stops (n B b : Nat) (hn : 1 ≤ n) (S : List Int) (n₀ : Nat) (Ls : List Nat) (w : World) (hb : b < w.heap.size) (hS : SetAt b S w) (hB : w.heap[B]? = some (.cells #[.map (some b)] 62 (0, 0))) :
    SeqG n Try.prog 56 #[.pointer (some ⟨B, 0, none⟩)] encX (KeepW n₀ Ls) (fun _ => False) (fun ys => (vals ys).Nodup ∧ ∀ x, x ∈ vals ys ↔ x ∈ S) (fun pre => True) S.length w := by
  intro L J Jx W hW hJ hJx hY h0
  have hBW := hW.same B _ hB (fun h => h) (.inr rfl)
  have hSW := hS.turn hW (fun h => h) hb
  have cB : W.cell? ⟨B, 0, none⟩ = some (.map (some b)) := blk_cell hBW 0
  obtain ⟨h1, h2, D, hown, hsz, hhas⟩ := hSW
  clear hW hB hBW hS
  refine callsIn_of_wp Try.func56 rfl trivial ?_ rfl
  simp only [Try.ntmps56, List.size_toArray, List.length_cons, List.length_nil, Nat.reduceAdd, Nat.reduceSub, Array.replicate_succ, Array.replicate_zero, List.push_toArray, List.append_toArray, List.nil_append, List.cons_append]
  gi_wp2_with (first
    | (gi_at_range; refine wpListIn_range_own _ rfl _ 62 rfl TI TB law Try.underlying62 _ b S.length _ rfl hown ?_; intro w0 hrg0 hg0 hs0)
    | gi_in)
  go_frame
  gi_loopw [3] (fun _ wr => ∃ (left : Lit → Bool) (cnt : Nat) (ss : List I64), wr.ranges Try.prog TI (plainElem Try.prog TB) b W.heap.size S.length D left cnt ∧ ss.length + cnt ≤ S.length ∧ CollectedI D left (vals ss) ∧ J ss wr)
    (fun _ wr => wr.rangeLeft b W.heap.size)
  case atStart =>
    exact ⟨_, _, [], hrg0, by simp [hsz], CollectedI.start D, hJ _ _ _ h0 (Turn.grown hg0 (fun k e => by cases e))⟩
  case round =>
    obtain ⟨left, cnt, ss, hrg, hcs, hC, hJs⟩ := hrel
    gi_wp2_with (first
      | (gi_at_next; refine wpListIn_next_ranges _ rfl _ rfl TI law (plainElem Try.prog TB) encZ id (fun key kl hk => by obtain ⟨x, hx, _⟩ := Maps.keyOf_i64 Try.underlying3 hk; exact ⟨x, hx⟩) (fun v _ _ => ⟨v, rfl⟩) b W.heap.size S.length _ _ _ rfl hrg ?_ ?_)
      | gi_in)
    · intro hc0 hl0
      gi_wp2
      go_end0
      refine ⟨⟨_, rfl⟩, .inl ⟨ss, ⟨hC.1, fun x => ?_⟩, hJs⟩⟩
      rw [hC.2 x, hl0, hhas x]
      simp
    · intro x c kl yd yp w2 cnt2 hkey hlk hv hat hrg2 hlt hg2 hs2 hen
      obtain ⟨x', ex, rfl, hwf⟩ := Maps.keyOf_i64 Try.underlying3 hkey
      obtain rfl : x = x' := encZ_inj ex
      have hJ2 : J ss w2 := hJ _ _ _ hJs (Turn.grown hg2 (fun r e => by cases e; exact .inr ⟨Nat.le_refl _, hrg.iter_walk.imp (fun o h => ⟨h.1, Obj.not_cells_of_walk h.2⟩)⟩))
      obtain ⟨fn, tmps, assign, body, hy, hR⟩ := hY ss ⟨x, hwf⟩ w2 hJ2 (by omega)
      simp only [encX] at hy
      clear hs2
      gi_wp2
      refine hR.mono ?_
      have hC2 : CollectedI D (fun z => left z && !z.sameKey (Lit.int .i64 x)) (vals (ss ++ [⟨x, hwf⟩])) := by
        have := hC.step hlk hat
        simpa [vals] using this
      rintro e W3 (⟨rfl, hJ3, hk3⟩ | ⟨rfl, hJx3⟩)
      · gi_wp2
        have hrg3 := hrg2.of_walks hk3.2.1
        go_roundw
        case rel => exact ⟨_, cnt2, ss ++ [⟨x, hwf⟩], hrg3, by simp; omega, hC2, hJ3⟩
        case measure => rw [hrg3.left_eq, hrg.left_eq]; exact hlt
      · gi_wp2
        refine bodyPost_ret (results_none rfl _ _ _) rfl ?_
        exact ⟨⟨_, rfl⟩, .inr ⟨ss ++ [⟨x, hwf⟩], trivial, hJx3⟩⟩
theorem keys_calls (mb : Option Nat) (w : World) : Calls Try.prog 38 #[.map mb] w fun e w' => e = .returned (.func (.func 56) #[] #[.pointer (some ⟨w.heap.size, 0, none⟩)]) ∧ w.alloc (.cells #[.map mb] 62) = w' := by
  go_enter Try.func38, Try.ntmps38
  go_wp2
  go_ret
  exact ⟨rfl, rfl⟩
end Go.Proofs.Ytkfpmolplemdlaa.MSet
