/- A row of the call's own handed to a sort (the library's contract over a row's cells): in the words that the caller's walk asks for. Of no program; for elements that hold no rows. -/
import Derived.Test.YtebphbnkogianaaWWords
import Derived.Test.YtebphbnkogianaaWKept
import Derived.Shelf.GgSortFunc.InsertionK
set_option linter.unusedVariables false
set_option linter.unusedSimpArgs false
namespace Go.Proofs.Ytebphbnkogianaa.SortK
open Go Go.RowKit Go.Sort Go.Proofs.YtebphbnkogianaaW.PrintWords

theorem div_mul_add {k i j : Nat} (h : j < k) : (i * k + j) / k = i ∧ (i * k + j) % k = j := by
  constructor
  · rw [Nat.mul_comm, Nat.mul_add_div (by omega), Nat.div_eq_of_lt h, Nat.add_zero]
  · rw [Nat.mul_comm, Nat.mul_add_mod, Nat.mod_eq_of_lt h]

section
variable {α : Type} [Inhabited α] {enc : α → List Value} {k : Nat}
/-- The cells of a list of elements, one behind the other, are the row's cells. -/
theorem flat_of_reps (hk : ∀ x, (enc x).length = k) {l : List α} {inner : List Value} (h : Reps (fun x cs => cs = enc x) k l inner) : inner = (flatK enc k l.toArray).toList := by
  have hs : (flatK enc k l.toArray).toList.length = l.length * k := by simp
  refine List.ext_getElem (by rw [h.1, hs]) fun t h1 h2 => ?_
  have ht : t < l.length * k := by rw [← h.1]; exact h1
  have k0 : 0 < k := by
    rcases Nat.eq_zero_or_pos k with e | e
    · subst e; omega
    · exact e
  have hq : t / k < l.length := Nat.div_lt_of_lt_mul (by rw [Nat.mul_comm]; exact ht)
  have hr := h.2 (t / k) l[t / k] (List.getElem?_eq_getElem hq)
  have hm : t % k < k := Nat.mod_lt _ k0
  have hd : t / k * k + t % k = t := by rw [Nat.mul_comm]; exact Nat.div_add_mod t k
  have e1 : ((inner.drop (t / k * k)).take k)[t % k]? = some inner[t] := by
    rw [List.getElem?_take_of_lt hm, List.getElem?_drop, hd, List.getElem?_eq_getElem h1]
  have e2 : (enc l[t / k])[t % k]? = some inner[t] := by rw [← hr]; exact e1
  have e3 : (flatK enc k l.toArray)[t]! = inner[t] := by
    rw [get_flatK _ _ _ _ (by simpa using ht)]
    have : l.toArray[t / k]! = l[t / k] := by simp [hq]
    rw [this, getElem!_def, e2]
  have hft : t < (flatK enc k l.toArray).size := by simpa using ht
  have e4 : (flatK enc k l.toArray).toList[t] = inner[t] := by rw [← e3, getElem!_pos (flatK enc k l.toArray) t hft]; rfl
  exact e4.symm
theorem reps_of_flat (hk : ∀ x, (enc x).length = k) (l : List α) : Reps (fun x cs => cs = enc x) k l (flatK enc k l.toArray).toList := by
  have hs : (flatK enc k l.toArray).toList.length = l.length * k := by simp
  refine ⟨hs, fun j p hj => ?_⟩
  obtain ⟨hj', hp⟩ := List.getElem?_eq_some_iff.1 hj
  have hb : j * k + k ≤ l.length * k := by rw [← Nat.succ_mul]; exact Nat.mul_le_mul_right _ hj'
  refine List.ext_getElem (by rw [List.length_take, List.length_drop, hs, hk]; omega) fun t h1 h2 => ?_
  rw [List.length_take] at h1
  have htk : t < k := by omega
  rw [List.getElem_take, List.getElem_drop, Array.getElem_toList]
  have e := get_flatK enc k l.toArray (j * k + t) (by simp; omega)
  rw [getElem!_pos _ _ (by simp; omega), (div_mul_add htk).1, (div_mul_add htk).2] at e
  rw [e]
  have : l.toArray[j]! = p := by simp [hj', hp]
  rw [this, getElem!_pos]
end

section
variable {P : Program} {α : Type} [Inhabited α]
theorem sortK_of (d : Kd α) (enc : α → List Value) (e : TypeId) (hM : ∀ w base ok x cs, d.M w base ok x cs ↔ cs = enc x) (hk : ∀ x, (enc x).length = d.sz) (f : FuncId) (fv : Value) (T : Array α → Array α)
    (hT : ∀ dd, (T dd).size = dd.size)
    (hN : ∀ (p : Option Addr) (cap : Nat) (w : World), Calls P f #[.slice p 0 cap, fv] w fun e w' => e = .returned (.tuple #[]) ∧ w' = w)
    (hS : ∀ (blk cap : Nat) (dd : Array α) (w : World), HoldsK enc d.sz w blk 0 dd → blk < w.heap.size → dd.size < 4611686018427387904 →
      Calls P f #[.slice (some ⟨blk, 0, none⟩) dd.size cap, fv] w fun e w' => e = .returned (.tuple #[]) ∧ ∃ n os, w' = sortWorldK enc d.sz w blk 0 n (T dd) os)
    (P0 : Nat → Prop) (u : Value) (l : List α) (w0 w : World) (hB : Below w0.heap.size w0 w) (ho : Kd.R d e w w0.heap.size P0 u l) (hlt : l.length < 4611686018427387904) :
    Calls P f #[u, fv] w fun en w' => en = .returned (.tuple #[]) ∧ Kd.R d e w' w0.heap.size (fun k => P0 k ∨ w.heap.size ≤ k) u (T l.toArray).toList ∧ Below w0.heap.size w0 w' ∧ Kept w w' (fun k => P0 k) := by
  obtain ⟨h0, inner, ho, hr⟩ := ho
  have hr' : Reps (fun x cs => cs = enc x) d.sz l inner := hr.imp_ (fun _ _ h => (hM _ _ _ _ _).1 h)
  have hfl := flat_of_reps hk hr'
  have fin : ∀ W, W = w → l = [] → Kd.R d e W w0.heap.size (fun k => P0 k ∨ w.heap.size ≤ k) u (T l.toArray).toList := by
    rintro W rfl rfl
    have : (T ([] : List α).toArray).toList = [] := by
      have := hT ([] : List α).toArray
      exact List.eq_nil_of_length_eq_zero (by rw [Array.length_toList, this]; rfl)
    rw [this]
    exact ⟨fun k hk => .inl (h0 k hk), inner, ho, hr.imp_ (fun _ _ h => (hM _ _ _ _ _).2 ((hM _ _ _ _ _).1 h))⟩
  rcases ho.2 with ⟨rfl, hn⟩ | ⟨g, cap, cur, rfl, hg, hh, hcap, hmax, hsz, htk⟩
  · have hl : l = [] := List.eq_nil_of_length_eq_zero hn
    refine (hN none 0 w).mono ?_
    rintro en w' ⟨rfl, rfl⟩
    exact ⟨rfl, fin _ rfl hl, hB, Kept.refl _ _⟩
  · have hglt : g < w.heap.size := blk_lt hh
    by_cases hl : l = []
    · have e0 : l.length = 0 := by rw [hl]; rfl
      rw [e0]
      refine (hN (some ⟨g, 0, none⟩) cap w).mono ?_
      rintro en w' ⟨rfl, rfl⟩
      refine ⟨rfl, ?_, hB, Kept.refl _ _⟩
      have := fin _ rfl hl
      rw [e0] at this
      exact this
    · have hsl : l.toArray.size = l.length := by simp
      have hH : HoldsK enc d.sz w g 0 l.toArray := by
        intro j hj
        rw [size_flatK, hsl] at hj
        refine ⟨?_, by simp [World.frozen?, hh]⟩
        have e1 : (cur.toList.take (l.length * d.sz))[j]? = some ((flatK enc d.sz l.toArray)[j]!) := by
          rw [htk, hfl, Array.getElem?_toList, getElem!_pos _ _ (by simpa using hj), Array.getElem?_eq_getElem]
        rw [List.getElem?_take_of_lt hj, Array.getElem?_toList] at e1
        simp only [World.cell?, hh, Nat.zero_add]
        simp only [Option.isSome_none, Bool.false_eq_true, if_false]
        rw [e1]
        rfl
      have hc := hS g cap l.toArray w hH hglt (by rw [hsl]; exact hlt)
      rw [hsl] at hc
      refine hc.mono ?_
      rintro en w' ⟨rfl, n, os, rfl⟩
      have hTs : (T l.toArray).toList.length = l.length := by rw [Array.length_toList, hT, hsl]
      have hheap : ∀ i, i < w.heap.size → i ≠ g → (sortWorldK enc d.sz w g 0 n (T l.toArray) os).heap[i]? = w.heap[i]? := by
        intro i hi hne
        unfold sortWorldK
        rw [heap_grow_old _ _ (by simpa [putRowK, putRow, mapBlock, Sort.ahead] using hi)]
        simp [putRowK, putRow, mapBlock, Sort.ahead, Array.getElem?_modify, Ne.symm hne]
      have hhg : (sortWorldK enc d.sz w g 0 n (T l.toArray) os).heap[g]? = some (.cells (putCells id 0 (flatK enc d.sz (T l.toArray)) cur) e (0, 0)) := by
        unfold sortWorldK
        rw [heap_grow_old _ _ (by simpa [putRowK, putRow, mapBlock, Sort.ahead] using hglt)]
        simp [putRowK, putRow, mapBlock, Sort.ahead, Array.getElem?_modify, hh, onCells]
      have hsize : w.heap.size ≤ (sortWorldK enc d.sz w g 0 n (T l.toArray) os).heap.size := by
        simp [sortWorldK, putRowK, putRow, mapBlock, Sort.ahead]
      refine ⟨rfl, ⟨fun k hk => .inl (h0 k hk), (flatK enc d.sz (T l.toArray)).toList, ⟨?_, .inr ⟨g, cap, _, ?_, hg, hhg, ?_, hmax, ?_, ?_⟩⟩, ?_⟩, ?_, hsize, ?_⟩
      · rw [Array.length_toList, size_flatK, hTs, hT, hsl]
      · rw [hTs]
      · rw [hTs]; exact hcap
      · simpa [putCells] using hsz
      · have hfs : (flatK enc d.sz (T l.toArray)).size = l.length * d.sz := by rw [size_flatK, hT, hsl]
        have hle : l.length * d.sz ≤ cur.size := by rw [hsz]; exact Nat.mul_le_mul_right _ hcap
        rw [hTs]
        refine List.ext_getElem (by rw [Array.length_toList (xs := flatK enc d.sz (T l.toArray)), hfs, List.length_take, Array.length_toList (xs := putCells id 0 (flatK enc d.sz (T l.toArray)) cur)]; simp only [putCells, Array.size_mapIdx]; omega) fun t h1 h2 => ?_
        have ht : t < l.length * d.sz := by simpa [hfs] using h2
        rw [List.getElem_take, Array.getElem_toList, Array.getElem_toList]
        simp only [putCells, Array.getElem_mapIdx]
        rw [if_pos (by omega), Nat.sub_zero, getElem!_pos _ _ (by omega)]
        rfl
      · have := reps_of_flat (enc := enc) hk (T l.toArray).toList
        simp only [Array.toArray_toList] at this
        exact this.imp_ (fun _ _ h => (hM _ _ _ _ _).2 h)
      · refine ⟨hB.os, hB.tape, hB.output, Nat.le_trans hB.size hsize, fun i hi => ?_⟩
        rw [hheap i (Nat.lt_of_lt_of_le hi hB.size) (by omega)]
        exact hB.block i hi
      · intro i hi hn
        exact hheap i hi (fun e => hn (by rw [e]; exact h0 g (by simp [Value.ownBlock])))
end
end Go.Proofs.Ytebphbnkogianaa.SortK
