/- span.Text walked: the pieces of a text, written one after the other. No condition but that the slices are right and the whole has at most 2^47 bytes. -/
import Derived.Test.YtebphbnkogianaaRg
import Derived.Test.YtebphbnkogianaaBld
namespace Go.Proofs.Ytebphbnkogianaa.Txt
open Go Go.RowKit Go.Shelf Go.Proofs.YtebphbnkogianaaW.PrintWords Go.Proofs.Ytebphbnkogianaa.Round Go.Proofs.Ytebphbnkogianaa.Rg
attribute [local go_sem] Oper.semAt_some
set_option linter.unusedVariables false
set_option linter.unusedSimpArgs false
theorem bld_alloc {T e : TypeId} {w : World} {B b : Nat} {bs : List Value} (h : Lib.IsBuilder T e B b bs w) (o : Obj) : Lib.IsBuilder T e B b bs (w.alloc o) := by
  have g : ∀ p, Lib.BuilderAt T e B b p bs w → Lib.BuilderAt T e B b p bs (w.alloc o) := by
    rintro p ⟨hB, v, hb, hown, hne⟩
    exact ⟨hB, v, (Lib.alloc_old w o b (Lib.BuilderAt.lt ⟨hB, v, hb, hown, hne⟩)).trans hb, hown.alloc _, hne⟩
  rcases h with h | h
  · exact .inl (g _ h)
  · exact .inr (g _ h)
def piece (s : ByteArray) (r : R) : ByteArray := s.extract (min r.1 (s.size : Int)).toNat (min r.2 (s.size : Int)).toNat
def bytes (s : ByteArray) (l : List R) : List UInt8 := l.flatMap fun r => (piece s r).data.toList
def textV (s : ByteArray) (l : List R) : ByteArray := ⟨(bytes s l).toArray⟩
def Good (s : ByteArray) (l : List R) : Prop := (∀ r ∈ l, 0 ≤ r.1 ∧ min r.1 (s.size : Int) ≤ min r.2 (s.size : Int)) ∧ (bytes s l).length ≤ 140737488355328
instance (s : ByteArray) (l : List R) : Decidable (Good s l) := by unfold Good; infer_instance
set_option maxRecDepth 100000 in
set_option maxHeartbeats 4000000 in
theorem text_calls (s : ByteArray) (A : Option Addr) (cap : Nat) (l : List R) (w : World) (hs : s.size ≤ 9223372036854775807) (hC : Kd.C kR w A l.length l) (hg : Good s l) :
    Calls Try.prog 10 #[.string s, .slice A l.length cap] w fun e w' => e = .returned (.string (textV s l)) ∧ Below w.heap.size w w' := by
  have hlen : l.length ≤ 9223372036854775807 := hC.2.1
  go_enter Try.func10, Try.ntmps10
  go_wp2
  go_loopw [10] (fun i wr => ∃ k : Nat, i = .int .i64 k ∧ k ≤ l.length ∧ Below w.heap.size w wr ∧ Lib.IsBuilder 41 5 w.heap.size w.heap.size (Lib.byteCells (bytes s (l.take k))) wr) (fun i _ => l.length - (intOf i).toNat)
  case atStart => exact ⟨0, rfl, Nat.zero_le _, (Below.refl _ _).alloc (Nat.le_refl _) _, Lib.fresh_isBuilder 41 5 w⟩
  case round =>
    obtain ⟨k, rfl, hk, hB, hb⟩ := hrel
    by_cases hlt : k < l.length
    · obtain ⟨ad, x, rfl, hx, c0, c1⟩ := atR (Kd.C_below hC hB) k hlt
      obtain ⟨hg1, hg2⟩ := hg
      have hxm : x ∈ l := List.mem_of_getElem? hx
      obtain ⟨hx0, hx1⟩ := hg1 x hxm
      have hsl := fun wx => run_slice_string (P := Try.prog) wx 9 s .i64 .i64 (min x.1 (s.size : Int)) (min x.2 (s.size : Int)) Try.underlying9 (by omega) hx1 (by omega)
      have htk : bytes s (l.take (k + 1)) = bytes s (l.take k) ++ (piece s x).data.toList := by
        obtain ⟨hj, he⟩ := List.getElem?_eq_some_iff.1 hx
        unfold bytes
        rw [List.take_succ_eq_append_getElem hj, he, List.flatMap_append]
        simp
      have hle : (bytes s (l.take k)).length + (piece s x).size ≤ 140737488355328 := by
        have e : bytes s l = bytes s (l.take (k + 1)) ++ bytes s (l.drop (k + 1)) := by
          unfold bytes
          rw [← List.flatMap_append, List.take_append_drop]
        have := congrArg List.length e
        rw [htk] at this
        simp only [List.length_append] at this
        have e2 : (piece s x).data.toList.length = (piece s x).size := by rw [Array.length_toList]; rfl
        omega
      clear hg1 hx0 hx1
      go_wp2_with (go_at_call 25; refine (Bld.write w.heap.size w.heap.size (Lib.byteCells (bytes s (l.take k))) (piece s x) _ (bld_alloc hb _) (by rw [Lib.byteCells_length]; exact hle) (by have := hB.size; simp; omega)).mono ?_)
      rintro e W2 ⟨rfl, hb2, hB2⟩
      have hb3 : Lib.IsBuilder 41 5 w.heap.size w.heap.size (Lib.byteCells (bytes s (l.take (k + 1)))) W2 := by
        rw [htk, Lib.byteCells_append, ← Lib.strCells_eq]
        exact .inr hb2
      have hB3 : Below w.heap.size w W2 := (hB.alloc hB.size _).trans hB2
      clear hb2 hB2 htk hle hsl
      go_wp2
      go_roundw
      case rel => exact ⟨k + 1, by first | rfl | (congr 1; omega), by omega, hB3, hb3⟩
      case measure => simp [intOf]; omega
    · obtain rfl : k = l.length := by omega
      rw [List.take_length] at hb
      have hgo : Calls Try.prog 26 #[.pointer (some ⟨w.heap.size, 0, none⟩)] wr _ := Bld.string w.heap.size w.heap.size (bytes s l) wr hb hB.size
      go_wp2_with (go_at_call 26; refine hgo.mono ?_)
      rintro e W2 ⟨rfl, hB2⟩
      have hB3 : Below w.heap.size w W2 := hB.trans hB2
      go_wp2
      go_ret
      exact ⟨rfl, hB3⟩
end Go.Proofs.Ytebphbnkogianaa.Txt
