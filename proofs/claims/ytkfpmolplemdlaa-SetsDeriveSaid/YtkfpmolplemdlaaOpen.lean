/- What a reading of the arguments gives: for each kind of value, the facts that the walk's contracts ask for, and bounds on numbers and sizes. Own text. -/
import Derived.Test.YtkfpmolplemdlaaWWords
import Derived.ChangeArms
import Derived.DataReads
import Derived.DataElems
import Derived.SizedLaws
import Derived.Carry
import Derived.WideShapes
set_option linter.unusedVariables false
set_option linter.unusedSimpArgs false
namespace Go.Proofs.Ytkfpmolplemdlaa.Opening
open Go.RowKit Go.Proofs.YtkfpmolplemdlaaW.PrintWords

section
variable {H : Type} {enc : TypeId × Value → H} {P : Program} {W : World}

/-- Data of type t, read with n steps at the most, is a value of the kind d within the bounds B. -/
def Op {α : Type} (enc : TypeId × Value → H) (P : Program) (W : World) (n : Nat) (t : TypeId) (d : Kd α) (B : α → Prop) : Prop :=
  ∀ fuel, fuel ≤ n → ∀ cs y, DataW.trod enc P W 0 (fun _ => true) true fuel t cs = some y → (DataW.weights P t y.1).all (· ≤ reachBytes) = true → ∃ x, d.K W x cs ∧ B x

theorem Op.mono {α : Type} {n m : Nat} {t : TypeId} {d : Kd α} {B : α → Prop} (h : Op enc P W n t d B) (hm : m ≤ n) : Op enc P W m t d B :=
  fun fuel hf => h fuel (Nat.le_trans hf hm)
theorem Op.imp {α : Type} {n : Nat} {t : TypeId} {d : Kd α} {B B' : α → Prop} (h : Op enc P W n t d B) (hB : ∀ x, B x → B' x) : Op enc P W n t d B' := fun fuel hf cs y hy hw =>
  let ⟨x, hx, hb⟩ := h fuel hf cs y hy hw
  ⟨x, hx, hB x hb⟩
theorem Op.zero {α : Type} {t : TypeId} {d : Kd α} {B : α → Prop} : Op enc P W 0 t d B := by
  intro fuel hf cs y hy
  obtain rfl : fuel = 0 := by omega
  simp [DataW.trod] at hy

theorem op_int {n : Nat} {t : TypeId} {k : IntKind} (hu : P.underlying t = some (.int k)) : Op enc P W n t (Kd.int k) (fun x => (Lit.int k x).wf = true) := by
  intro fuel _ cs y hy _
  obtain ⟨m, rfl, _, hw⟩ := DataW.trod_int hu hy
  exact ⟨m, rfl, hw⟩
theorem op_bool {n : Nat} {t : TypeId} (hu : P.underlying t = some .bool) : Op enc P W n t Kd.bool (fun _ => True) := by
  intro fuel _ cs y hy _
  obtain ⟨m, rfl, _⟩ := DataW.trod_bool hu hy
  exact ⟨m, rfl, trivial⟩
theorem op_string {n : Nat} {t : TypeId} (hu : P.underlying t = some .string) : Op enc P W n t Kd.string (fun s => s.size ≤ 140737488351232) := by
  intro fuel _ cs y hy hw
  obtain ⟨s, rfl, rfl, _⟩ := DataW.trod_string hu hy
  refine ⟨s, rfl, ?_⟩
  simp only [DataW.weights, List.all_cons, List.all_nil, Bool.and_true, decide_eq_true_eq, Array.length_toList] at hw
  exact hw

theorem weights_all {e : TypeId} : ∀ {ds : List (DataW H)}, (DataW.weightsAll P e ds).all (· ≤ reachBytes) = true → ∀ d ∈ ds, (DataW.weights P e d).all (· ≤ reachBytes) = true
  | [], _, d, hd => by cases hd
  | x :: r, h, d, hd => by
    rw [DataW.weightsAll, List.all_append, Bool.and_eq_true] at h
    rcases List.mem_cons.1 hd with rfl | hd
    · exact h.1
    · exact weights_all h.2 d hd

theorem choose_list {α : Type} {Q : Nat → α → Prop} : ∀ n : Nat, (∀ i, i < n → ∃ x, Q i x) → ∃ xs : List α, xs.length = n ∧ ∀ i x, xs[i]? = some x → Q i x
  | 0, _ => ⟨[], rfl, by simp⟩
  | n + 1, h => by
    obtain ⟨xs, hl, hq⟩ := choose_list n (fun i hi => h i (by omega))
    obtain ⟨x, hx⟩ := h n (by omega)
    refine ⟨xs ++ [x], by simp [hl], fun i y hy => ?_⟩
    by_cases hi : i < n
    · rw [List.getElem?_append_left (by omega)] at hy
      exact hq i y hy
    · rw [List.getElem?_append_right (by omega)] at hy
      have : i - xs.length = 0 := by
        by_cases h0 : i - xs.length = 0
        · exact h0
        · rw [List.getElem?_eq_none (by simp; omega)] at hy
          cases hy
      rw [this] at hy
      obtain rfl : x = y := by simpa using hy
      obtain rfl : i = n := by omega
      exact hx

theorem op_slice {α : Type} {n : Nat} {t e e' b : TypeId} {d : Kd α} {B : α → Prop} (hu : P.underlying t = some (.slice e)) (hc : P.cellsOf e = d.sz) (hb : P.bytesOf e = b) (h : Op enc P W n e d B) :
    Op enc P W (n + 1) t (Kd.slice e' d) (fun xs => xs.length * b ≤ 140737488351232 ∧ ∀ x ∈ xs, B x) := by
  intro fuel hf cs y hy hw
  rcases DataW.trod_slice hu hy with ⟨rfl, rfl⟩ | ⟨a, len, cap, elems, rest, m, rfl, rfl, rfl, _, hlc, hcap, hel, hget, _, _⟩
  · exact ⟨[], ⟨none, 0, rfl, Nat.le_refl _, rfl, by simp, fun h0 => absurd h0 (by simp)⟩, by simp⟩
  · rw [DataW.weights, hu] at hw
    simp only [List.all_cons, List.all_append, Bool.and_eq_true, decide_eq_true_eq, List.length_map] at hw
    obtain ⟨hw0, hw1, _⟩ := hw
    have hall := weights_all hw1
    have key : ∀ i, i < len → ∃ x : α, (∃ c, c.length = d.sz ∧ d.K W x c ∧ ∀ j u, c[j]? = some u → W.cell? (a.add (i * d.sz + j)) = some u) ∧ B x := by
      intro i hi
      have hg := hget i hi
      rw [List.getElem?_eq_getElem (by omega)] at hg
      obtain ⟨c, hc1, hc2⟩ := Option.bind_eq_some_iff.1 hg
      obtain ⟨_, hl, hcell⟩ := World.cells?_some hc1
      obtain ⟨x, hx, hB⟩ := h m (by omega) c _ hc2 (hall _ (List.mem_map.2 ⟨_, List.getElem_mem _, rfl⟩))
      refine ⟨x, ⟨c, by rw [hl, hc], hx, fun j u hu' => ?_⟩, hB⟩
      have hj : j < P.cellsOf e := by
        have := (List.getElem?_eq_some_iff.1 hu').1
        omega
      have := hcell j hj
      rw [Addr.add_add, hc] at this
      rw [this, hu']
    obtain ⟨xs, hl, hxs⟩ := choose_list len key
    refine ⟨xs, ⟨some a, cap, by rw [hl], by omega, rfl, ?_, fun _ => ⟨a, rfl, fun j p hj => (hxs j p hj).1⟩⟩, ?_, ?_⟩
    · have : maxLen = 9223372036854775807 := rfl
      omega
    · rw [hb] at hw0
      have e1 : reachBytes = 140737488351232 := rfl
      have : xs.length * b ≤ (elems.length + rest.length) * b := Nat.mul_le_mul_right _ (by omega)
      omega
    · intro x hx
      obtain ⟨i, hi, rfl⟩ := List.mem_iff_getElem.1 hx
      exact (hxs i _ (List.getElem?_eq_getElem hi)).2

/-- The fields fs of a struct, from cell off on. -/
def OpFs {α : Type} (enc : TypeId × Value → H) (P : Program) (W : World) (n : Nat) (fs : List Field) (off : Nat) (d : Kd α) (B : α → Prop) : Prop :=
  ∀ fuel, fuel ≤ n → ∀ (cs : List Value) (ys : List (DataW H × List MemPlace)), ys.length = fs.length → (∀ (i : Nat) (f : Field), fs[i]? = some f → DataW.trod enc P W 0 (fun _ => true) true fuel f.type ((cs.drop f.offset).take (P.cellsOf f.type)) = ys[i]?) →
    cs.length = off + d.sz → (DataW.weightsEach P (fs.map (·.type)) (ys.map (·.1))).all (· ≤ reachBytes) = true → ∃ x, d.K W x (cs.drop off) ∧ B x
theorem opf_last {α : Type} {n off : Nat} {f : Field} {d : Kd α} {B : α → Prop} (ho : f.offset = off) (hc : P.cellsOf f.type = d.sz) (h : Op enc P W n f.type d B) : OpFs enc P W n [f] off d B := by
  intro fuel hf cs ys hl hget hlen hw
  match ys, hl with
  | [y], _ =>
    have hg := hget 0 f rfl
    simp only [List.map_cons, List.map_nil, DataW.weightsEach, List.append_nil] at hw
    rw [ho, hc, List.take_of_length_le (by rw [List.length_drop]; omega)] at hg
    exact h fuel hf _ y hg hw
theorem opf_cons {α β : Type} {n off : Nat} {f : Field} {fs : List Field} {a : Kd α} {b : Kd β} {Ba : α → Prop} {Bb : β → Prop} (ho : f.offset = off) (hc : P.cellsOf f.type = a.sz) (h : Op enc P W n f.type a Ba) (hr : OpFs enc P W n fs (off + a.sz) b Bb) :
    OpFs enc P W n (f :: fs) off (Kd.pair a b) (fun x => Ba x.1 ∧ Bb x.2) := by
  intro fuel hf cs ys hl hget hlen hw
  have hlen' : cs.length = off + (a.sz + b.sz) := hlen
  match ys, hl with
  | y :: ys, hl =>
    have hg := hget 0 f rfl
    simp only [List.map_cons, DataW.weightsEach, List.all_append, Bool.and_eq_true] at hw
    rw [ho, hc] at hg
    obtain ⟨x, hx, hB⟩ := h fuel hf _ y hg hw.1
    obtain ⟨z, hz, hB'⟩ := hr fuel hf cs ys (by simpa using hl) (fun i g hi => hget (i + 1) g hi) (by omega) hw.2
    refine ⟨(x, z), ⟨_, _, ?_, hx, hz⟩, hB, hB'⟩
    have e : cs.drop (off + a.sz) = (cs.drop off).drop a.sz := by simp [List.drop_drop, Nat.add_comm]
    rw [e, List.take_append_drop]
theorem op_struct {α β : Type} {n : Nat} {t : TypeId} {fs : Array Field} {d : Kd α} {B : α → Prop} {f : β → α} (g : α → β) (hfg : ∀ x, f (g x) = x) (hu : P.underlying t = some (.struct fs)) (hc : P.cellsOf t = d.sz) (h : OpFs enc P W n fs.toList 0 d B) :
    Op enc P W (n + 1) t (Kd.iso d f) (fun s => B (f s)) := by
  intro fuel hf cs y hy hw
  obtain ⟨xs, m, rfl, rfl, hl, hlen, hget⟩ := DataW.trod_struct hu hy
  rw [DataW.weights, hu] at hw
  obtain ⟨x, hx, hB⟩ := h m (by omega) cs xs (by simpa using hlen) (fun i f hi => hget i f (by simpa using hi)) (by omega) hw
  refine ⟨g x, ?_, by show B (f (g x)); rw [hfg]; exact hB⟩
  show d.K W (f (g x)) cs
  rw [hfg]
  exact hx

theorem ops_slice {α : Type} {t e e' b : TypeId} {d : Kd α} {B : α → Prop} (hu : P.underlying t = some (.slice e)) (hc : P.cellsOf e = d.sz) (hb : P.bytesOf e = b) (h : ∀ n, Op enc P W n e d B) :
    ∀ n, Op enc P W n t (Kd.slice e' d) (fun xs => xs.length * b ≤ 140737488351232 ∧ ∀ x ∈ xs, B x) := fun n => (op_slice hu hc hb (h n)).mono (Nat.le_succ n)
theorem ops_struct {α β : Type} {t : TypeId} {fs : Array Field} {d : Kd α} {B : α → Prop} {f : β → α} (g : α → β) (hfg : ∀ x, f (g x) = x) (hu : P.underlying t = some (.struct fs)) (hc : P.cellsOf t = d.sz) (h : ∀ n, OpFs enc P W n fs.toList 0 d B) :
    ∀ n, Op enc P W n t (Kd.iso d f) (fun s => B (f s)) := fun n => (op_struct g hfg hu hc (h n)).mono (Nat.le_succ n)
theorem opsf_last {α : Type} {off : Nat} {f : Field} {d : Kd α} {B : α → Prop} (ho : f.offset = off) (hc : P.cellsOf f.type = d.sz) (h : ∀ n, Op enc P W n f.type d B) : ∀ n, OpFs enc P W n [f] off d B := fun n => opf_last ho hc (h n)
theorem opsf_cons {α β : Type} {off : Nat} {f : Field} {fs : List Field} {a : Kd α} {b : Kd β} {Ba : α → Prop} {Bb : β → Prop} (ho : f.offset = off) (hc : P.cellsOf f.type = a.sz) (h : ∀ n, Op enc P W n f.type a Ba) (hr : ∀ n, OpFs enc P W n fs (off + a.sz) b Bb) :
    ∀ n, OpFs enc P W n (f :: fs) off (Kd.pair a b) (fun x => Ba x.1 ∧ Bb x.2) := fun n => opf_cons ho hc (h n) (hr n)

/-- From an argument's reading to its value. -/
theorem op_arg {α : Type} {t : TypeId} {d : Kd α} {B : α → Prop} (h : ∀ n, Op enc P W n t d B) {v : Value} {y : DataW H} {ps : List MemPlace} (ht : DataW.Trod enc P W 0 (fun _ => true) true t v y ps) {ts : List TypeId} {ds : List (DataW H)} {j : Nat}
    (hsz : (DataW.weightsEach P ts ds).all (· ≤ reachBytes) = true) (hj : ts[j]? = some t) (hd : ds[j]? = some y) : ∃ x, d.K W x v.cells.toList ∧ B x := by
  obtain ⟨fuel, hf⟩ := ht
  refine h fuel fuel (Nat.le_refl _) _ _ hf ?_
  rw [List.all_eq_true] at hsz ⊢
  intro n hn
  exact hsz n (DataW.weights_mem_each hj hd n hn)

end
end Go.Proofs.Ytkfpmolplemdlaa.Opening
