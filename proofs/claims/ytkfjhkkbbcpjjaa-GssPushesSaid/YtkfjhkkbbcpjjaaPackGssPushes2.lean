import Derived.Shelf.SlGeneric
import Derived.Shelf.Sort.Plain
import Derived.Shelf.Slices.In.SortNone
import Derived.Shelf.Slices.CompactI
import Derived.Test.YtkfjhkkbbcpjjaaProg
import Derived.Sort.OwnSortedInts
import Derived.Laws.AppendOwnNone
import Derived.RangeFuncNested
import Derived.RangeFuncBound
import Derived.RangeFuncCalls
import Derived.RangeFuncLeaves
import Derived.RangeFuncBox
import Derived.Deep.LoopGhost
import Derived.Maps.AppendAt
import Derived.TacticsInMore
import Derived.LoopNIn
import Derived.LoopIn
import Derived.OwnWalkIn
import Derived.Laws.EntriesVeiled
import Derived.Below
import Derived.Deep.Draws
import Derived.Deep.AppendLies
import Derived.OwnWalk
import Derived.Laws.BytesArg
import Derived.Laws.MakeOwn
import Derived.Laws.OwnMore
import Derived.Deep.OwnRows
import Derived.Tactics
import Derived.Lib.ConvBytes
import Derived.Laws.Slices
import Derived.WalkKit
import Derived.KernelRfl
import Derived.RowKit3
import Derived.Deep.QuietTactic
import Derived.BigQuiet
import Derived.WideLaws
import Derived.Deep.DeepCutAuto
import Derived.Deep.CutBlock
import Derived.Deep.RegionHeld3
import Derived.Laws.Rows
import Derived.Lib.AppendStr
import Derived.ArgAppend
import Derived.Laws.IdiomCopy
import Derived.OrdersHeld
import Derived.Laws.BitsLemmas
import Derived.RowKit
import Derived.Lib.Strings
import Derived.Lib.Bytealg
import Derived.Lib.Slices
import Derived.Lib.Walk
import Derived.Test.YtkfjhkkbbcpjjaaPackGssPushes1
set_option linter.unusedVariables false
set_option linter.unusedSimpArgs false
set_option maxRecDepth 100000
set_option maxHeartbeats 8000000
section
namespace Go.Proofs
open Go.Shelf
def Try.YtkfjhkkbbcpjjaasortI_ren : Go.Shelf.Ren := ⟨fun | 189 => 35 | 125 => 56 | 257 => 55 | 128 => 70 | 129 => 71 | 294 => 61 | 295 => 62 | 296 => 63 | 297 => 64 | 298 => 65 | 299 => 66 | 216 => 67 | 300 => 68 | 301 => 69 | 328 => 74 | 329 => 75 | 330 => 76 | 331 => 77 | 332 => 78 | 215 => 73 | 343 => 87 | n => n, fun | 28 => 31 | 3 => 3 | 46 => 76 | 0 => 0 | 51 => 92 | 53 => 94 | 4 => 4 | 183 => 84 | 182 => 83 | 131 => 89 | 5 => 5 | 9 => 9 | 218 => 96 | 222 => 100 | 228 => 107 | 229 => 108 | n => n, fun | n => n⟩
theorem Try.YtkfjhkkbbcpjjaasortI : Go.Proofs.Lays.n189 Try.prog Try.YtkfjhkkbbcpjjaasortI_ren := {
 mixed := by kernel_rfl
 f125 := Try.func56.trans (congrArg some (by kernel_rfl))
 f128 := Try.func70.trans (congrArg some (by kernel_rfl))
 f129 := Try.func71.trans (congrArg some (by kernel_rfl))
 f189 := Try.func35.trans (congrArg some (by kernel_rfl))
 f215 := Try.func73.trans (congrArg some (by kernel_rfl))
 f216 := Try.func67.trans (congrArg some (by kernel_rfl))
 f257 := Try.func55.trans (congrArg some (by kernel_rfl))
 f294 := Try.func61.trans (congrArg some (by kernel_rfl))
 f295 := Try.func62.trans (congrArg some (by kernel_rfl))
 f296 := Try.func63.trans (congrArg some (by kernel_rfl))
 f297 := Try.func64.trans (congrArg some (by kernel_rfl))
 f298 := Try.func65.trans (congrArg some (by kernel_rfl))
 f299 := Try.func66.trans (congrArg some (by kernel_rfl))
 f300 := Try.func68.trans (congrArg some (by kernel_rfl))
 f301 := Try.func69.trans (congrArg some (by kernel_rfl))
 f328 := Try.func74.trans (congrArg some (by kernel_rfl))
 f329 := Try.func75.trans (congrArg some (by kernel_rfl))
 f330 := Try.func76.trans (congrArg some (by kernel_rfl))
 f331 := Try.func77.trans (congrArg some (by kernel_rfl))
 f332 := Try.func78.trans (congrArg some (by kernel_rfl))
 f343 := Try.func87.trans (congrArg some (by kernel_rfl))
 t0 := Try.underlying0
 a0 := Try.isAgg0
 z0 := Try.sizeOf0
 v0 := Try.zeroValue0
 t3 := Try.underlying3
 a3 := Try.isAgg3
 z3 := Try.sizeOf3
 v3 := Try.zeroValue3
 t4 := Try.underlying4
 a4 := Try.isAgg4
 z4 := Try.sizeOf4
 v4 := Try.zeroValue4
 t5 := Try.underlying5
 a5 := Try.isAgg5
 z5 := Try.sizeOf5
 v5 := Try.zeroValue5
 t9 := Try.underlying9
 a9 := Try.isAgg9
 z9 := Try.sizeOf9
 v9 := Try.zeroValue9
 t28 := Try.underlying31
 a28 := Try.isAgg31
 z28 := Try.sizeOf31
 v28 := Try.zeroValue31
 t46 := Try.underlying76
 a46 := Try.isAgg76
 z46 := Try.sizeOf76
 v46 := Try.zeroValue76
 t51 := Try.underlying92
 a51 := Try.isAgg92
 z51 := Try.sizeOf92
 v51 := Try.zeroValue92
 t53 := Try.underlying94
 a53 := Try.isAgg94
 z53 := Try.sizeOf94
 v53 := Try.zeroValue94
 t131 := Try.underlying89
 a131 := Try.isAgg89
 z131 := Try.sizeOf89
 v131 := Try.zeroValue89
 t182 := Try.underlying83
 a182 := Try.isAgg83
 z182 := Try.sizeOf83
 v182 := Try.zeroValue83
 t183 := Try.underlying84
 a183 := Try.isAgg84
 z183 := Try.sizeOf84
 v183 := Try.zeroValue84
 t218 := Try.underlying96
 a218 := Try.isAgg96
 z218 := Try.sizeOf96
 v218 := Try.zeroValue96
 t222 := Try.underlying100
 a222 := Try.isAgg100
 z222 := Try.sizeOf100
 v222 := Try.zeroValue100
 t228 := Try.underlying107
 a228 := Try.isAgg107
 z228 := Try.sizeOf107
 v228 := Try.zeroValue107
 t229 := Try.underlying108
 a229 := Try.isAgg108
 z229 := Try.sizeOf108
 v229 := Try.zeroValue108 }
def Try.YtkfjhkkbbcpjjaacompI_ren : Go.Shelf.Ren := ⟨fun | 20 => 36 | n => n, fun | 22 => 31 | 3 => 3 | 4 => 4 | 0 => 0 | n => n, fun | n => n⟩
theorem Try.YtkfjhkkbbcpjjaacompI : Go.Proofs.Lays2.n20 Try.prog Try.YtkfjhkkbbcpjjaacompI_ren := {
 mixed := by kernel_rfl
 f20 := Try.func36.trans (congrArg some (by kernel_rfl))
 t0 := Try.underlying0
 a0 := Try.isAgg0
 z0 := Try.sizeOf0
 v0 := Try.zeroValue0
 t3 := Try.underlying3
 a3 := Try.isAgg3
 z3 := Try.sizeOf3
 v3 := Try.zeroValue3
 t4 := Try.underlying4
 a4 := Try.isAgg4
 z4 := Try.sizeOf4
 v4 := Try.zeroValue4
 t22 := Try.underlying31
 a22 := Try.isAgg31
 z22 := Try.sizeOf31
 v22 := Try.zeroValue31
 i3 := by kernel_rfl }
end Go.Proofs
end
section
namespace Go.Proofs.ZZ.GSrt
open Go Go.RowKit Go.Shelf Go.Maps Go.Sort Go.Proofs.ZW.PrintWords Go.Proofs.ZW.PrintLast Go.Proofs.ZZ.GMap Go.Proofs.ZZ.GK Go.Proofs.ZZ.G16 Go.Proofs.ZZ.GGr Go.Proofs.ZZ.GAdd Go.Proofs.ZZ.GOrd Go.Proofs.ZZ.GTop
abbrev Rises (l : List Int) : Prop := l.Pairwise (· < ·)
def nums (l : List Int) : List Value := l.map (Value.int .i64)
def sorted (l : List Int) : List Int := l.mergeSort fun x y => decide (x ≤ y)
theorem sort_own (base : Nat) (v : Value) (l : List Int) (w : World) (h : w.ownsRow base TI 1 v l.length (nums l)) (hl : l.length < 4611686018427387904) :
  Calls Try.prog 35 #[v] w fun e w' => e = .returned (.tuple #[]) ∧ w'.ownsRow base TI 1 v l.length (nums (sorted l)) ∧ w.grownBy w' v.ownBlock := by
 have hsl : (sorted l).length = l.length := List.length_mergeSort l
 have hnil : l = [] → ∀ p c, v = .slice p 0 c → Calls Try.prog 35 #[v] w fun e w' => e = .returned (.tuple #[]) ∧ w'.ownsRow base TI 1 v l.length (nums (sorted l)) ∧ w.grownBy w' v.ownBlock := by
  intro hl0 p c hv
  subst hl0
  have hc := Any.slices_Sort_int_none Try.YtkfjhkkbbcpjjaasortI p c w
  rw [hv] at h ⊢
  refine hc.mono ?_
  rintro e w' ⟨rfl, rfl⟩
  exact ⟨rfl, by simpa [sorted, nums] using h, rfl, rfl, rfl, Nat.le_refl _, fun _ _ _ => rfl⟩
 rcases h.2 with ⟨hv, hn⟩ | ⟨g, cap, cur, hv, hg, hh, hcap, hmax, hsz, htk⟩
 ·exact hnil (List.eq_nil_of_length_eq_zero hn) _ _ hv
 ·by_cases hl0 : l = []
  ·refine hnil hl0 (some ⟨g, 0, none⟩) cap ?_
   rw [hv, hl0]
   rfl
  ·have hH := holds_of_blockI (ss := l) hh (by simpa [nums] using htk)
   have hc := Any.slices_Sort_int Try.YtkfjhkkbbcpjjaasortI g 0 cap l w hH (zbj hh) hl
   rw [hv]
   refine hc.mono ?_
   rintro e w' ⟨rfl, n, os, rfl⟩
   exact ⟨rfl, ownsRow_sortedI (ss := l) (ts := sorted l) hsl hg hh hcap hmax hsz, grownBy_sortedI _⟩
theorem compact_own (base : Nat) (v : Value) (l : List Int) (w : World) (h : w.ownsRow base TI 1 v l.length (nums l)) :
  Calls Try.prog 36 #[v] w fun e w' => ∃ v', e = .returned v' ∧ w'.ownsRow base TI 1 v' (Lib.compact l).length (nums (Lib.compact l)) ∧ w.grownBy w' v.ownBlock ∧ (∀ k, v'.ownBlock = some k → v.ownBlock = some k) := by
 have hnil : l = [] → ∀ p c, v = .slice p 0 c → Calls Try.prog 36 #[v] w fun e w' => ∃ v', e = .returned v' ∧ w'.ownsRow base TI 1 v' (Lib.compact l).length (nums (Lib.compact l)) ∧ w.grownBy w' v.ownBlock ∧ (∀ k, v'.ownBlock = some k → v.ownBlock = some k) := by
  intro hl0 p c hv
  subst hl0
  have hc := Any.slices_Compact_int_empty Try.YtkfjhkkbbcpjjaacompI p c w
  rw [hv] at h ⊢
  refine hc.mono ?_
  rintro e w' ⟨rfl, rfl⟩
  exact ⟨_, rfl, h, ⟨rfl, rfl, rfl, Nat.le_refl _, fun _ _ _ => rfl⟩, fun k hk => hk⟩
 rcases h.2 with ⟨hv, hn⟩ | ⟨g, cap, cur, hv, hg, hh, hcap, hmax, hsz, htk⟩
 ·exact hnil (List.eq_nil_of_length_eq_zero hn) _ _ hv
 ·by_cases hl0 : l = []
  ·refine hnil hl0 (some ⟨g, 0, none⟩) cap ?_
   rw [hv, hl0]
   rfl
  ·have hH := holds_of_blockI (ss := l) hh (by simpa [nums] using htk)
   have hc := Any.slices_Compact_int Try.YtkfjhkkbbcpjjaacompI g 0 cap l w hH (by unfold maxLen at hmax; omega) hcap
   rw [hv]
   refine hc.mono ?_
   rintro e w' ⟨rfl, q, rfl⟩
   have hcl : (Lib.compact l).length ≤ l.length := by
    unfold Lib.compact Lib.compactUpTo
    rw [List.length_map]
    exact Nat.le_trans (List.length_filter_le _ _) (by simp)
   have hw : ∀ d : Array Int, putRow (Value.int .i64) (Sort.ahead w q) g 0 d = grow (putRow (Value.int .i64) (Sort.ahead w q) g 0 d) #[] := fun d => (grow_empty _).symm
   refine ⟨_, rfl, ?_, ?_, fun k hk => hk⟩
   ·rw [hw]
    refine ⟨by simp [nums], .inr ⟨g, cap, _, rfl, hg, heap_sortedI _ hh, by omega, hmax, by simp [putCells, hsz], ?_⟩⟩
    have h1 := take_putCellsI cur (Lib.compact l ++ List.replicate (l.length - (Lib.compact l).length) 0) (by simp; omega)
    have h2 := congrArg (List.take (Lib.compact l).length) h1
    rw [List.take_take, Nat.min_eq_left (by simp)] at h2
    rw [Nat.mul_one, h2]
    simp [nums]
   ·rw [hw]
    exact grownBy_sortedI _
theorem zgx (zs : List Int) (hs : zs.Pairwise (· ≤ ·)) : ∀ m, m ≤ zs.length → Rises (Lib.compactUpTo zs.toArray m) ∧ ∀ x, x ∈ Lib.compactUpTo zs.toArray m ↔ x ∈ zs.take m
 | 0, _ => by
  have : Lib.compactUpTo zs.toArray 0 = [] := rfl
  rw [this]
  exact ⟨List.Pairwise.nil, fun x => by simp⟩
 | m + 1, h => by
  obtain ⟨h1, h2⟩ := zgx zs hs m (by omega)
  have hg : ∀ (i : Nat) (hi : i < zs.length), zs.toArray[i]! = zs[i] := fun i hi => by simp [hi]
  have hle : ∀ (i j : Nat) (hi : i < zs.length) (hj : j < zs.length), i ≤ j → zs[i] ≤ zs[j] := fun i j hi hj hij => by
   rcases Nat.lt_or_ge i j with h | h
   ·exact List.pairwise_iff_getElem.1 hs i j hi hj h
   ·obtain rfl : i = j := by omega
    exact Int.le_refl _
  have ht : ∀ x, x ∈ zs.take (m + 1) ↔ x ∈ zs.take m ∨ x = zs[m] := fun x => by
   rw [List.take_add_one, List.getElem?_eq_getElem (show m < zs.length by omega), List.mem_append]
   simp only [Option.toList_some, List.mem_singleton]
  rw [Lib.compactUpTo_succ]
  by_cases hk : Lib.keeps zs.toArray m = true
  ·rw [if_pos hk, hg m (by omega)]
   refine ⟨?_, fun x => by rw [ht, List.mem_append, h2, List.mem_singleton]⟩
   refine List.pairwise_append.2 ⟨h1, List.pairwise_singleton _ _, fun a ha b hb => ?_⟩
   rw [List.mem_singleton] at hb
   subst hb
   rw [h2] at ha
   obtain ⟨i, hi, rfl⟩ := List.mem_iff_getElem.1 ha
   rw [List.length_take] at hi
   rw [List.getElem_take]
   have h3 := hle i (m - 1) (by omega) (by omega) (by omega)
   have h4 := hle (m - 1) m (by omega) (by omega) (by omega)
   have h5 : zs[m] ≠ zs[m - 1] := by
    have := hk
    simp only [Lib.keeps, Bool.or_eq_true, decide_eq_true_eq, beq_iff_eq, bne_iff_ne] at this
    rcases this with h | h
    ·omega
    ·rwa [hg m (by omega), hg (m - 1) (by omega)] at h
   omega
  ·rw [if_neg hk, List.append_nil]
   refine ⟨h1, fun x => ?_⟩
   rw [ht, h2]
   refine ⟨.inl, fun h => h.elim id fun h => ?_⟩
   subst h
   have hm : 0 < m := by
    rcases Nat.eq_zero_or_pos m with rfl | h
    ·exact absurd (Lib.keeps_lt_one _ 0 (by omega)) hk
    ·exact h
   have h5 : zs[m] = zs[m - 1] := by
    apply Decidable.byContradiction
    intro hne
    exact hk (Lib.keeps_pos (by rw [hg m (by omega), hg (m - 1) (by omega)]; exact hne))
   rw [h5]
   exact List.mem_iff_getElem.2 ⟨m - 1, by rw [List.length_take]; omega, by rw [List.getElem_take]⟩
theorem sorted_le (l : List Int) : (sorted l).Pairwise (· ≤ ·) := by
 have hs : (sorted l).Pairwise fun x y => decide (x ≤ y) = true := List.pairwise_mergeSort (by intro a b c h1 h2; simp at *; omega) (by intro a b; simp; omega) _
 exact hs.imp fun h => by simpa using h
theorem sorted_perm (l : List Int) : (sorted l).Perm l := List.mergeSort_perm _ _
theorem sorted_isI {l : List Int} (h : l.Nodup) : sorted l = isI l := by
 have hn : (sorted l).Nodup := (sorted_perm l).nodup_iff.2 h
 refine zdw (lt := (· < ·)) (fun a => Int.lt_irrefl a) (fun {a b c} => Int.lt_trans) (((sorted_le l).and hn).imp ?_) (zgi h) (fun x => (sorted_perm l).mem_iff.trans zbx.symm)
 rintro a b ⟨h1, h2⟩
 omega
theorem zf5 (l : List Int) : Rises (Lib.compact (sorted l)) ∧ ∀ x, x ∈ Lib.compact (sorted l) ↔ x ∈ l := by
 obtain ⟨h1, h2⟩ := zgx (sorted l) (sorted_le l) (sorted l).length (Nat.le_refl _)
 have e : Lib.compact (sorted l) = Lib.compactUpTo (sorted l).toArray (sorted l).length := by unfold Lib.compact; simp
 rw [e]
 exact ⟨h1, fun x => by rw [h2, List.take_length, (sorted_perm l).mem_iff]⟩
theorem own_R {w : World} {base : Nat} {v : Value} {l : List Int} (h : w.ownsRow base TI 1 v l.length (nums l)) : Kd.R (Kd.int .i64) TI w base (fun _ => True) v l := by
 refine Kd.R_of_own (enc := Value.int .i64) (h1 := fun _ => rfl) ?_ (fun _ _ => trivial)
 exact h
theorem R_ownI {w : World} {base : Nat} {ok : Nat → Prop} {v : Value} {l : List Int} (h : Kd.R (Kd.int .i64) TI w base ok v l) : w.ownsRow base TI 1 v l.length (nums l) := by
 obtain ⟨_, inner, ho, hr⟩ := h
 have e : inner = nums l := by
  refine List.ext_getElem? fun j => ?_
  by_cases hj : j < l.length
  ·have h1 := hr.2 j _ (List.getElem?_eq_getElem hj)
   have h1' : ((inner.drop (j * 1)).take 1) = [.int .i64 l[j]] := h1
   have := congrArg (fun l => l[0]?) h1'
   simp only [List.getElem?_take_of_lt (show 0 < 1 by omega), List.getElem?_drop, Nat.mul_one, Nat.add_zero] at this
   rw [this]
   unfold nums
   rw [List.getElem?_map, List.getElem?_eq_getElem hj]
   rfl
  ·have hl : inner.length = l.length * 1 := hr.1
   rw [List.getElem?_eq_none (by omega), List.getElem?_eq_none (by unfold nums; rw [List.length_map]; omega)]
 rw [← e]
 exact ho
end Go.Proofs.ZZ.GSrt
end
section
namespace Go.Proofs.ZZ.GStk
open Go Go.RowKit Go.Shelf Go.Maps Go.Sort Go.Proofs.ZW.PrintWords Go.Proofs.ZW.PrintLast Go.Proofs.ZZ.GMap Go.Proofs.ZZ.GK Go.Proofs.ZZ.G16 Go.Proofs.ZZ.GGr Go.Proofs.ZZ.GAdd Go.Proofs.ZZ.GOrd Go.Proofs.ZZ.GTop
theorem zf1 {gb base B : Nat} {L : Gx} {w : World} (h : zbf gb base B L w) (hG : GrOk (keys (toG L)) (lks (toG L))) (hmk : ∀ m ∈ keys (toG L), mkOk m) (hB : B ≤ 1000000000) :
    Calls Try.prog 41 #[.map (some gb)] w fun e w' => ∃ v, e = .returned (.agg #[v]) ∧ Kd.R kN TN w' w.heap.size (fun _ => True) v (ofGr (toG L)) ∧ Below w.heap.size w w' := by
  obtain ⟨W1, hW1⟩ : ∃ X, w.alloc (.cells #[.slice none 0 0] TG) = X := ⟨_, rfl⟩
  obtain ⟨W2, hW2⟩ : ∃ X, W1.alloc (.cells #[.slice none 0 0] TG) = X := ⟨_, rfl⟩
  have b21 : Boxed W1 w.heap.size TG (.slice none 0 0) := by rw [← hW1]; exact Boxed.new _ _ _
  have b22 : Boxed W2 w.heap.size TG (.slice none 0 0) := by rw [← hW2]; exact b21.alloc _
  obtain ⟨b3, hb3⟩ : ∃ b, W1.heap.size = b := ⟨_, rfl⟩
  have b32 : Boxed W2 b3 TG (.slice none 0 0) := by rw [← hW2, ← hb3]; exact Boxed.new _ _ _
  have hB1 : Below w.heap.size w W1 := by rw [← hW1]; exact (Below.refl _ _).alloc (Nat.le_refl _) _
  have hB2 : Below w.heap.size w W2 := by rw [← hW2]; exact hB1.alloc hB1.size _
  have h2 : zbf gb base B L W2 := by rw [← hW2, ← hW1]; exact (h.kept (zbe.alloc _ _)).kept (zbe.alloc _ _)
  have hlt3 : w.heap.size < b3 := by rw [← hb3, ← hW1]; simp
  have HGO := Lib.hid hG
  have HMK := Lib.hid hmk
  clear h hG hmk
  go_enter Try.func41, Try.ntmps41
  go_wp2_with (first
    | (at_range; go_loud (refine zgq (K := keyM) _ rfl _ 59 rfl 61 Try.underlying59 rfl h2.top ?_; intro w0 hrg0 hg0 hs0))
    | go_in)
  go_frame
  have hb0 : Below w.heap.size w w0 := hB2.grown hg0 hB2.size (fun k e => by cases e)
  have b20 : Boxed w0 w.heap.size TG (.slice none 0 0) := b22.kept hg0 (by simp)
  have b30 : Boxed w0 b3 TG (.slice none 0 0) := b32.kept hg0 (by simp)
  have h0 : zbf gb base B L w0 := h2.kept (zbe.grown hg0 (fun k e => by cases e))
  obtain ⟨r, hr⟩ : ∃ r, W2.heap.size = r := ⟨_, rfl⟩
  rw [hr] at hrg0
  (try rw [hr])
  have hrw : w.heap.size ≤ r := by rw [← hr]; exact hB2.size
  clear h2 b22 b32 b21 hg0 hs0 hB1 hB2 hW1 hW2
  go_loopw [13] (fun _ wr => ∃ (done : List Mk) (cnt : Nat) (v : Value), Ranges keyM gb r (rowT L) done cnt wr ∧ Boxed wr b3 TG v ∧ Kd.R kM0 TN wr w.heap.size (fun _ => True) v done ∧ Below w.heap.size w wr ∧ Hid (Boxed wr w.heap.size TG (.slice none 0 0)) ∧ zbf gb base B L wr) (fun _ wr => wr.rangeLeft gb r)
  case atStart => exact ⟨[], _, _, hrg0, b30, Kd.zef _ _ _ _ _, hb0, Lib.hid b20, h0⟩
  case round =>
    clear hrg0 b20 b30 h0 hb0
    obtain ⟨done, cnt, v, hrg, bx, hR, hb, b2, hg⟩ := hrel
    go_wp2_with (first
      | (at_next; go_loud (refine zhj _ rfl _ rfl rfl hrg ?_ ?_))
      | go_in)
    · intro hdone
      obtain ⟨p1, p2⟩ := perm_keys hrg.2.2.1 hg.keysNd (fun x => by rw [← hdone.all, zg9])
      obtain ⟨ks, hks⟩ : ∃ ks, isM (keys (toG L)) = ks := ⟨_, rfl⟩
      have hso : sortM done = ks := (sortM_isM hrg.2.2.1).trans (p1.trans hks)
      have hkl : done.length = ks.length := by rw [← hso]; exact ((zio done).1.length_eq).symm
      obtain ⟨A, c, rfl⟩ := Kd.zcf hR
      rw [hkl] at bx hR
      have hkn : ks.Nodup := by rw [← hks]; exact zfa zdu (zeq hg.keysNd)
      have hkm : ∀ m, m ∈ ks ↔ m ∈ keys (toG L) := fun m => by rw [← hks]; exact zbx
      have hkL : ks.length ≤ 1000000000 := by
        have h2 := hg.few.1
        have h3 : (keys (toG L)).length = L.length := by unfold keys toG; rw [List.length_map, List.length_map]
        omega
      obtain ⟨_, ho⟩ := Kd.zek hR
      have cx := bx.cell
      have hst := sortN_calls (fun k => some k = (Value.slice A ks.length c).ownBlock) _ done w wr hb (Kd.R_tight rfl hR) (by omega)
      rw [hso] at hst
      have B2 := b2.out
      have hmm := @run_makeMap Try.prog
      clear hrg hdone b2 p1 p2
      go_wp2_with (first
        | (go_at_call 58
           refine hst.mono ?_
           rintro e W7 ⟨rfl, R7, hb7, hk7⟩
           have bx7 := kept_box bx hk7 ho (by decide)
           have b27 := kept_box B2 hk7 ho (by decide)
           have hg7 := hg.kept (kept_maps hk7 ho)
           have cx7 := bx7.cell
           obtain ⟨nb, hnb⟩ : ∃ b, W7.heap.size = b := ⟨_, rfl⟩
           obtain ⟨W8, hW8⟩ : ∃ X, W7.alloc (.map #[] 0) = X := ⟨_, rfl⟩
           have bx8 : Boxed W8 b3 TG (.slice A ks.length c) := by { rw [← hW8]; exact bx7.alloc _ }
           have cx8 := bx8.cell)
        | go_in)
      have b28 : Boxed W8 w.heap.size TG (.slice none 0 0) := by rw [← hW8]; exact b27.alloc _
      have hg8 : zbf gb base B L W8 := by rw [← hW8]; exact hg7.kept (zbe.alloc _ _)
      have hm8 : MapAt keyM nb (numM []) W8 := by rw [← hW8, ← hnb]; exact MapAt.new _
      have R8 := Kd.zc1 R7 (.map #[] 0)
      rw [hW8] at R8
      have hb8 : Below w.heap.size w W8 := by rw [← hW8]; exact hb7.alloc hb7.size _
      have HLT := Lib.hid (GTop.zbf.lts hg7)
      rw [hnb] at HLT
      have hwnb : w.heap.size ≤ nb := by rw [← hnb]; exact hb7.size
      obtain ⟨tb, hT⟩ : ∃ tb, 0 < ks.length → A = some ⟨tb, 0, none⟩ ∧ w.heap.size ≤ tb ∧ zcj tb c (ks.map fun m => (m, .slice none 0 0)) W8 := by
        by_cases h0 : 0 < ks.length
        · obtain ⟨tb, h1⟩ := top_of_R R8 rfl h0
          exact ⟨tb, fun _ => h1⟩
        · exact ⟨0, fun h => absurd h h0⟩
      have HT := Lib.hid (fun h => (hT h).1)
      have HTB := Lib.hid (fun h => (hT h).2.1)
      have HTA := Lib.hid (fun h => (hT h).2.2)
      have HN := Lib.hid hkn
      have HKM := Lib.hid hkm
      have HR8 := Lib.hid (fun _ : ks.length = 0 => Kd.zbw R8 (fun _ _ => trivial))
      clear R8 hst R7 hb7 hk7 bx7 b27 hg7 cx7 hW8 hT bx B2 hg hR ho hb cx hnb hso hkn hkm
      go_loopw [34] (fun i wr => ∃ j : Nat, i = .int .i64 (j : Int) ∧ j ≤ ks.length ∧ MapAt keyM nb (numM (ks.take j)) wr ∧ Hid (0 < ks.length → zcj tb c (ks.map fun m => (m, .slice none 0 0)) wr) ∧ Boxed wr b3 TG (.slice A ks.length c) ∧ Below w.heap.size w wr ∧ Hid (Boxed wr w.heap.size TG (.slice none 0 0)) ∧ zbf gb base B L wr ∧ Hid (ks.length = 0 → Kd.R kM0 TN wr w.heap.size (fun _ => True) (.slice A ks.length c) ks)) (fun i _ => ks.length - (Go.RowKit.intOf i).toNat)
      case atStart => exact ⟨0, rfl, Nat.zero_le _, by rw [List.take_zero]; exact hm8, HTA, bx8, hb8, Lib.hid b28, hg8, HR8⟩
      case round =>
        clear HR8 hm8 HTA bx8 hb8 b28 hg8 cx8
        obtain ⟨j, rfl, hj, hm, HTA, bx, hb, b2, hg, HR0⟩ := hrel
        by_cases hlt : j < ks.length
        · obtain ⟨m, hmj⟩ : ∃ m, ks[j]? = some m := ⟨ks[j], List.getElem?_eq_getElem hlt⟩
          have hTA := HTA.out (by omega)
          have hA := HT.out (by omega)
          have hrow : (ks.map fun m => (m, Value.slice none 0 0))[j]? = some (m, .slice none 0 0) := by rw [List.getElem?_map, hmj]; rfl
          obtain ⟨t0, t1, t2, t3⟩ := hTA.at hrow
          subst hA
          have hmok := HMK.out m ((HKM.out m).1 (List.mem_of_getElem? hmj))
          obtain ⟨W9, hW9⟩ : ∃ X, wr.alloc (.cells #[.int .i64 m.2, .int .i64 m.1, .slice none 0 0] TN) = X := ⟨_, rfl⟩
          have bt : W9.heap[wr.heap.size]? = some (.cells #[.int .i64 m.2, .int .i64 m.1, .slice none 0 0] TN (0, 0)) := by rw [← hW9]; exact zbp _ _
          have u0 : W9.cell? ⟨wr.heap.size, 0, none⟩ = some (.int .i64 m.2) := zaf bt 0
          have u1 : W9.cell? ⟨wr.heap.size, 1, none⟩ = some (.int .i64 m.1) := zaf bt 1
          have u2 : W9.cell? ⟨wr.heap.size, 2, none⟩ = some (.slice none 0 0) := zaf bt 2
          have u3 : W9.frozen? ⟨wr.heap.size, 2, none⟩ = false := zbr bt 2
          have u4 : W9.setCell ⟨wr.heap.size, 2, none⟩ (.slice none 0 0) = W9 := by
            rw [← hW9]
            simp [go_sem]
          have hk9 : zaz wr W9 := by rw [← hW9]; exact zaz.alloc _ _
          have hm9 : MapAt keyM nb (numM (ks.take j)) W9 := by rw [← hW9]; exact MapAt.kept hm (zbe.alloc _ _)
          have hg9 : zbf gb base B L W9 := by rw [← hW9]; exact hg.kept (zbe.alloc _ _)
          have hb9 : Below w.heap.size w W9 := by rw [← hW9]; exact hb.alloc hb.size _
          have hnl : (numM (ks.take j)).length ≤ j := by unfold numM; rw [List.length_map, List.length_zipIdx, List.length_take]; omega
          obtain ⟨Wn, hup, hmn, hgn⟩ := hm9.put (t := 79) (e := 3) Try.underlying79 (by unfold maxLen; omega) hmok (.int .i64 (j : Int))
          rw [put_numM HN.out hmj] at hmn
          have hup' : (Instr.mapUpdate 79 (.map (some nb)) (.agg #[.int .i64 m.1, .int .i64 m.2]) (.int .i64 (j : Int))).run Try.prog W9 = .ok () Wn := hup
          have hkn : zaz W9 Wn := zaz.map hgn hm9.block
          have hk := hk9.trans hkn
          have n1 : Hid (0 < ks.length → zcj tb c (ks.map fun m => (m, .slice none 0 0)) Wn) := Lib.hid (fun _ => hTA.kept hk)
          have n2 : Boxed Wn b3 TG (.slice (some ⟨tb, 0, none⟩) ks.length c) := hk _ _ _ _ bx
          have n3 : Hid (Boxed Wn w.heap.size TG (.slice none 0 0)) := Lib.hid (hk _ _ _ _ b2.out)
          have n4 : zbf gb base B L Wn := GTop.zbf.far hg9 hgn HLT.out
          have n5 : Below w.heap.size w Wn := hb9.grown hgn hb9.size (fun k e => by cases e; exact hwnb)
          clear hup hm9 hg9 hb9 hm HTA hTA bx hb b2 hg bt hgn hk9 hkn;go_wp2
          go_roundw
          case rel => exact ⟨j + 1, by first | rfl | go_num, by omega, hmn, n1, n2, n5, n3, n4, Lib.hid (fun h => absurd h (by omega))⟩
          case measure => simp [Go.RowKit.intOf]; omega
        · obtain rfl : j = ks.length := by omega
          rw [List.take_length] at hm
          obtain ⟨rows, hrows⟩ : ∃ rows, (ks.map fun m => (m, Value.slice none 0 0)) = rows := ⟨_, rfl⟩
          have HRW : zc0 w.heap.size wr.heap.size ks (toG L) 0 rows wr := by
            rw [← hrows]
            exact ⟨List.length_map _, fun i m hi => ⟨_, by rw [List.getElem?_map, hi]; rfl, fun h => absurd h (Nat.not_lt_zero _), fun _ => rfl⟩⟩
          rw [hrows] at HTA
          have cx := bx.cell
          go_wp2
          go_loopw [50] (fun i wr => ∃ (j : Nat) (rows : List (Mk × Value)), i = .int .i64 (j : Int) ∧ j ≤ ks.length ∧ MapAt keyM nb (numM ks) wr ∧ Hid (0 < ks.length → zcj tb c rows wr) ∧ zc0 w.heap.size wr.heap.size ks (toG L) j rows wr ∧ Boxed wr b3 TG (.slice A ks.length c) ∧ Below w.heap.size w wr ∧ Hid (Boxed wr w.heap.size TG (.slice none 0 0)) ∧ zbf gb base B L wr ∧ Hid (ks.length = 0 → Kd.R kM0 TN wr w.heap.size (fun _ => True) (.slice A ks.length c) ks)) (fun i _ => ks.length - (Go.RowKit.intOf i).toNat)
          case atStart => exact ⟨0, rows, rfl, Nat.zero_le _, hm, HTA, HRW, bx, hb, b2, hg, HR0⟩
          case round =>
            clear hm HTA HRW bx hb b2 hg HR0 cx hrows
            obtain ⟨j, rows, rfl, hj, hm, HTA, hrw4, bx, hb, b2, hg, HR0⟩ := hrel
            by_cases hlt : j < ks.length
            · obtain ⟨m, hmj⟩ : ∃ m, ks[j]? = some m := ⟨ks[j], List.getElem?_eq_getElem hlt⟩
              have hTA := HTA.out (by omega)
              have hA := HT.out (by omega)
              have htbw := HTB.out (by omega)
              obtain ⟨lv0, hrow, _, hlv0⟩ := hrw4.2 j m hmj
              obtain rfl := hlv0 (Nat.le_refl _)
              obtain ⟨t0, t1, t2, t3⟩ := hTA.at hrow
              subst hA
              have hmk : m ∈ keys (toG L) := (HKM.out m).1 (List.mem_of_getElem? hmj)
              have hmok := HMK.out m hmk
              obtain ⟨bm, ls, hmL⟩ := mem_keys hmk
              have hlks := links_of hg hmL
              obtain ⟨W9, hW9⟩ : ∃ X, wr.alloc (.cells #[.int .i64 m.2, .int .i64 m.1, .slice none 0 0] TN) = X := ⟨_, rfl⟩
              have bt : W9.heap[wr.heap.size]? = some (.cells #[.int .i64 m.2, .int .i64 m.1, .slice none 0 0] TN (0, 0)) := by rw [← hW9]; exact zbp _ _
              have u0 : W9.cell? ⟨wr.heap.size, 0, none⟩ = some (.int .i64 m.2) := zaf bt 0
              have u1 : W9.cell? ⟨wr.heap.size, 1, none⟩ = some (.int .i64 m.1) := zaf bt 1
              have u2 : W9.cell? ⟨wr.heap.size, 2, none⟩ = some (.slice none 0 0) := zaf bt 2
              have u3 : W9.frozen? ⟨wr.heap.size, 2, none⟩ = false := zbr bt 2
              have u4 : W9.setCell ⟨wr.heap.size, 2, none⟩ (.slice none 0 0) = W9 := by
                rw [← hW9]
                simp [go_sem]
              have hk9 : zaz wr W9 := by rw [← hW9]; exact zaz.alloc _ _
              have hmk9 : zbe wr W9 := by rw [← hW9]; exact zbe.alloc _ _
              have hg9 : zbf gb base B L W9 := hg.kept hmk9
              have hb9 : Below w.heap.size w W9 := by rw [← hW9]; exact hb.alloc hb.size _
              have hl9 := hg9.lookT hmL hmok
              have hin := (hg9.own _ hmL).2
              go_wp2_with (first
                | (at_range; go_loud (refine zgq (K := keyM) _ rfl _ 61 rfl 4 Try.underlying61 rfl hin ?_; intro w0 hrg0 hg0 hs0))
                | go_in)
              (try go_frame)
              have hs9 : wr.heap.size < W9.heap.size := by rw [← hW9]; simp
              obtain ⟨s, hs⟩ : ∃ s, wr.heap.size = s := ⟨_, rfl⟩
              rw [hs] at hs9
              obtain ⟨r2, hr2⟩ : ∃ r2, W9.heap.size = r2 := ⟨_, rfl⟩
              rw [hr2] at hrg0
              (try rw [hr2])
              (try rw [hs])
              have hk0 : zaz wr w0 := hk9.trans (zaz.grown hg0 (fun k e => by cases e))
              have hmk0 : zbe wr w0 := hmk9.trans (zbe.grown hg0 (fun k e => by cases e))
              have hgr0 : zbf gb base B L w0 := hg.kept hmk0
              have hm0 := MapAt.kept hm hmk0
              have hb0 : Below w.heap.size w w0 := hb9.grown hg0 hb9.size (fun k e => by cases e)
              have bx0 : Boxed w0 b3 TG (.slice (some ⟨tb, 0, none⟩) ks.length c) := hk0 _ _ _ _ bx
              have b20 : Boxed w0 w.heap.size TG (.slice none 0 0) := hk0 _ _ _ _ b2.out
              have hT0 : zcj tb c (rows.set j (m, .slice none 0 0)) w0 := by
                have e : rows.set j (m, .slice none 0 0) = rows := by
                  refine List.ext_getElem? fun i => ?_
                  rw [List.getElem?_set]
                  by_cases e : j = i
                  · subst e
                    rw [if_pos rfl, if_pos (List.getElem?_eq_some_iff.1 hrow).1, hrow]
                  · rw [if_neg e]
                rw [e]
                exact hTA.kept hk0
              have hrw0 := hrw4.kept hk0
              rw [hs] at hrw0
              have hws : w.heap.size ≤ s := by rw [← hs]; exact hb.size
              have hsr2 : s ≤ r2 := by omega
              clear hm hTA HTA hrw4 bx b2 hg hb t0 t1 t2 t3 bt u0 u1 u2 u3 u4 hk9 hmk9 hg9 hb9 hl9 hin hg0 hs0 hk0 hmk0 hW9 HR0
              go_loopw [63] (fun _ wr => ∃ (done : List Mk) (cnt : Nat) (Al : Option Addr) (cl : Nat), Ranges keyM bm r2 (rowB ls) done cnt wr ∧ Hid (zcj tb c (rows.set j (m, .slice Al done.length cl)) wr) ∧ Hid (Kd.R (Kd.int .i64) TI wr s (fun _ => True) (.slice Al done.length cl) (done.map (idx ks))) ∧ Hid (zc0 w.heap.size s ks (toG L) j rows wr) ∧ MapAt keyM nb (numM ks) wr ∧ Boxed wr b3 TG (.slice (some ⟨tb, 0, none⟩) ks.length c) ∧ Below w.heap.size w wr ∧ Hid (Boxed wr w.heap.size TG (.slice none 0 0)) ∧ zbf gb base B L wr ∧ s ≤ wr.heap.size) (fun _ wr => wr.rangeLeft bm r2)
              case atStart => exact ⟨[], _, none, 0, hrg0, Lib.hid hT0, Lib.hid (Kd.zef _ _ _ _ _), Lib.hid hrw0, hm0, bx0, hb0, Lib.hid b20, hgr0, by have := hrg0.lt; omega⟩
              case round =>
                clear hrg0 hT0 hrw0 hm0 bx0 hb0 b20 hgr0
                obtain ⟨done, cnt, Al, cl, hrg, HTi, HRi, HRW, hm, bx, hb, b2, hg, hsw⟩ := hrel
                have hjl : j < rows.length := (List.getElem?_eq_some_iff.1 hrow).1
                have hrowD : (rows.set j (m, .slice Al done.length cl))[j]? = some (m, .slice Al done.length cl) := by rw [List.getElem?_set, if_pos rfl, if_pos hjl]
                have hdl : done.length ≤ 1000000000 := by
                  have h1 := hrg.2.2.2.2.1
                  have h2 := hg.few.2 _ hmL
                  have h3 : (rowB ls).length = ls.length := List.length_map _
                  have h4 : (m, bm, ls).2.2.length = ls.length := rfl
                  omega
                go_wp2_with (first
                  | (at_next; go_loud (refine zhj _ rfl _ rfl rfl hrg ?_ ?_))
                  | go_in)
                · intro hdone
                  obtain ⟨q0, q1, q2, q3⟩ := HTi.out.at hrowD
                  have cx := bx.cell
                  have hdm : ∀ x, x ∈ done ↔ x ∈ ls := fun x => by rw [← hdone.all, zg8]
                  have hdk : ∀ x ∈ done, x ∈ ks := fun x hx => (HKM.out x).2 (HGO.out.inn m hmk x (by rw [hlks]; exact (hdm x).1 hx)).1
                  have hnd : (done.map (idx ks)).Nodup := idx_nodup hrg.2.2.1 hdk
                  have hml : (done.map (idx ks)).length = done.length := List.length_map _
                  have hst := GSrt.sort_own s (.slice Al done.length cl) (done.map (idx ks)) wr (GSrt.R_ownI HRi.out) (by omega)
                  have hlsn : ls.Nodup := by
                    have := (hg.own _ hmL).2.1
                    rwa [show (m, bm, ls).2.2 = ls from rfl, zg8] at this
                  have hsI : GSrt.sorted (done.map (idx ks)) = isI ((lks (toG L) m).map (idx ks)) := by
                    rw [GSrt.sorted_isI hnd, hlks]
                    refine isI_congr hnd (idx_nodup hlsn (fun x hx => hdk x ((hdm x).2 hx))) (fun y => ?_)
                    simp only [List.mem_map, hdm]
                  have HSI := Lib.hid hsI
                  have HDM := Lib.hid hdm
                  have HIT := Lib.hid hrg.iter
                  clear hsI hdm hdk hnd hdone hrg hml
                  go_wp2_with (first
                    | (go_at_call 35
                       refine hst.mono ?_
                       rintro e W7 ⟨rfl, ho7, hg7⟩)
                    | go_in)
                  obtain ⟨_, ho⟩ := Kd.zek HRi.out
                  have hsl : (GSrt.sorted (done.map (idx ks))).length = (done.map (idx ks)).length := List.length_mergeSort _
                  rw [← hsl] at ho7
                  have R7 := GSrt.own_R ho7
                  rw [HSI.out] at R7
                  have hw7 := hg7.size
                  have R7' : Kd.R (Kd.int .i64) TI W7 w.heap.size (fun k => k < W7.heap.size) (.slice Al done.length cl) (isI ((lks (toG L) m).map (idx ks))) := Kd.zbw (Kd.zc7 (Kd.zde R7 hws)) (fun k hk => hk.2.2.1)
                  have bx7 := bx.kept hg7 (own_ne ho bx (by decide))
                  have b27 := b2.out.kept hg7 (own_ne ho b2.out (by decide))
                  have hmk7 := zbe.own hg7 ho
                  have hT7 : zcj tb c (rows.set j (m, .slice Al done.length cl)) W7 := HTi.out.move (by
                    obtain ⟨cur, hcur⟩ := HTi.out.block
                    exact hg7.block tb (zbj hcur) (own_ne ho hcur (by decide)))
                  have hrw7 : zc0 w.heap.size s ks (toG L) j rows W7 := HRW.out.step (fun k cs hks hc => hg7.block k (zbj hc) (fun e => by have := zck ho k e.symm; omega))
                  have hrwN := hrw7.next (show s ≤ W7.heap.size by omega) hmj R7'
                  have hb7 : Below w.heap.size w W7 := hb.grown hg7 hb.size (fun k e => by have := zck ho k e; omega)
                  have hm7 := MapAt.kept hm hmk7
                  have hgr7 := hg.kept hmk7
                  have HT7 := Lib.hid hT7
                  clear hT7 hrw7 hst R7 R7' ho7 hg7 bx b2 hm hg hb HTi HRi HRW ho hmk7 cx q0 q1 q2 q3;go_wp2
                  go_roundw
                  case rel => exact ⟨j + 1, rows.set j (m, .slice Al done.length cl), by first | rfl | go_num, by omega, hm7, Lib.hid (fun _ => HT7.out), hrwN, bx7, hb7, Lib.hid b27, hgr7, Lib.hid (fun h => absurd h (by omega))⟩
                  case measure => simp [Go.RowKit.intOf]; omega
                · rintro ⟨x⟩ xv w1 cnt1 HX
                  have hxm : x ∈ ls := by
                    have := HX.mem
                    rwa [zg8] at this
                  have hxk : x ∈ keys (toG L) := (HGO.out.inn m hmk x (by rw [hlks]; exact hxm)).1
                  have hxs : x ∈ ks := (HKM.out x).2 hxk
                  have hxok := HMK.out x hxk
                  have hrg1 := HX.rg
                  have hlt1 := HX.lt
                  have hg1 := HX.gr
                  have hen' : (Instr.entry (.pointer (some ⟨r2, 0, none⟩))).run Try.prog w1 = .ok (.tuple #[.agg #[.int .i64 x.1, .int .i64 x.2], xv]) w1 := HX.en
                  have hmeas : cnt1 < wr.rangeLeft bm r2 := by rw [hrg.left]; exact hlt1
                  obtain ⟨W4, hW4⟩ : ∃ X, w1.alloc (.cells #[.int .i64 x.1, .int .i64 x.2] TM) = X := ⟨_, rfl⟩
                  have hck4 : zaz wr W4 := by rw [← hW4]; exact (zie hg1 hrg.iter).trans (zaz.alloc _ _)
                  have hmk4 : zbe wr W4 := by rw [← hW4]; exact (iter_maps hg1 hrg.iter).trans (zbe.alloc _ _)
                  have bk : W4.heap[w1.heap.size]? = some (.cells #[.int .i64 x.1, .int .i64 x.2] TM (0, 0)) := by rw [← hW4]; exact zbp _ _
                  have hr4 : Ranges keyM bm r2 (rowB ls) (done ++ [x]) cnt1 W4 := by rw [← hW4]; exact hrg1.keep (Below.heap_alloc _ _ _ hrg1.blt) (Below.heap_alloc _ _ _ hrg1.lt)
                  have hb4 : Below w.heap.size w W4 := by rw [← hW4]; exact (hb.grown hg1 hb.size (fun k e => by cases e; omega)).alloc (Nat.le_trans hb.size hg1.size) _
                  have hT4 := HTi.out.kept hck4
                  have hR4 := R_ck HRi.out hck4
                  have hRW4 := HRW.out.kept hck4
                  have hm4 := MapAt.kept hm hmk4
                  have bx4 : Boxed W4 b3 TG (.slice (some ⟨tb, 0, none⟩) ks.length c) := hck4 _ _ _ _ bx
                  have b24 : Boxed W4 w.heap.size TG (.slice none 0 0) := hck4 _ _ _ _ b2.out
                  have hg4 := hg.kept hmk4
                  have hs4 : s ≤ W4.heap.size := by rw [← hW4]; have := hg1.size; simp; omega
                  clear HX hrg hrg1 hg1 hm bx b2 hg hb HTi HRi HRW;go_wp2
                  (try rw [hW4])
                  obtain ⟨kb, hkb⟩ : ∃ b, w1.heap.size = b := ⟨_, rfl⟩
                  (try rw [hkb])
                  rw [hkb] at bk
                  obtain ⟨q0, q1, q2, q3⟩ := hT4.at hrowD
                  obtain ⟨Wd, hWd⟩ : ∃ X, W4.drew = X := ⟨_, rfl⟩
                  have hHeld : (fun X => X.cell? ⟨b3, 0, none⟩ = some (.slice (some ⟨tb, 0, none⟩) ks.length c) ∧ X.cell? ⟨tb, j * 3 + 2, none⟩ = some (.slice Al done.length cl) ∧ X.cell? ⟨kb, 0, none⟩ = some (.int .i64 x.1) ∧ X.cell? ⟨kb, 1, none⟩ = some (.int .i64 x.2)) W4.drew := ⟨zaf (zac bx4) 0, q2, zaf (zac bk) 0, zaf (zac bk) 1⟩
                  have hTd : zcj tb c (rows.set j (m, .slice Al done.length cl)) Wd := by rw [← hWd]; exact hT4.move rfl
                  have hRd : Kd.R (Kd.int .i64) TI Wd s (fun _ => True) (.slice Al done.length cl) (done.map (idx ks)) := by rw [← hWd]; exact R_ck hR4 (zaz.drew _)
                  have hRWd : zc0 w.heap.size s ks (toG L) j rows Wd := by rw [← hWd]; exact hRW4.kept (zaz.drew _)
                  have hmd : MapAt keyM nb (numM ks) Wd := by rw [← hWd]; exact MapAt.kept hm4 (zbe.drew _)
                  have bxd : Boxed Wd b3 TG (.slice (some ⟨tb, 0, none⟩) ks.length c) := by rw [← hWd]; exact bx4
                  have b2d : Boxed Wd w.heap.size TG (.slice none 0 0) := by rw [← hWd]; exact b24
                  have bkd : Wd.heap[kb]? = some (.cells #[.int .i64 x.1, .int .i64 x.2] TM (0, 0)) := by rw [← hWd]; exact bk
                  have hgd : zbf gb base B L Wd := by rw [← hWd]; exact hg4.kept (zbe.drew _)
                  have hrd : Ranges keyM bm r2 (rowB ls) (done ++ [x]) cnt1 Wd := by rw [← hWd]; exact hr4.keep rfl rfl
                  have hbd : Below w.heap.size w Wd := by rw [← hWd]; exact zb7 hb4
                  have hsd : s ≤ Wd.heap.size := by rw [← hWd]; exact hs4
                  have hlk := hmd.look (t := 79) (e := 3) Try.underlying79 (z := .int .i64 0) rfl hxok
                  rw [look_numM hxs] at hlk
                  have hlk' : (Instr.lookup 79 (.map (some nb)) (.agg #[.int .i64 x.1, .int .i64 x.2]) false).run Try.prog Wd = .ok (.int .i64 (idx ks x)) Wd := hlk
                  rw [hWd] at hHeld
                  clear hT4 hR4 hRW4 hm4 bx4 b24 bk hg4 hr4 hb4 hs4 hlk q0 q1 q2 q3 hck4 hmk4
                  refine wp_qz (zbt (S := (fun X => X.cell? ⟨b3, 0, none⟩ = some (.slice (some ⟨tb, 0, none⟩) ks.length c) ∧ X.cell? ⟨tb, j * 3 + 2, none⟩ = some (.slice Al done.length cl) ∧ X.cell? ⟨kb, 0, none⟩ = some (.int .i64 x.1) ∧ X.cell? ⟨kb, 1, none⟩ = some (.int .i64 x.2))) (ds := [16]) (Ymk 17 0) (by kernel_rfl) rfl rfl (by rw [hWd]; exact hHeld) (fun h0_ => ?_))
                  rw [hWd]
                  clear h0_
                  refine Ypk 0 67 17 1 ?_
                  refine Ytk 1 68 17 3 hHeld ?_
                  refine Ypk 2 69 17 7 ?_
                  refine Ypk 3 70 17 15 ?_
                  refine Ytk 4 71 17 31 hHeld ?_
                  refine Ypk 5 72 17 63 ?_
                  refine Ypk 6 73 17 127 ?_
                  refine Ypk 7 74 17 255 ?_
                  refine Ytk 8 75 17 511 hHeld ?_
                  refine Ypk 9 76 17 1023 ?_
                  refine Ytk 10 77 17 2047 hHeld ?_
                  refine Yok 11 78 17 4095 (fun K hK => ?_)
                  refine value_ (w1 := Wd) (v := .int .i64 (idx ks x)) (by rfl) rfl ?_ ?_
                  · go_simp
                  refine hK.out _ _ hHeld (fun h0_ => ?_)
                  clear hK K h0_
                  refine Yok 12 79 17 8191 (fun K hK => ?_)
                  refine value_ (w1 := Wd.alloc (.cells #[.int .i64 (idx ks x)] TI)) (v := .slice (some ⟨Wd.heap.size, 0, none⟩) 1 1) (by rfl) rfl ?_ ?_
                  · go_simp
                  have hB1 : Below Wd.heap.size Wd (Wd.alloc (.cells #[.int .i64 (idx ks x)] TI)) := (Below.refl _ _).alloc (Nat.le_refl _) _
                  have hh1 : (fun X => X.cell? ⟨b3, 0, none⟩ = some (.slice (some ⟨tb, 0, none⟩) ks.length c) ∧ X.cell? ⟨tb, j * 3 + 2, none⟩ = some (.slice Al done.length cl) ∧ X.cell? ⟨kb, 0, none⟩ = some (.int .i64 x.1) ∧ X.cell? ⟨kb, 1, none⟩ = some (.int .i64 x.2)) (Wd.alloc (.cells #[.int .i64 (idx ks x)] TI)) := ⟨zai hB1 hHeld.1, zai hB1 hHeld.2.1, zai hB1 hHeld.2.2.1, zai hB1 hHeld.2.2.2⟩
                  refine hK.out _ _ hh1 (fun h0_ => ?_)
                  clear hK K h0_
                  refine Yok 13 80 17 16383 (fun K hK => ?_)
                  refine Kd.ziu (Kd.int .i64) (w0 := Wd) (W := Wd) s (by rfl) (.tmp 75) (.tmp 79) 31 TI (.int .i64 0) 8 rfl Try.underlying31 infoI rfl (by decide) (by decide) (.slice Al done.length cl) (done.map (idx ks)) (idx ks x) [.int .i64 (idx ks x)] (fun _ => True) (fun _ => False) rfl rfl rfl (fun _ h => h.elim) (fun _ _ => trivial) hRd (Below.refl _ _) hsd (by rw [List.length_map]; omega) ?_
                  intro v1 W5 R5 hB5 hg5 _
                  obtain ⟨A1, c1, rfl⟩ := Kd.zcf R5
                  have hl1 : (done ++ [x]).length = done.length + 1 := by simp
                  have hl2 : (done.map (idx ks) ++ [idx ks x]).length = done.length + 1 := by simp
                  have hl3 : done.map (idx ks) ++ [idx ks x] = (done ++ [x]).map (idx ks) := by simp
                  rw [hl2, hl3] at R5
                  rw [hl2]
                  obtain ⟨_, ho⟩ := Kd.zek hRd
                  have bx5 := bxd.kept hg5 (own_ne ho bxd (by decide))
                  have b25 := b2d.kept hg5 (own_ne ho b2d (by decide))
                  have bk5 : W5.heap[kb]? = _ := (hg5.block kb (zbj bkd) (own_ne ho bkd (by decide))).trans bkd
                  have hmk5 := zbe.own hg5 ho
                  have hT5 : zcj tb c (rows.set j (m, .slice Al done.length cl)) W5 := hTd.move (by
                    obtain ⟨cur, hcur⟩ := hTd.block
                    exact hg5.block tb (zbj hcur) (own_ne ho hcur (by decide)))
                  have hRW5 : zc0 w.heap.size s ks (toG L) j rows W5 := hRWd.step (fun k cs hks hc => hg5.block k (zbj hc) (fun e => by have := zck ho k e.symm; omega))
                  have hm5 := MapAt.kept hmd hmk5
                  have hgr5 := hgd.kept hmk5
                  have hb5 : Below w.heap.size w W5 := hbd.grown hg5 hbd.size (fun k e => by have := zck ho k e; omega)
                  have hr5 : Ranges keyM bm r2 (rowB ls) (done ++ [x]) cnt1 W5 := by
                    obtain ⟨es, cq, hbq⟩ := hrd.map.block
                    exact hrd.keep ((hmk5 _ _ _ hbq).trans hbq.symm) (iter_kept hg5 ho hrd.iter)
                  obtain ⟨p0, p1, p2, p3⟩ := hT5.at hrowD
                  have hh5 : (fun X => X.cell? ⟨b3, 0, none⟩ = some (.slice (some ⟨tb, 0, none⟩) ks.length c) ∧ X.cell? ⟨tb, j * 3 + 2, none⟩ = some (.slice Al done.length cl) ∧ X.cell? ⟨kb, 0, none⟩ = some (.int .i64 x.1) ∧ X.cell? ⟨kb, 1, none⟩ = some (.int .i64 x.2)) W5 := ⟨bx5.cell, p2, zaf bk5 0, zaf bk5 1⟩
                  obtain ⟨W6, hW6⟩ : ∃ X, W5.setCell ⟨tb, j * 3 + 2, none⟩ (.slice A1 (done.length + 1) c1) = X := ⟨_, rfl⟩
                  obtain ⟨cur5, hcur5⟩ := hT5.block
                  have hb3tb : b3 ≠ tb := fun e => by
                    rw [← e, bx5] at hcur5
                    cases hcur5
                  have hwtb : w.heap.size ≠ tb := fun e => by
                    rw [← e, b25] at hcur5
                    cases hcur5
                  have hmk6 : zbe W5 W6 := by rw [← hW6]; exact zbe.cell hcur5 _ none _
                  have hT6 : zcj tb c (rows.set j (m, .slice A1 (done.length + 1) c1)) W6 := by
                    have := hT5.set hrowD (.slice A1 (done.length + 1) c1)
                    rw [List.set_set, hW6] at this
                    exact this
                  have hR6 : Kd.R (Kd.int .i64) TI W6 s (fun _ => True) (.slice A1 (done.length + 1) c1) ((done ++ [x]).map (idx ks)) := by rw [← hW6]; exact Kd.R_set R5 hcur5 (by decide) _ _
                  have hRW6 : zc0 w.heap.size s ks (toG L) j rows W6 := by
                    rw [← hW6]
                    exact hRW5.step (fun k cs hks hc => Below.heap_setCell _ ⟨tb, j * 3 + 2, none⟩ _ k (fun e => by rw [show k = tb from e, hcur5] at hc; cases hc))
                  have hm6 := MapAt.kept hm5 hmk6
                  have hg6 := hgr5.kept hmk6
                  have b26 : Boxed W6 w.heap.size TG (.slice none 0 0) := by rw [← hW6]; exact (Below.heap_setCell _ ⟨tb, j * 3 + 2, none⟩ _ w.heap.size hwtb).trans b25
                  have hb6 : Below w.heap.size w W6 := by rw [← hW6]; exact hb5.setCell (p := ⟨tb, j * 3 + 2, none⟩) htbw _
                  have hr6 : Ranges keyM bm r2 (rowB ls) (done ++ [x]) cnt1 W6 := by
                    obtain ⟨es, cq, hbq⟩ := hr5.map.block
                    refine hr5.keep ((hmk6 _ _ _ hbq).trans hbq.symm) ?_
                    obtain ⟨m', s', e', c', hi⟩ := hr5.iter
                    rw [← hW6]
                    exact Below.heap_setCell _ ⟨tb, j * 3 + 2, none⟩ _ r2 (fun e => by rw [show r2 = tb from e, hcur5] at hi; cases hi)
                  have hs6 : s ≤ W6.heap.size := by
                    have h1 := hg5.size
                    rw [← hW6]
                    show s ≤ (W5.heap.modify _ _).size
                    rw [Array.size_modify]
                    omega
                  clear hT5 R5 hRW5 hm5 hgr5 hb5 hr5 hcur5 hmk5 hmk6 ho b25 bk5 hB5 hg5
                  refine hK.out _ _ hh5 (fun h0_ => ?_)
                  clear hK K h0_
                  refine Ypk 14 81 17 32767 ?_
                  refine Ypk 15 82 17 65535 ?_
                  refine last_ (i := 16) (N := none) (Ymk 17 131071) rfl rfl (by kernel_rfl) (by decide) (fun K hK => ?_)
                  refine zfb (w1 := W6) (by rfl) rfl ?_ ?_
                  · go_simp
                  refine hK.out _ _ ?_
                  clear hK K
                  refine zby (by kernel_rfl) ?_
                  show Exit.inBlock 7 _ Exit.normal _ _
                  have bxN : Boxed W6 b3 TG (.slice (some ⟨tb, 0, none⟩) ks.length c) := by rw [← hW6]; exact (Below.heap_setCell _ ⟨tb, j * 3 + 2, none⟩ _ b3 hb3tb).trans bx5
                  clear hHeld hlk' hTd hRd hRWd hmd bxd b2d bkd hgd hrd hbd hsd hh5 bx5;go_wp2
                  go_roundw
                  case rel => exact ⟨done ++ [x], ⟨cnt1, hr6⟩, A1, c1, Lib.hid (by rw [hl1]; exact hT6), Lib.hid (by rw [hl1]; exact hR6), trivial⟩
                  case measure => rw [hr6.left]; exact hmeas
            · obtain rfl : j = ks.length := by omega
              have b3' := bx.cell
              have b2' := b2.out.cell
              have f2' := b2.out.frozen
              obtain ⟨Wz, hWz⟩ : ∃ X, wr.setCell ⟨w.heap.size, 0, none⟩ (.slice A ks.length c) = X := ⟨_, rfl⟩
              have bz : Boxed Wz w.heap.size TG (.slice A ks.length c) := by rw [← hWz]; exact b2.out.set _
              have hfin : Kd.R kN TN wr w.heap.size (fun _ => True) (.slice A ks.length c) (ks.map fun m => (m.2, m.1, isI ((lks (toG L) m).map (idx ks)))) := by
                by_cases h0 : 0 < ks.length
                · rw [HT.out h0]
                  exact hrw4.done (HTA.out h0) (HTB.out h0)
                · have e0 : ks.length = 0 := by omega
                  have hn : ks = [] := List.eq_nil_of_length_eq_zero e0
                  have h1 := HR0.out e0
                  subst hn
                  exact R_none h1
              have hfz : Kd.R kN TN Wz w.heap.size (fun _ => True) (.slice A ks.length c) (ks.map fun m => (m.2, m.1, isI ((lks (toG L) m).map (idx ks)))) := by rw [← hWz]; exact Kd.R_set hfin b2.out (by decide) _ _
              have hbz : Below w.heap.size w Wz := by rw [← hWz]; exact hb.setCell (p := ⟨w.heap.size, 0, none⟩) (Nat.le_refl _) _
              have HZ := Lib.hid hfz
              have BZ := Lib.hid bz
              clear hm HTA hrw4 bx b2 hg HR0 hfin hfz bz hb;go_wp2
              refine bodyPost_ret (results_cell_row rfl _ _ w.heap.size TG #[.slice A ks.length c] (0, 0) _ rfl BZ.out Try.underlying24 rfl (by kernel_rfl)) rfl ?_
              exact ⟨_, rfl, by unfold ofGr ze0; rw [hks]; exact HZ.out, hbz⟩
    · rintro ⟨x⟩ xv w1 cnt1 HX
      have hxok := HX.ok
      have hrg1 := HX.rg
      have hlt1 := HX.lt
      have hg1 := HX.gr
      have hen' : (Instr.entry (.pointer (some ⟨r, 0, none⟩))).run Try.prog w1 = .ok (.tuple #[.agg #[.int .i64 x.1, .int .i64 x.2], xv]) w1 := HX.en
      have hne : ∀ k cs t, wr.heap[k]? = some (.cells cs t (0, 0)) → some k ≠ some r := fun k cs t hk e => by
        obtain ⟨m, s, e2, c2, hi⟩ := hrg.iter
        injection e with e
        rw [← e, hk] at hi
        cases hi
      have bx1 : Boxed w1 b3 TG v := bx.kept hg1 (hne _ _ _ bx)
      have b21 : Boxed w1 w.heap.size TG (.slice none 0 0) := b2.out.kept hg1 (hne _ _ _ b2.out)
      have hgk1 : zbf gb base B L w1 := hg.kept (zbe.grown hg1 (fun k e es c hk => by
        obtain ⟨m, s, e2, c2, hi⟩ := hrg.iter
        injection e with e
        rw [← e, hi] at hk
        cases hk))
      have hR1 : Kd.R kM0 TN w1 w.heap.size (fun _ => True) v done := Kd.zbw (Kd.R_grown (Kd.zc7 hR) hg1 (fun k hk => by
        obtain ⟨_, _, _, q, _, cs, hc⟩ := hk
        exact hne _ _ _ hc)) (fun _ _ => trivial)
      have hb1 : Below w.heap.size w w1 := hb.grown hg1 hb.size (fun k e => by cases e; exact hrw)
      obtain ⟨W4, hW4⟩ : ∃ X, w1.alloc (.cells #[.int .i64 x.1, .int .i64 x.2] TM) = X := ⟨_, rfl⟩
      have bm : W4.heap[w1.heap.size]? = some (.cells #[.int .i64 x.1, .int .i64 x.2] TM (0, 0)) := by rw [← hW4]; exact zbp _ _
      have m0 : W4.cell? ⟨w1.heap.size, 0, none⟩ = some (.int .i64 x.1) := zaf bm 0
      have m1 : W4.cell? ⟨w1.heap.size, 1, none⟩ = some (.int .i64 x.2) := zaf bm 1
      have bx4 : Boxed W4 b3 TG v := by rw [← hW4]; exact bx1.alloc _
      have b24 : Boxed W4 w.heap.size TG (.slice none 0 0) := by rw [← hW4]; exact b21.alloc _
      have hg4 : zbf gb base B L W4 := by rw [← hW4]; exact hgk1.kept (zbe.alloc _ _)
      have hR4 : Kd.R kM0 TN W4 w.heap.size (fun _ => True) v done := by rw [← hW4]; exact Kd.zc1 hR1 _
      have hb4 : Below w.heap.size w W4 := by rw [← hW4]; exact hb1.alloc hb1.size _
      have hr4 : Ranges keyM gb r (rowT L) (done ++ [x]) cnt1 W4 := by rw [← hW4]; exact hrg1.keep (Below.heap_alloc _ _ _ hrg1.blt) (Below.heap_alloc _ _ _ hrg1.lt)
      have cx4 := bx4.cell
      have hlen : done.length ≤ 1000000000 := by
        have h1 := hrg1.2.2.2.2.1
        have h2 := hg4.few.1
        rw [List.length_append] at h1
        have h3 : (rowT L).length = L.length := List.length_map _
        omega
      have hmeas : cnt1 < wr.rangeLeft gb r := by rw [hrg.left]; exact hlt1
      clear HX hg hR hb bx b2 hg1 hgk1 hR1 hb1 bx1 b21 hrg1 hrg hne bm
      go_wp2_with (first
        | (at_builtin
           refine Kd.zeg kM0 (w0 := w) w.heap.size rfl (.tmp 18) (.tmp 24) 22 TN (.agg #[.int .i64 0, .int .i64 0, .slice none 0 0]) 40 rfl Try.underlying22 infoN rfl (by decide) (by decide) v done x [.int .i64 x.2, .int .i64 x.1, .slice none 0 0] (fun _ => True) (fun _ => False) rfl rfl ((kM0_M _ _ _ _ _).2 rfl) (fun _ h => h.elim) (fun _ _ => trivial) hR4 hb4 hb4.size (by omega) ?_
           intro v1 W5 R5 hB5 hg5 _
           obtain ⟨_, ho4⟩ := Kd.zek hR4
           have bx5 := bx4.kept hg5 (own_ne ho4 bx4 (by decide))
           have b25 := b24.kept hg5 (own_ne ho4 b24 (by decide))
           have cx5 := bx5.cell
           have fx5 := bx5.frozen
           obtain ⟨A1, c1, rfl⟩ := Kd.zcf R5
           have hl1 : (done ++ [x]).length = done.length + 1 := by { simp }
           rw [hl1] at R5
           obtain ⟨W6, hW6⟩ : ∃ X, W5.setCell ⟨b3, 0, none⟩ (.slice A1 (done.length + 1) c1) = X := ⟨_, rfl⟩)
        | go_in)
      have bx6 : Boxed W6 b3 TG (.slice A1 (done.length + 1) c1) := by rw [← hW6]; exact bx5.set _
      have hm5 : zbe W4 W5 := zbe.own hg5 ho4
      have hm6 : zbe W5 W6 := by rw [← hW6]; exact zbe.cell bx5 _ none _
      have hr5 : W5.heap[r]? = W4.heap[r]? := hg5.block r hr4.lt (fun e => by
        obtain ⟨cs, hc⟩ := zdq ho4 r e.symm
        obtain ⟨m, s, e2, c2, hi⟩ := hr4.iter
        rw [hi] at hc
        cases hc)
      have hr6 : W6.heap[r]? = W4.heap[r]? := by
        rw [← hr5, ← hW6]
        refine Below.heap_setCell _ _ _ _ (fun e => ?_)
        obtain ⟨m, s, e2, c2, hi⟩ := hr4.iter
        rw [← hr5, show r = b3 from e, bx5] at hi
        cases hi
      have hrgN : Ranges keyM gb r (rowT L) (done ++ [x]) cnt1 W6 := by
        obtain ⟨es, c, hb⟩ := hr4.map.block
        exact hr4.keep ((hm6 _ _ _ (hm5 _ _ _ hb)).trans hb.symm) hr6
      have R6 : Kd.R kM0 TN W6 w.heap.size (fun _ => True) (.slice A1 (done.length + 1) c1) (done ++ [x]) := by rw [← hW6]; exact Kd.R_set R5 bx5 (by decide) _ _
      have hB6 : Below w.heap.size w W6 := by rw [← hW6]; exact hB5.setCell (p := ⟨b3, 0, none⟩) (Nat.le_of_lt hlt3) _
      have b26 : Boxed W6 w.heap.size TG (.slice none 0 0) := by rw [← hW6]; exact Boxed.other b25 (Nat.ne_of_lt hlt3) _
      have hg6 : zbf gb base B L W6 := (hg4.kept hm5).kept hm6
      clear hR4 hb4 hg4 bx4 b24 hr4 hW6 hW4
      go_roundw
      case rel => exact ⟨_, cnt1, _, hrgN, bx6, R6, hB6, Lib.hid b26, hg6⟩
      case measure => rw [hrgN.left]; exact hmeas
end Go.Proofs.ZZ.GStk
end
section
namespace Go.Proofs.ZZ.GMerge
open Go Go.RowKit Go.Shelf Go.Maps Go.Proofs.ZW.PrintWords Go.Proofs.ZW.PrintLast Go.Proofs.ZZ.GMap Go.Proofs.ZZ.GK Go.Proofs.ZZ.G16 Go.Proofs.ZZ.GGr Go.Proofs.ZZ.GAdd Go.Proofs.ZZ.GTop Go.Proofs.ZZ.GStk
theorem merge_calls (A A' : Option Addr) (c c' : Nat) (xs ys : List Nd) (w : World) (hC : Kd.C kN w A xs.length xs) (hC' : Kd.C kN w A' ys.length ys) (hf : FitG xs) (hf' : FitG ys) (hl : xs.length + ys.length ≤ 4096) (hB : cntG xs + cntG ys ≤ 100000000) :
    Calls Try.prog 17 #[.agg #[.slice A xs.length c], .agg #[.slice A' ys.length c']] w fun e w' =>
      ∃ v, e = .returned (.agg #[v]) ∧ Kd.R kN TN w' w.heap.size (fun _ => True) v (zdo xs ys) ∧ Below w.heap.size w w' := by
  obtain ⟨W1, hW1⟩ : ∃ X, w.alloc (.cells #[.slice A xs.length c] TG) = X := ⟨_, rfl⟩
  obtain ⟨W2, hW2⟩ : ∃ X, W1.alloc (.cells #[.slice A' ys.length c'] TG) = X := ⟨_, rfl⟩
  obtain ⟨W3, hW3⟩ : ∃ X, W2.alloc (.cells #[.slice none 0 0] TG) = X := ⟨_, rfl⟩
  obtain ⟨b3, hb3⟩ : ∃ b, W1.heap.size = b := ⟨_, rfl⟩
  obtain ⟨b4, hb4⟩ : ∃ b, W2.heap.size = b := ⟨_, rfl⟩
  have e1 : Below w.heap.size w W1 := by rw [← hW1]; exact (Below.refl _ _).alloc (Nat.le_refl _) _
  have e2 : Below w.heap.size w W2 := by rw [← hW2]; exact e1.alloc e1.size _
  have e3 : Below w.heap.size w W3 := by rw [← hW3]; exact e2.alloc e2.size _
  have b23 : W3.heap[w.heap.size]? = some (.cells #[.slice A xs.length c] TG (0, 0)) := by rw [← hW3, ← hW2, ← hW1]; exact zad (zad (zbp _ _) _) _
  have b33 : W3.heap[b3]? = some (.cells #[.slice A' ys.length c'] TG (0, 0)) := by rw [← hW3, ← hW2, ← hb3]; exact zad (zbp _ _) _
  have b43 : W3.heap[b4]? = some (.cells #[.slice none 0 0] TG (0, 0)) := by rw [← hW3, ← hb4]; exact zbp _ _
  have hb4w : w.heap.size ≤ b4 := by rw [← hb4]; exact e2.size
  obtain ⟨gb, hgb⟩ : ∃ b, W3.heap.size = b := ⟨_, rfl⟩
  obtain ⟨W6, hW6⟩ : ∃ X, W3.alloc (.map #[] 0) = X := ⟨_, rfl⟩
  have hb6 : Below w.heap.size w W6 := by rw [← hW6]; exact e3.alloc e3.size _
  have hg6 : zbf gb w.heap.size 0 [] W6 := by
    rw [← hW6, ← hgb]
    exact ⟨MapAt.new _, (fun _ h => nomatch h), by simp, ⟨Nat.le_refl _, fun _ h => nomatch h⟩, e3.size⟩
  have k36 : zaz W3 W6 := by rw [← hW6]; exact zaz.alloc _ _
  have c26 : W6.cell? ⟨w.heap.size, 0, none⟩ = some (.slice A xs.length c) := k36.cell (zaf b23 0)
  have hadd := zft hg6 A c xs (Kd.za4 hC hb6) hf hb6.size (by omega)
  have hmm := @run_makeMap Try.prog
  have hok := merge_ok hf hf' hl
  have HF' := Lib.hid hf'
  have HOK := Lib.hid hok
  clear hok hf hf'
  go_enter Try.func17, Try.ntmps17
  go_wp2_with (first
    | (go_at_call 39
       first
       | (with_reducible refine hadd.mono ?_
          rintro e W7 ⟨L1, rfl, hg7, he7, hb7, hk7⟩
          have hb7w := hb6.trans hb7
          have k37 := k36.trans hk7
          have c37 : W7.cell? ⟨b3, 0, none⟩ = some (.slice A' ys.length c') := k37.cell (zaf b33 0)
          have hadd2 := zft hg7 A' c' ys (Kd.za4 hC' hb7w) HF'.out hb7w.size (by omega))
       | (with_reducible refine hadd2.mono ?_
          rintro e W8 ⟨L2, rfl, hg8, he8, hb8, hk8⟩
          have hb8w := hb7w.trans hb8
          have k38 := k37.trans hk8
          have hG : toG L2 = gadd (gadd [] xs) ys := by { rw [he8, he7]; rfl }
          have hst := zf1 hg8 (by { rw [hG]; exact HOK.out }) (fun m hm => by
            rw [hG] at hm
            obtain ⟨r1, r2, r3, r4⟩ := HOK.out.rng m hm
            exact ⟨zda r1 (Int.le_trans r2 (by decide)), zda r3 (Int.le_trans r4 (by decide))⟩) (by omega)
          have hps : ofGr (toG L2) = zdo xs ys := by { rw [hG]; rfl }
          rw [hps] at hst
          have hkl : (keys (toG L2)).length ≤ 4096 := by { rw [hG]; exact HOK.out.len }
          have hll : L2.length ≤ 4096 := by { have h3 : (keys (toG L2)).length = L2.length := by { unfold keys toG; rw [List.length_map, List.length_map] }; omega }
          have hlen := hg8.top.len (t := 59) (e := 61) Try.underlying59 3
          have hrl : (rowT L2).length = L2.length := List.length_map _
          rw [hrl] at hlen
          have b48 := k38 _ _ _ _ b43
          have hgt : decide ((4096 : Int) < (L2.length : Int)) = false := decide_eq_false (by omega)))
    | (go_at_call 41
       refine hst.mono ?_
       rintro e W9 ⟨v, rfl, R9, hB9⟩
       obtain ⟨Ao, co, rfl⟩ := Kd.zcf R9
       have b49 := zax b48 hB9
       have c49 : W9.cell? ⟨b4, 0, none⟩ = some (.slice none 0 0) := zaf b49 0
       have f49 : W9.frozen? ⟨b4, 0, none⟩ = false := zbr b49 0
       obtain ⟨W10, hW10⟩ : ∃ X, W9.setCell ⟨b4, 0, none⟩ (.slice Ao (zdo xs ys).length co) = X := ⟨_, rfl⟩)
    | go_in)
  have b410 : W10.heap[b4]? = some (.cells #[.slice Ao (zdo xs ys).length co] TG (0, 0)) := by rw [← hW10]; exact zas b49 0 _ rfl
  have R10 : Kd.R kN TN W10 w.heap.size (fun _ => True) (.slice Ao (zdo xs ys).length co) (zdo xs ys) := by rw [← hW10]; exact Kd.R_set (Kd.zde R9 hb8w.size) b49 (by decide) _ _
  have hb10 : Below w.heap.size w W10 := by rw [← hW10]; exact (hb8w.trans (hB9.mono hb8w.size)).setCell (p := ⟨b4, 0, none⟩) hb4w _
  refine bodyPost_ret (results_cell_row rfl _ _ b4 TG #[.slice Ao (zdo xs ys).length co] (0, 0) _ rfl b410 Try.underlying24 rfl (by kernel_rfl)) rfl ?_
  exact ⟨_, rfl, R10, hb10⟩
end Go.Proofs.ZZ.GMerge
end
section
namespace Go.Proofs.ZZ.GFind
open Go Go.RowKit Go.Shelf Go.Maps Go.Proofs.ZW.PrintWords Go.Proofs.ZW.PrintLast Go.Proofs.ZZ.GMap Go.Proofs.ZZ.GK Go.Proofs.ZZ.G16 Go.Proofs.ZZ.GGr Go.Proofs.ZZ.GAdd Go.Proofs.ZZ.GTop
def zeu (s a : Int) : Nat → List Nd → Int
 | _, [] => -1
 | i, x :: t => if x.1 = s ∧ x.2.1 = a then (i : Int) else zeu s a (i + 1) t
def zcb (xs : List Nd) (s a : Int) : Int := zeu s a 0 xs
theorem findF_hit {s a : Int} {xs : List Nd} {j : Nat} {x : Nd} (hj : xs[j]? = some x) (hx : x.1 = s ∧ x.2.1 = a) (hn : ∀ (t : Nat) y, t < j → xs[t]? = some y → ¬ (y.1 = s ∧ y.2.1 = a)) : ∀ i, zeu s a i xs = ((i + j : Nat) : Int) := by
 induction xs generalizing j with
 | nil => simp at hj
 | cons y t ih =>
  intro i
  cases j with
  | zero =>
   obtain rfl : y = x := by simpa using hj
   simp only [zeu]
   rw [if_pos hx]
   rfl
  | succ j =>
   simp only [zeu]
   rw [if_neg (hn 0 y (Nat.succ_pos _) rfl), ih (j := j) (by simpa using hj) (fun q z hq hz => hn (q + 1) z (by omega) (by simpa using hz))]
   congr 1
   omega
theorem zgf {s a : Int} : ∀ {xs : List Nd} (i : Nat), (∀ (t : Nat) y, xs[t]? = some y → ¬ (y.1 = s ∧ y.2.1 = a)) → zeu s a i xs = -1
 | [], _, _ => rfl
 | x :: t, i, h => by
  simp only [zeu]
  rw [if_neg (h 0 x rfl)]
  exact zgf (i + 1) (fun q y hq => h (q + 1) y (by simpa using hq))
theorem zd7 (xs : List Nd) (s a : Int) : zcb xs s a = if (a, s) ∈ marks xs then idx (marks xs) (a, s) else -1 := by
 unfold zcb
 split
 ·rename_i hm
  have hl : (marks xs).findIdx (· == (a, s)) < (marks xs).length := List.findIdx_lt_length_of_exists ⟨_, hm, by simp⟩
  obtain ⟨j, hj⟩ : ∃ j, (marks xs).findIdx (· == (a, s)) = j := ⟨_, rfl⟩
  rw [hj] at hl
  have hlx : j < xs.length := by rwa [zcl] at hl
  have h1 : (marks xs)[j] = (a, s) := by
   have := List.findIdx_getElem (w := by rw [hj]; exact hl) (xs := marks xs) (p := (· == (a, s)))
   simp only [hj] at this
   simpa using this
  have h2 : mrk xs[j] = (a, s) := by rw [← h1]; simp [marks]
  have h3 := Prod.mk.inj (show ((xs[j]).2.1, (xs[j]).1) = (a, s) from h2)
  rw [findF_hit (List.getElem?_eq_getElem hlx) ⟨h3.2, h3.1⟩ (fun t y ht hy hyy => ?_) 0]
  ·unfold idx
   rw [hj, Nat.zero_add]
  ·have hn := List.not_of_lt_findIdx (xs := marks xs) (p := (· == (a, s))) (i := t) (by rw [hj]; exact ht)
   have htl : t < xs.length := (List.getElem?_eq_some_iff.1 hy).1
   have e : (marks xs)[t]'(by rw [zcl]; exact htl) = (a, s) := by
    have := (List.getElem?_eq_some_iff.1 hy).2
    simp only [marks, List.getElem_map, this, mrk, hyy.1, hyy.2]
   rw [e] at hn
   simp at hn
 ·rename_i hm
  refine zgf 0 (fun t y hy hyy => hm ?_)
  exact List.mem_map.2 ⟨y, List.mem_of_getElem? hy, by simp [mrk, hyy.1, hyy.2]⟩
theorem find1_calls (bs ba : Nat) (s a : Int) (x : Nd) (A2 : Option Addr) (n2 c2 : Nat) (W : World) (hs : W.heap[bs]? = some (.cells #[.int .i64 s] TI (0, 0))) (ha : W.heap[ba]? = some (.cells #[.int .i64 a] TI (0, 0))) :
  Calls Try.prog 51 #[.agg #[.int .i64 x.1, .int .i64 x.2.1, .slice A2 n2 c2], .pointer (some ⟨bs, 0, none⟩), .pointer (some ⟨ba, 0, none⟩)] W fun e W' => e = .returned (.bool (decide (x.1 = s ∧ x.2.1 = a))) ∧ Below W.heap.size W W' := by
 obtain ⟨W1, hW1⟩ : ∃ X, W.alloc (.cells #[.int .i64 x.1, .int .i64 x.2.1, .slice A2 n2 c2] TN) = X := ⟨_, rfl⟩
 have bx : W1.heap[W.heap.size]? = some (.cells #[.int .i64 x.1, .int .i64 x.2.1, .slice A2 n2 c2] TN (0, 0)) := by rw [← hW1]; exact zbp _ _
 have x0 : W1.cell? ⟨W.heap.size, 0, none⟩ = some (.int .i64 x.1) := zaf bx 0
 have x1 : W1.cell? ⟨W.heap.size, 1, none⟩ = some (.int .i64 x.2.1) := zaf bx 1
 have cs : W1.cell? ⟨bs, 0, none⟩ = some (.int .i64 s) := by rw [← hW1]; exact zaf (zad hs _) 0
 have ca : W1.cell? ⟨ba, 0, none⟩ = some (.int .i64 a) := by rw [← hW1]; exact zaf (zad ha _) 0
 have hb : Below W.heap.size W W1 := by rw [← hW1]; exact (Below.refl _ _).alloc (Nat.le_refl _) _
 clear hs ha bx
 by_cases h1 : x.1 = s
 ·have q1 : (x.1 == s) = true := by simpa using h1
  by_cases h2 : x.2.1 = a
  ·have q2 : (x.2.1 == a) = true := by simpa using h2
   have e : decide (x.1 = s ∧ x.2.1 = a) = true := decide_eq_true ⟨h1, h2⟩
   rw [e]
   clear h1 h2 e
   go_enter Try.func51, Try.ntmps51
   go_wp2;go_ret
   exact ⟨rfl, hb⟩
  ·have q2 : (x.2.1 == a) = false := by simpa using h2
   have e : decide (x.1 = s ∧ x.2.1 = a) = false := decide_eq_false (fun h => h2 h.2)
   rw [e]
   clear h1 h2 e
   go_enter Try.func51, Try.ntmps51
   go_wp2;go_ret
   exact ⟨rfl, hb⟩
 ·have q1 : (x.1 == s) = false := by simpa using h1
  have e : decide (x.1 = s ∧ x.2.1 = a) = false := decide_eq_false (fun h => h1 h.1)
  rw [e]
  clear h1 e
  go_enter Try.func51, Try.ntmps51
  go_wp2;go_ret
  exact ⟨rfl, hb⟩
theorem index_calls (bs ba : Nat) (s a : Int) (A : Option Addr) (c : Nat) (xs : List Nd) (w : World) (hC : Kd.C kN w A xs.length xs) (hs : w.heap[bs]? = some (.cells #[.int .i64 s] TI (0, 0))) (ha : w.heap[ba]? = some (.cells #[.int .i64 a] TI (0, 0))) :
  Calls Try.prog 50 #[.slice A xs.length c, .func (.func 51) #[] #[.pointer (some ⟨bs, 0, none⟩), .pointer (some ⟨ba, 0, none⟩)]] w fun e w' => e = .returned (.int .i64 (zcb xs s a)) ∧ Below w.heap.size w w' := by
 have hn : xs.length ≤ 9223372036854775807 := hC.2.1
 have HS := Lib.hid hs
 have HA := Lib.hid ha
 clear hs ha
 go_enter Try.func50, Try.ntmps50
 go_wp2
 go_loopw [8] (fun i wr => ∃ j : Nat, i = .int .i64 (j : Int) ∧ j ≤ xs.length ∧ Hid (∀ (t : Nat) y, t < j → xs[t]? = some y → ¬ (y.1 = s ∧ y.2.1 = a)) ∧ Below w.heap.size w wr) (fun i _ => xs.length - (Go.RowKit.intOf i).toNat)
 case atStart => exact ⟨0, rfl, Nat.zero_le _, Lib.hid (fun t y h => absurd h (Nat.not_lt_zero _)), Below.refl _ _⟩
 case round =>
  obtain ⟨j, rfl, hj, HN, hb⟩ := hrel
  by_cases hlt : j < xs.length
  ·obtain ⟨x, hx⟩ : ∃ x, xs[j]? = some x := ⟨xs[j], List.getElem?_eq_getElem hlt⟩
   obtain ⟨ad, A2, c2, hA2, f0, f1, f2, _, _⟩ := zd2 (Kd.za4 hC hb) hx
   subst hA2
   have hcall := find1_calls bs ba s a x A2 x.2.2.length c2 wr (zax HS.out hb) (zax HA.out hb)
   have HX := Lib.hid hx
   clear hx
   by_cases hq : x.1 = s ∧ x.2.1 = a
   ·rw [decide_eq_true hq] at hcall
    have HQ := Lib.hid hq
    clear hq
    go_wp2_with (first
     | (go_at_call 51; refine hcall.mono ?_; rintro e W' ⟨rfl, hb2⟩)
     | go_in)
    go_ret
    refine ⟨?_, hb.trans (hb2.mono hb.size)⟩
    unfold zcb
    rw [findF_hit HX.out HQ.out HN.out 0, Nat.zero_add]
    rfl
   ·rw [decide_eq_false hq] at hcall
    have HQ := Lib.hid hq
    clear hq
    go_wp2_with (first
     | (go_at_call 51; refine hcall.mono ?_; rintro e W' ⟨rfl, hb2⟩)
     | go_in)
    go_roundw
    case rel =>
     refine ⟨j + 1, by first | rfl | go_num, by omega, Lib.hid (fun t y ht hy => ?_), hb.trans (hb2.mono hb.size)⟩
     by_cases et : t = j
     ·subst et
      rw [HX.out] at hy
      cases hy
      exact HQ.out
     ·exact HN.out t y (by omega) hy
    case measure => simp [Go.RowKit.intOf]; omega
  ·obtain rfl : j = xs.length := by omega
   go_wp2;go_ret
   refine ⟨?_, hb⟩
   unfold zcb
   rw [zgf 0 (fun t y hy => HN.out t y ((List.getElem?_eq_some_iff.1 hy).1) hy)]
   rfl
theorem ze6 (s a : Int) (A : Option Addr) (c : Nat) (xs : List Nd) (w : World) (hC : Kd.C kN w A xs.length xs) :
  Calls Try.prog 29 #[.agg #[.slice A xs.length c], .int .i64 s, .int .i64 a] w fun e w' => e = .returned (.int .i64 (zcb xs s a)) ∧ Below w.heap.size w w' := by
 obtain ⟨W1, hW1⟩ : ∃ X, w.alloc (.cells #[.slice A xs.length c] TG) = X := ⟨_, rfl⟩
 obtain ⟨W2, hW2⟩ : ∃ X, W1.alloc (.cells #[.int .i64 s] TI) = X := ⟨_, rfl⟩
 obtain ⟨W3, hW3⟩ : ∃ X, W2.alloc (.cells #[.int .i64 a] TI) = X := ⟨_, rfl⟩
 have e1 : Below w.heap.size w W1 := by rw [← hW1]; exact (Below.refl _ _).alloc (Nat.le_refl _) _
 have e2 : Below w.heap.size w W2 := by rw [← hW2]; exact e1.alloc e1.size _
 have e3 : Below w.heap.size w W3 := by rw [← hW3]; exact e2.alloc e2.size _
 have b1 : W3.heap[w.heap.size]? = some (.cells #[.slice A xs.length c] TG (0, 0)) := by rw [← hW3, ← hW2, ← hW1]; exact zad (zad (zbp _ _) _) _
 have b2 : W3.heap[W1.heap.size]? = some (.cells #[.int .i64 s] TI (0, 0)) := by rw [← hW3, ← hW2]; exact zad (zbp _ _) _
 have b3 : W3.heap[W2.heap.size]? = some (.cells #[.int .i64 a] TI (0, 0)) := by rw [← hW3]; exact zbp _ _
 have c1 : W3.cell? ⟨w.heap.size, 0, none⟩ = some (.slice A xs.length c) := zaf b1 0
 have hix := index_calls W1.heap.size W2.heap.size s a A c xs W3 (Kd.za4 hC e3) b2 b3
 clear b1 b2 b3 e1 e2 hC
 go_enter Try.func29, Try.ntmps29
 go_wp2_with (first
  | (go_at_call 50; go_loud (refine hix.mono ?_; rintro e W' ⟨rfl, hb⟩))
  | go_in)
 go_ret
 exact ⟨rfl, e3.trans (hb.mono e3.size)⟩
end Go.Proofs.ZZ.GFind
end
section
namespace Go.Proofs.ZZ.GPush
open Go Go.RowKit Go.Shelf Go.Maps Go.Proofs.ZW.PrintWords Go.Proofs.ZW.PrintLast Go.Proofs.ZZ.GMap Go.Proofs.ZZ.GK Go.Proofs.ZZ.G16 Go.Proofs.ZZ.GGr Go.Proofs.ZZ.GAdd Go.Proofs.ZZ.GTop Go.Proofs.ZZ.GStk Go.Proofs.ZZ.GFind
theorem num_calls (n : Int) (W : World) : Calls Try.prog 37 #[.int .i64 n] W fun e w' => e = .returned (.bool (decide (0 ≤ n ∧ n ≤ 65535))) ∧ w' = W := by
  by_cases h1 : 0 ≤ n
  · by_cases h2 : n ≤ 65535
    · have e : decide (0 ≤ n ∧ n ≤ 65535) = true := decide_eq_true ⟨h1, h2⟩
      rw [e]
      clear e
      go_enter Try.func37, Try.ntmps37
      go_wp2;go_ret
      exact ⟨by simp [h1, h2], rfl⟩
    · have e : decide (0 ≤ n ∧ n ≤ 65535) = false := decide_eq_false (fun h => h2 h.2)
      rw [e]
      clear e
      go_enter Try.func37, Try.ntmps37
      go_wp2;go_ret
      exact ⟨by simp [h1, h2], rfl⟩
  · have e : decide (0 ≤ n ∧ n ≤ 65535) = false := decide_eq_false (fun h => h1 h.1)
    rw [e]
    clear e
    go_enter Try.func37, Try.ntmps37
    go_wp2;go_ret
    exact ⟨by simp [h1], rfl⟩
theorem atI {w : World} {A : Option Addr} {n : Nat} {l : List Int} (h : Kd.C (Kd.int .i64) w A n l) {k : Nat} {x : Int} (hk : l[k]? = some x) : ∃ ad, A = some ad ∧ w.cell? (ad.add k) = some (.int .i64 x) := by
  obtain ⟨h1, h2, h3⟩ := h
  have hk' := (List.getElem?_eq_some_iff.1 hk).1
  obtain ⟨ad, e, hc⟩ := h3 (by omega)
  obtain ⟨cs, _, hR, hcell⟩ := hc k x hk
  obtain rfl : cs = [.int .i64 x] := hR
  have := hcell 0 _ rfl
  rw [show k * (Kd.int .i64).sz + 0 = k from by show k * 1 + 0 = k; omega] at this
  exact ⟨ad, e, this⟩
theorem zf6 (A : Option Addr) (c : Nat) (l : List Int) (x : Int) (w : World) (hC : Kd.C (Kd.int .i64) w A l.length l) :
    Calls Try.prog 38 #[.slice A l.length c, .int .i64 x] w fun e w' => e = .returned (.bool (decide (x ∈ l))) ∧ w' = w := by
  have hn : l.length ≤ 9223372036854775807 := hC.2.1
  have hix : Calls Try.prog 57 #[.slice A l.length c, .int .i64 x] w fun e w' => (∃ r : Int, e = .returned (.int .i64 r) ∧ decide (0 ≤ r) = decide (x ∈ l)) ∧ w' = w := by
    go_enter Try.func57, Try.ntmps57
    go_wp2
    go_loopw [8] (fun i wr => ∃ j : Nat, i = .int .i64 (j : Int) ∧ j ≤ l.length ∧ Hid (x ∉ l.take j) ∧ wr = w) (fun i _ => l.length - (Go.RowKit.intOf i).toNat)
    case atStart => exact ⟨0, rfl, Nat.zero_le _, Lib.hid (by simp), rfl⟩
    case round =>
      obtain ⟨j, rfl, hj, HN, rfl⟩ := hrel
      by_cases hlt : j < l.length
      · obtain ⟨y, hy⟩ : ∃ y, l[j]? = some y := ⟨l[j], List.getElem?_eq_getElem hlt⟩
        obtain ⟨ad, hA, f0⟩ := atI hC hy
        subst hA
        have HY := Lib.hid hy
        clear hy
        by_cases hq : x = y
        · subst hq
          go_wp2;go_ret
          refine ⟨⟨j, rfl, ?_⟩, rfl⟩
          rw [decide_eq_true (List.mem_of_getElem? HY.out), decide_eq_true (by omega)]
        · have hqb : (x == y) = false := by simpa using hq
          go_wp2
          go_roundw
          case rel =>
            refine ⟨j + 1, by first | rfl | go_num, by omega, Lib.hid ?_, trivial⟩
            rw [GAdd.zc6 HY.out, List.mem_append]
            rintro (h | h)
            · exact HN.out h
            · exact hq (by simpa using h)
          case measure => simp [Go.RowKit.intOf]; omega
      · obtain rfl : j = l.length := by omega
        rw [List.take_length] at HN
        go_wp2;go_ret
        exact ⟨⟨-1, rfl, by rw [decide_eq_false HN.out]; rfl⟩, rfl⟩
  go_enter Try.func38, Try.ntmps38
  go_wp2_with (first | (go_at_call 57; refine hix.mono ?_; rintro e W' ⟨⟨r, rfl, hr⟩, rfl⟩) | go_in)
  go_ret
  exact ⟨by rw [← hr]; rfl, rfl⟩
def zbq (xs : List Nd) (from_ st at_ : Int) : List Nd × Int × Bool :=
  if h : 0 ≤ from_ ∧ from_ < (xs.length : Int) then
    let x := xs.getD from_.toNat (0, 0, [])
    if x.2.1 ≤ at_ ∧ (0 ≤ st ∧ st ≤ 65535) ∧ 0 ≤ at_ ∧ at_ ≤ 65535 then
      if 0 ≤ zcb xs st at_ ∧ from_ ∈ (xs.getD (zcb xs st at_).toNat (0, 0, [])).2.2 then (xs, zcb xs st at_, false)
      else if zcb xs st at_ < 0 ∧ 4096 ≤ xs.length then (xs, -1, false)
      else (zd4 xs (mrk x) (at_, st), zcb (zd4 xs (mrk x) (at_, st)) st at_, true)
    else (xs, -1, false)
  else (xs, -1, false)
theorem zhs (A : Option Addr) (c : Nat) (xs : List Nd) (from_ st at_ : Int) (w : World) (hC : Kd.C kN w A xs.length xs) (hcc : xs.length ≤ c) (hf : FitG xs) (hB : cntG xs ≤ 100000000) :
    Calls Try.prog 13 #[.agg #[.slice A xs.length c], .int .i64 from_, .int .i64 st, .int .i64 at_] w fun e w' =>
      ∃ A' c', e = .returned (.tuple #[.agg #[.slice A' (zbq xs from_ st at_).1.length c'], .int .i64 (zbq xs from_ st at_).2.1, .bool (zbq xs from_ st at_).2.2]) ∧ (zbq xs from_ st at_).1.length ≤ c' ∧ Kd.C kN w' A' (zbq xs from_ st at_).1.length (zbq xs from_ st at_).1 ∧ Below w.heap.size w w' ∧ (A' = A ∧ c' = c ∧ (zbq xs from_ st at_).1 = xs ∨ Kd.R kN TN w' w.heap.size (fun _ => True) (.slice A' (zbq xs from_ st at_).1.length c') (zbq xs from_ st at_).1) := by
  obtain ⟨W1, hW1⟩ : ∃ X, w.alloc (.cells #[.slice A xs.length c] TG) = X := ⟨_, rfl⟩
  obtain ⟨W2, hW2⟩ : ∃ X, W1.alloc (.cells #[.slice none 0 0] TG) = X := ⟨_, rfl⟩
  have e1 : Below w.heap.size w W1 := by rw [← hW1]; exact (Below.refl _ _).alloc (Nat.le_refl _) _
  have e2 : Below w.heap.size w W2 := by rw [← hW2]; exact e1.alloc e1.size _
  obtain ⟨b8, hb8⟩ : ∃ b, W1.heap.size = b := ⟨_, rfl⟩
  have b42 : W2.heap[w.heap.size]? = some (.cells #[.slice A xs.length c] TG (0, 0)) := by rw [← hW2, ← hW1]; exact zad (zbp _ _) _
  have b82 : W2.heap[b8]? = some (.cells #[.slice none 0 0] TG (0, 0)) := by rw [← hW2, ← hb8]; exact zbp _ _
  have c42 : W2.cell? ⟨w.heap.size, 0, none⟩ = some (.slice A xs.length c) := zaf b42 0
  have f82 : W2.frozen? ⟨b8, 0, none⟩ = false := zbr b82 0
  have c82 : W2.cell? ⟨b8, 0, none⟩ = some (.slice none 0 0) := zaf b82 0
  have hb8w : w.heap.size ≤ b8 := by rw [← hb8]; exact e1.size
  obtain ⟨W3, hW3⟩ : ∃ X, W2.setCell ⟨b8, 0, none⟩ (.slice A xs.length c) = X := ⟨_, rfl⟩
  have B3 : Hid (W3.heap[b8]? = some (.cells #[.slice A xs.length c] TG (0, 0))) := Lib.hid (by rw [← hW3]; exact zas b82 0 _ rfl)
  have hb3 : Below w.heap.size w W3 := by rw [← hW3]; exact e2.setCell (p := ⟨b8, 0, none⟩) hb8w _
  have hC3 := Kd.za4 hC hb3
  have hlen := hf.len
  obtain ⟨bs, hbs⟩ : ∃ b, decide (0 ≤ st ∧ st ≤ 65535) = b := ⟨_, rfl⟩
  obtain ⟨ba, hba⟩ : ∃ b, decide (0 ≤ at_ ∧ at_ ≤ 65535) = b := ⟨_, rfl⟩
  have hns : ∀ W, Calls Try.prog 37 #[.int .i64 st] W fun e w' => e = .returned (.bool bs) ∧ w' = W := fun W => by rw [← hbs]; exact num_calls st W
  have hna : ∀ W, Calls Try.prog 37 #[.int .i64 at_] W fun e w' => e = .returned (.bool ba) ∧ w' = W := fun W => by rw [← hba]; exact num_calls at_ W
  have HFI := Lib.hid hf
  have hfu : True := trivial
  by_cases h1 : from_ < 0
  ·
    have HP := Lib.hid (show zbq xs from_ st at_ = (xs, -1, false) from dif_neg (fun h => by omega))
    clear HFI hfu
    go_enter Try.func13, Try.ntmps13
    go_wp2_with (first
      | (go_at_call 37; first | (with_reducible refine (hns _).mono ?_; rintro e w' ⟨rfl, rfl⟩) | (with_reducible refine (hna _).mono ?_; rintro e w' ⟨rfl, rfl⟩))
      | go_in)
    refine bodyPost_ret (zcc rfl _ _ b8 TG #[.slice A xs.length c] (0, 0) _ rfl B3.out Try.underlying24 rfl (by kernel_rfl)) rfl ?_
    exact ⟨_, _, by rw [HP.out]; rfl, by rw [HP.out]; exact hcc, by rw [HP.out]; exact hC3, hb3, .inl ⟨rfl, rfl, by rw [HP.out]⟩⟩
  by_cases h2 : (xs.length : Int) ≤ from_
  ·
    have HP := Lib.hid (show zbq xs from_ st at_ = (xs, -1, false) from dif_neg (fun h => by omega))
    clear HFI hfu
    go_enter Try.func13, Try.ntmps13
    go_wp2_with (first
      | (go_at_call 37; first | (with_reducible refine (hns _).mono ?_; rintro e w' ⟨rfl, rfl⟩) | (with_reducible refine (hna _).mono ?_; rintro e w' ⟨rfl, rfl⟩))
      | go_in)
    refine bodyPost_ret (zcc rfl _ _ b8 TG #[.slice A xs.length c] (0, 0) _ rfl B3.out Try.underlying24 rfl (by kernel_rfl)) rfl ?_
    exact ⟨_, _, by rw [HP.out]; rfl, by rw [HP.out]; exact hcc, by rw [HP.out]; exact hC3, hb3, .inl ⟨rfl, rfl, by rw [HP.out]⟩⟩
  have hfl : from_.toNat < xs.length := by omega
  obtain ⟨x, hx⟩ : ∃ x, xs[from_.toNat]? = some x := ⟨xs[from_.toNat], List.getElem?_eq_getElem hfl⟩
  have hxd : xs.getD from_.toNat (0, 0, []) = x := by rw [List.getD_eq_getElem?_getD, hx]; rfl
  obtain ⟨ad, A2, c2, hA, n0, n1, _, _, _⟩ := zd2 (Kd.za4 hC e2) hx
  subst hA
  have hg1 : 0 ≤ from_ ∧ from_ < (xs.length : Int) := by omega
  by_cases h3 : at_ < x.2.1
  ·
    have HP := Lib.hid (show zbq xs from_ st at_ = (xs, -1, false) by unfold zbq; rw [dif_pos hg1]; simp only [hxd]; rw [if_neg (fun h => by omega)])
    clear HFI hfu
    go_enter Try.func13, Try.ntmps13
    go_wp2_with (first
      | (go_at_call 37; first | (with_reducible refine (hns _).mono ?_; rintro e w' ⟨rfl, rfl⟩) | (with_reducible refine (hna _).mono ?_; rintro e w' ⟨rfl, rfl⟩))
      | go_in)
    refine bodyPost_ret (zcc rfl _ _ b8 TG #[.slice (some ad) xs.length c] (0, 0) _ rfl B3.out Try.underlying24 rfl (by kernel_rfl)) rfl ?_
    exact ⟨_, _, by rw [HP.out]; rfl, by rw [HP.out]; exact hcc, by rw [HP.out]; exact hC3, hb3, .inl ⟨rfl, rfl, by rw [HP.out]⟩⟩
  cases bs with
  | false =>
    have HP := Lib.hid (show zbq xs from_ st at_ = (xs, -1, false) by unfold zbq; rw [dif_pos hg1]; simp only [hxd]; rw [if_neg (fun h => (of_decide_eq_false hbs) h.2.1)])
    clear HFI hfu
    go_enter Try.func13, Try.ntmps13
    go_wp2_with (first
      | (go_at_call 37; first | (with_reducible refine (hns _).mono ?_; rintro e w' ⟨rfl, rfl⟩) | (with_reducible refine (hna _).mono ?_; rintro e w' ⟨rfl, rfl⟩))
      | go_in)
    refine bodyPost_ret (zcc rfl _ _ b8 TG #[.slice (some ad) xs.length c] (0, 0) _ rfl B3.out Try.underlying24 rfl (by kernel_rfl)) rfl ?_
    exact ⟨_, _, by rw [HP.out]; rfl, by rw [HP.out]; exact hcc, by rw [HP.out]; exact hC3, hb3, .inl ⟨rfl, rfl, by rw [HP.out]⟩⟩
  | true =>
  cases ba with
  | false =>
    have HP := Lib.hid (show zbq xs from_ st at_ = (xs, -1, false) by unfold zbq; rw [dif_pos hg1]; simp only [hxd]; rw [if_neg (fun h => (of_decide_eq_false hba) h.2.2)])
    clear HFI hfu
    go_enter Try.func13, Try.ntmps13
    go_wp2_with (first
      | (go_at_call 37; first | (with_reducible refine (hns _).mono ?_; rintro e w' ⟨rfl, rfl⟩) | (with_reducible refine (hna _).mono ?_; rintro e w' ⟨rfl, rfl⟩))
      | go_in)
    refine bodyPost_ret (zcc rfl _ _ b8 TG #[.slice (some ad) xs.length c] (0, 0) _ rfl B3.out Try.underlying24 rfl (by kernel_rfl)) rfl ?_
    exact ⟨_, _, by rw [HP.out]; rfl, by rw [HP.out]; exact hcc, by rw [HP.out]; exact hC3, hb3, .inl ⟨rfl, rfl, by rw [HP.out]⟩⟩
  | true =>
  have hst := of_decide_eq_true hbs
  have hat := of_decide_eq_true hba
  have HF := Lib.hid hf
  have hmr : 0 ≤ (at_, st).1 ∧ (at_, st).1 ≤ 65535 ∧ 0 ≤ (at_, st).2 ∧ (at_, st).2 ≤ 65535 := ⟨hat.1, hat.2, hst.1, hst.2⟩
  have hmok : mkOk (at_, st) := ⟨zda hat.1 (Int.le_trans hat.2 (by decide)), zda hst.1 (Int.le_trans hst.2 (by decide))⟩
  have hxm := List.mem_of_getElem? hx
  have hxok := fit_wf hf hxm
  have hbm : mrk x ∈ marks xs := List.mem_map.2 ⟨x, hxm, rfl⟩
  have hle0 : (mrk x).1 ≤ (at_, st).1 := Int.not_lt.1 h3
  have HG : Hid (zbq xs from_ st at_ = if 0 ≤ zcb xs st at_ ∧ from_ ∈ (xs.getD (zcb xs st at_).toNat (0, 0, [])).2.2 then (xs, zcb xs st at_, false) else if zcb xs st at_ < 0 ∧ 4096 ≤ xs.length then (xs, -1, false) else (zd4 xs (mrk x) (at_, st), zcb (zd4 xs (mrk x) (at_, st)) st at_, true)) := Lib.hid (by
    unfold zbq
    rw [dif_pos hg1]
    simp only [hxd]
    rw [if_pos ⟨Int.not_lt.1 h3, hst, hat⟩])
  have HMR := Lib.hid hmr
  have HST := Lib.hid hst
  have HBM := Lib.hid hbm
  have HLE := Lib.hid hle0
  clear hst hat hmr hbm hle0 HFI hfu hf hx hxd hxm B3 hb3 hC3 hW3 hbs hba
  by_cases hm : (at_, st) ∈ marks xs
  · obtain ⟨i1, i2, i3⟩ := zdy hm
    obtain ⟨i, hi⟩ : ∃ i : Nat, idx (marks xs) (at_, st) = (i : Int) := ⟨(idx (marks xs) (at_, st)).toNat, by omega⟩
    have hk : zcb xs st at_ = (i : Int) := by rw [zd7, if_pos hm, hi]
    rw [hi, Int.toNat_natCast] at i1
    rw [hi, zcl] at i3
    have hil : i < xs.length := by omega
    obtain ⟨y, hy⟩ : ∃ y, xs[i]? = some y := ⟨xs[i], List.getElem?_eq_getElem hil⟩
    have hyd : xs.getD i (0, 0, []) = y := by rw [List.getD_eq_getElem?_getD, hy]; rfl
    have hfind := ze6 st at_ (some ad) c xs W2 (Kd.za4 hC e2)
    rw [hk] at hfind
    clear i1 i2 i3
    by_cases hfr : from_ ∈ y.2.2
    · have hcd : decide (from_ ∈ y.2.2) = true := decide_eq_true hfr
      have hmm := @run_makeMap Try.prog
      go_enter Try.func13, Try.ntmps13
      go_wp2_with (first
        | (go_at_call 37; first | (with_reducible refine (hns _).mono ?_; rintro e w' ⟨rfl, rfl⟩) | (with_reducible refine (hna _).mono ?_; rintro e w' ⟨rfl, rfl⟩))
        | (go_at_call 29
           refine hfind.mono ?_
           rintro e W5 ⟨rfl, hB5⟩
           have hb5 := e2.trans (hB5.mono e2.size)
           have c45 := zai hB5 c42
           have n05 := zai hB5 n0
           have n15 := zai hB5 n1
           have b85 := zax b82 hB5
           have c85 : W5.cell? ⟨b8, 0, none⟩ = some (.slice none 0 0) := zaf b85 0
           have f85 : W5.frozen? ⟨b8, 0, none⟩ = false := zbr b85 0
           obtain ⟨ad', A3, c3, hA3, y0, y1, y2, hc3, hI3⟩ := zd2 (Kd.za4 hC hb5) hy
           injection hA3 with hA3
           subst hA3
           have hcon := zf6 A3 c3 y.2.2 from_ W5 hI3
           rw [hcd] at hcon
           obtain ⟨W9, hW9⟩ : ∃ X, W5.setCell ⟨b8, 0, none⟩ (.slice (some ad) xs.length c) = X := ⟨_, rfl⟩)
        | (go_at_call 38; refine hcon.mono ?_; rintro e w' ⟨rfl, rfl⟩)
        | go_in)
      have B9 : W9.heap[b8]? = some (.cells #[.slice (some ad) xs.length c] TG (0, 0)) := by rw [← hW9]; exact zas b85 0 _ rfl
      have hb9 : Below w.heap.size w W9 := by rw [← hW9]; exact hb5.setCell (p := ⟨b8, 0, none⟩) hb8w _
      have hfin : zbq xs from_ st at_ = (xs, (i : Int), false) := by
        rw [HG.out, hk, Int.toNat_natCast, hyd, if_pos ⟨Int.natCast_nonneg _, hfr⟩]
      refine bodyPost_ret (zcc rfl _ _ b8 TG #[.slice (some ad) xs.length c] (0, 0) _ rfl B9 Try.underlying24 rfl (by kernel_rfl)) rfl ?_
      exact ⟨_, _, by rw [hfin]; rfl, by rw [hfin]; exact hcc, by rw [hfin]; exact Kd.za4 hC hb9, hb9, .inl ⟨rfl, rfl, by rw [hfin]⟩⟩
    · have hcd : decide (from_ ∈ y.2.2) = false := decide_eq_false hfr
      have hlen0 : Hid ((at_, st) ∈ marks xs ∨ xs.length < 4096) := Lib.hid (.inl hm)
      have HNO := Lib.hid hfr
      clear hfr hm
      have hmm := @run_makeMap Try.prog
      go_enter Try.func13, Try.ntmps13
      go_wp2_with (first
        | (go_at_call 37; first | (with_reducible refine (hns _).mono ?_; rintro e w' ⟨rfl, rfl⟩) | (with_reducible refine (hna _).mono ?_; rintro e w' ⟨rfl, rfl⟩))
        | (go_at_call 29
           refine hfind.mono ?_
           rintro e W5 ⟨rfl, hB5⟩
           have hb5 := e2.trans (hB5.mono e2.size)
           have c45 := zai hB5 c42
           have n05 := zai hB5 n0
           have n15 := zai hB5 n1
           have b85 := zax b82 hB5
           have c85 : W5.cell? ⟨b8, 0, none⟩ = some (.slice none 0 0) := zaf b85 0
           have f85 : W5.frozen? ⟨b8, 0, none⟩ = false := zbr b85 0
           obtain ⟨ad', A3, c3, hA3, y0, y1, y2, hc3, hI3⟩ := zd2 (Kd.za4 hC hb5) hy
           injection hA3 with hA3
           subst hA3
           have hcon := zf6 A3 c3 y.2.2 from_ W5 hI3
           rw [hcd] at hcon
           obtain ⟨gb, hgb⟩ : ∃ b, W5.heap.size = b := ⟨_, rfl⟩
           obtain ⟨W6, hW6⟩ : ∃ X, W5.alloc (.map #[] 0) = X := ⟨_, rfl⟩
           have hb6 : Below w.heap.size w W6 := by { rw [← hW6]; exact hb5.alloc hb5.size _ }
           have hg6 : zbf gb w.heap.size 0 [] W6 := by { rw [← hW6, ← hgb]; exact ⟨MapAt.new _, (fun _ h => nomatch h), by simp, ⟨Nat.le_refl _, fun _ h => nomatch h⟩, hb5.size⟩ }
           have k56 : zaz W5 W6 := by { rw [← hW6]; exact zaz.alloc _ _ }
           have c46 : W6.cell? ⟨w.heap.size, 0, none⟩ = some (.slice (some ad) xs.length c) := k56.cell c45
           have hadd := zft hg6 (some ad) c xs (zf8 (Kd.za4 hC hb5) k56) HF.out hb6.size (by omega))
        | (go_at_call 38; refine hcon.mono ?_; rintro e w' ⟨rfl, rfl⟩)
        | (go_at_call 39
           refine hadd.mono ?_
           rintro e W7 ⟨L1, rfl, hg7, he7, hb7, hk7⟩)
        | go_in)
      rename_i K10 hK10
      have hb7w : Below w.heap.size w W7 := hb6.trans hb7
      have k57 := k56.trans hk7
      obtain ⟨y0, y1, y2⟩ : W7.cell? ⟨w.heap.size, 0, none⟩ = some (.slice (some ad) xs.length c) ∧ W7.cell? (ad.add (from_.toNat * 3)) = some (.int .i64 x.1) ∧ W7.cell? ⟨(ad.add (from_.toNat * 3)).block, (ad.add (from_.toNat * 3)).off + 1, none⟩ = some (.int .i64 x.2.1) := ⟨k57.cell c45, k57.cell n05, k57.cell n15⟩
      have b87 := k57 _ _ _ _ b85
      have HB87 := Lib.hid b87
      obtain ⟨Wd, hWd⟩ : ∃ X, W7.drew = X := ⟨_, rfl⟩
      have hHeld : (fun X => X.cell? ⟨w.heap.size, 0, none⟩ = some (.slice (some ad) xs.length c) ∧ X.cell? (ad.add (from_.toNat * 3)) = some (.int .i64 x.1) ∧ X.cell? ⟨(ad.add (from_.toNat * 3)).block, (ad.add (from_.toNat * 3)).off + 1, none⟩ = some (.int .i64 x.2.1)) W7.drew := ⟨y0, y1, y2⟩
      rw [hWd] at hHeld
      have hgd : zbf gb w.heap.size (0 + cntG xs) L1 Wd := by rw [← hWd]; exact hg7.kept (zbe.drew _)
      have hbd : Below w.heap.size w Wd := by rw [← hWd]; exact zb7 hb7w
      have hsd : w.heap.size ≤ Wd.heap.size := hbd.size
      have kd : zaz W7 Wd := by rw [← hWd]; exact zaz.drew _
      clear hg7 hb7 hk7 y0 y1 y2 hadd hg6 b87
      refine wp_qz (zbt (S := (fun X => X.cell? ⟨w.heap.size, 0, none⟩ = some (.slice (some ad) xs.length c) ∧ X.cell? (ad.add (from_.toNat * 3)) = some (.int .i64 x.1) ∧ X.cell? ⟨(ad.add (from_.toNat * 3)).block, (ad.add (from_.toNat * 3)).off + 1, none⟩ = some (.int .i64 x.2.1))) (ds := [18]) (Ymk 19 0) (by kernel_rfl) rfl rfl (by rw [hWd]; exact hHeld) (fun h0_ => ?_))
      rw [hWd]
      clear h0_
      refine Ypk 0 75 19 1 ?_
      refine Ypk 1 76 19 3 ?_
      refine Ypk 2 77 19 7 ?_
      refine Ypk 3 78 19 15 ?_
      refine Ypk 5 80 19 47 ?_
      refine Ytk 6 81 19 111 hHeld ?_
      refine Ypk 7 82 19 239 ?_
      refine Ypk 8 83 19 495 ?_
      refine Ypk 9 84 19 1007 ?_
      refine Ytk 10 85 19 2031 hHeld ?_
      refine Ypk 11 86 19 4079 ?_
      refine Ytk 12 87 19 8175 hHeld ?_
      refine Ypk 13 88 19 16367 ?_
      refine Ypk 14 89 19 32751 ?_
      refine Ypk 15 90 19 65519 ?_
      refine Ytk 16 91 19 131055 hHeld ?_
      refine Ypk 17 92 19 262127 ?_
      refine Yok 4 79 19 262143 (fun K hK => ?_)
      refine Ygh Try.func40 #[.map (some gb), .agg #[.int .i64 at_, .int .i64 st]] ?_
      refine (zgn hgd (at_, st) hmok hsd (by omega)).mono ?_
      rintro e W9 ⟨L2, b, ls, rfl, hg9, hm9, he9, hgr9⟩
      have hk9 : zaz Wd W9 := zaz.map hgr9 hgd.top.block
      have hh9 : (fun X => X.cell? ⟨w.heap.size, 0, none⟩ = some (.slice (some ad) xs.length c) ∧ X.cell? (ad.add (from_.toNat * 3)) = some (.int .i64 x.1) ∧ X.cell? ⟨(ad.add (from_.toNat * 3)).block, (ad.add (from_.toNat * 3)).off + 1, none⟩ = some (.int .i64 x.2.1)) W9 := ⟨hk9.cell hHeld.1, hk9.cell hHeld.2.1, hk9.cell hHeld.2.2⟩
      obtain ⟨W10, hup, hg10, hb0, L3, ls3, hG10, hm10, he10⟩ := hg9.link hm9 hxok (by omega)
      have hup' : (Instr.mapUpdate 61 (.map (some b)) (.agg #[.int .i64 x.2.1, .int .i64 x.1]) (.bool true)).run Try.prog W9 = .ok () W10 := hup
      have hk10 : zaz W9 W10 := zaz.map hg10 ((hg9.own _ hm9).2.block)
      have hb9 : Below w.heap.size w W9 := hbd.grown hgr9 hbd.size (fun k e => by cases e; exact hgd.gbase)
      have hb10 : Below w.heap.size w W10 := hb9.grown hg10 hb9.size (fun k e => by cases e; exact hb0)
      clear hup
      refine ⟨_, rfl, ?_⟩
      refine hK.out _ _ hh9 (fun h0_ => ?_)
      clear hK K h0_
      refine last_ (i := 18) (N := none) (Ymk 19 524287) rfl rfl (by kernel_rfl) (by decide) (fun K hK => ?_)
      refine zfb (w1 := W10) (by rfl) rfl ?_ ?_
      · go_simp
      refine hK.out _ _ ?_
      clear hK K
      refine zby (by kernel_rfl) ?_
      refine hK10 _ _ ?_
      clear hK10
      have hG3 : toG L3 = zce (zb6 (gadd [] xs) (at_, st)) (at_, st) (mrk x) := by rw [he10, he9, he7]; rfl
      have hgo := push_ok HF.out HBM.out HLE.out HMR.out hlen0.out
      have hst := zf1 hG10 (by rw [hG3]; exact hgo) (fun m hm => by
        rw [hG3] at hm
        obtain ⟨r1, r2, r3, r4⟩ := hgo.rng m hm
        exact ⟨zda r1 (Int.le_trans r2 (by decide)), zda r3 (Int.le_trans r4 (by decide))⟩) (by omega)
      have hps : ofGr (toG L3) = zd4 xs (mrk x) (at_, st) := by rw [hG3]; rfl
      rw [hps] at hst
      obtain ⟨out, hout⟩ : ∃ o, zd4 xs (mrk x) (at_, st) = o := ⟨_, rfl⟩
      rw [hout] at hst
      have b8t : W10.heap[b8]? = some (.cells #[.slice none 0 0] TG (0, 0)) := hk10 _ _ _ _ (hk9 _ _ _ _ (kd _ _ _ _ HB87.out))
      clear hgd hg9 hm9 hg10 hG10 hm10 hHeld hh9 hmm
      go_wp2_with (first
        | (go_at_call 41
           refine hst.mono ?_
           rintro e W11 ⟨v, rfl, R11, hB11⟩
           obtain ⟨Ao, co, rfl⟩ := Kd.zcf R11
           obtain ⟨b13, hb13⟩ : ∃ b, W11.heap.size = b := ⟨_, rfl⟩
           obtain ⟨W12, hW12⟩ : ∃ X, W11.alloc (.cells #[.slice Ao out.length co] TG) = X := ⟨_, rfl⟩)
        | go_in)
      rename_i K12 hK12
      obtain ⟨_, _, he_, hco, hCo_⟩ := Kd.zdh R11
      obtain ⟨rfl, rfl⟩ : Ao = _ ∧ co = _ := by injection he_ with e1 _ e2; exact ⟨e1, e2⟩
      obtain ⟨We, hWe⟩ : ∃ X, W12.drew = X := ⟨_, rfl⟩
      have hB12 : Below W11.heap.size W11 We := by rw [← hWe, ← hW12]; exact zb7 ((Below.refl _ _).alloc (Nat.le_refl _) _)
      have hCo : Kd.C kN W11 Ao out.length out := hCo_
      have b13e : We.heap[b13]? = some (.cells #[.slice Ao out.length co] TG (0, 0)) := by rw [← hWe, ← hW12, ← hb13]; exact zbp _ _
      have b8e : We.heap[b8]? = some (.cells #[.slice none 0 0] TG (0, 0)) := zax (zax b8t hB11) hB12
      have hHeld12 : (fun X => X.cell? ⟨b13, 0, none⟩ = some (.slice Ao out.length co) ∧ X.cell? ⟨b8, 0, none⟩ = some (.slice none 0 0)) We := ⟨zaf b13e 0, zaf b8e 0⟩
      refine wp_qz (zbt (S := (fun X => X.cell? ⟨b13, 0, none⟩ = some (.slice Ao out.length co) ∧ X.cell? ⟨b8, 0, none⟩ = some (.slice none 0 0))) (ds := [5]) (Ymk 8 0) (by kernel_rfl) rfl rfl (by rw [hWe]; exact hHeld12) (fun h0_ => ?_))
      rw [hWe]
      clear h0_
      refine Ytk 0 95 8 1 hHeld12 ?_
      refine Ytk 1 96 8 3 hHeld12 ?_
      refine Ypk 2 97 8 7 ?_
      refine Ypk 3 98 8 15 ?_
      refine Yok 4 99 8 31 (fun K hK => ?_)
      refine Ygh Try.func29 #[.agg #[.slice Ao out.length co], .int .i64 st, .int .i64 at_] ?_
      refine (ze6 st at_ Ao co out We (Kd.za4 hCo hB12)).mono ?_
      rintro e W13 ⟨rfl, hB13⟩
      have hh13 : (fun X => X.cell? ⟨b13, 0, none⟩ = some (.slice Ao out.length co) ∧ X.cell? ⟨b8, 0, none⟩ = some (.slice none 0 0)) W13 := ⟨zai hB13 hHeld12.1, zai hB13 hHeld12.2⟩
      obtain ⟨W14, hW14⟩ : ∃ X, W13.setCell ⟨b8, 0, none⟩ (.slice Ao out.length co) = X := ⟨_, rfl⟩
      have f13 := zbr (zax b8e hB13) 0
      have hfd : Nat → True := fun _ => trivial
      refine ⟨_, rfl, ?_⟩
      refine hK.out _ _ hh13 (fun h0_ => ?_)
      clear hK K h0_
      refine last_ (i := 5) (N := none) (Ymk 8 63) rfl rfl (by kernel_rfl) (by decide) (fun K hK => ?_)
      refine zfb (w1 := W14) (by rfl) rfl ?_ ?_
      · go_simp
      refine hK.out _ _ ?_
      clear hK K
      refine Ypk 6 9 8 127 ?_
      refine Ypk 7 10 8 255 ?_
      refine zby (by kernel_rfl) ?_
      refine hK12 _ _ ?_
      have hBe : Below w.heap.size w We := (hb10.trans (hB11.mono hb10.size)).trans (hB12.mono (Nat.le_trans hb10.size hB11.size))
      have hBf : Below w.heap.size w W14 := by rw [← hW14]; exact (hBe.trans (hB13.mono hBe.size)).setCell (p := ⟨b8, 0, none⟩) hb8w _
      have b814 : W14.heap[b8]? = some (.cells #[.slice Ao out.length co] TG (0, 0)) := by rw [← hW14]; exact zas (zax b8e hB13) 0 _ rfl
      have R14 : Kd.R kN TN W14 W10.heap.size (fun _ => True) (.slice Ao out.length co) out := by rw [← hW14]; exact Kd.R_set (Kd.zdd (Kd.zdd R11 hB12) hB13) (zax b8e hB13) (by decide) _ _
      obtain ⟨_, _, he2, _, hC14⟩ := Kd.zdh R14
      obtain ⟨rfl, rfl⟩ : Ao = _ ∧ co = _ := by injection he2 with e1 _ e2; exact ⟨e1, e2⟩
      have HC := Lib.hid hC14
      have HB := Lib.hid b814
      have HR := Lib.hid (Kd.zde R14 hb10.size)
      clear hK12 hHeld12 hh13 R14 hC14 R11 hCo hCo_ he2 he_ b814;go_wp2
      refine bodyPost_ret (zcc rfl _ _ b8 TG #[.slice Ao out.length co] (0, 0) _ rfl HB.out Try.underlying24 rfl (by kernel_rfl)) rfl ?_
      have hfin : zbq xs from_ st at_ = (out, zcb out st at_, true) := by
        rw [HG.out, hk, Int.toNat_natCast, hyd, if_neg (fun h => HNO.out h.2), if_neg (fun h => by omega), hout]
      exact ⟨_, _, by rw [hfin]; rfl, by rw [hfin]; exact hco, by rw [hfin]; exact HC.out, hBf, .inr (by rw [hfin]; exact HR.out)⟩
  · have hk : zcb xs st at_ = -1 := by rw [zd7, if_neg hm]
    have hfind := ze6 st at_ (some ad) c xs W2 (Kd.za4 hC e2)
    rw [hk] at hfind
    by_cases h4 : 4096 ≤ xs.length
    · have H4 := Lib.hid h4
      have hmm := @run_makeMap Try.prog
      go_enter Try.func13, Try.ntmps13
      go_wp2_with (first
        | (go_at_call 37; first | (with_reducible refine (hns _).mono ?_; rintro e w' ⟨rfl, rfl⟩) | (with_reducible refine (hna _).mono ?_; rintro e w' ⟨rfl, rfl⟩))
        | (go_at_call 29
           refine hfind.mono ?_
           rintro e W5 ⟨rfl, hB5⟩
           have hb5 := e2.trans (hB5.mono e2.size)
           have c45 := zai hB5 c42
           have n05 := zai hB5 n0
           have n15 := zai hB5 n1
           have b85 := zax b82 hB5
           have c85 : W5.cell? ⟨b8, 0, none⟩ = some (.slice none 0 0) := zaf b85 0
           have f85 : W5.frozen? ⟨b8, 0, none⟩ = false := zbr b85 0
           obtain ⟨W9, hW9⟩ : ∃ X, W5.setCell ⟨b8, 0, none⟩ (.slice (some ad) xs.length c) = X := ⟨_, rfl⟩)
        | go_in)
      have B9 : W9.heap[b8]? = some (.cells #[.slice (some ad) xs.length c] TG (0, 0)) := by rw [← hW9]; exact zas b85 0 _ rfl
      have hb9 : Below w.heap.size w W9 := by rw [← hW9]; exact hb5.setCell (p := ⟨b8, 0, none⟩) hb8w _
      have hfin : zbq xs from_ st at_ = (xs, -1, false) := by
        rw [HG.out, hk, if_neg (fun h => by omega), if_pos ⟨by decide, H4.out⟩]
      refine bodyPost_ret (zcc rfl _ _ b8 TG #[.slice (some ad) xs.length c] (0, 0) _ rfl B9 Try.underlying24 rfl (by kernel_rfl)) rfl ?_
      exact ⟨_, _, by rw [hfin]; rfl, by rw [hfin]; exact hcc, by rw [hfin]; exact Kd.za4 hC hb9, hb9, .inl ⟨rfl, rfl, by rw [hfin]⟩⟩
    · have hlen0 : Hid ((at_, st) ∈ marks xs ∨ xs.length < 4096) := Lib.hid (.inr (by omega))
      have hmm := @run_makeMap Try.prog
      go_enter Try.func13, Try.ntmps13
      go_wp2_with (first
        | (go_at_call 37; first | (with_reducible refine (hns _).mono ?_; rintro e w' ⟨rfl, rfl⟩) | (with_reducible refine (hna _).mono ?_; rintro e w' ⟨rfl, rfl⟩))
        | (go_at_call 29
           refine hfind.mono ?_
           rintro e W5 ⟨rfl, hB5⟩
           have hb5 := e2.trans (hB5.mono e2.size)
           have c45 := zai hB5 c42
           have n05 := zai hB5 n0
           have n15 := zai hB5 n1
           have b85 := zax b82 hB5
           have c85 : W5.cell? ⟨b8, 0, none⟩ = some (.slice none 0 0) := zaf b85 0
           have f85 : W5.frozen? ⟨b8, 0, none⟩ = false := zbr b85 0
           obtain ⟨gb, hgb⟩ : ∃ b, W5.heap.size = b := ⟨_, rfl⟩
           obtain ⟨W6, hW6⟩ : ∃ X, W5.alloc (.map #[] 0) = X := ⟨_, rfl⟩
           have hb6 : Below w.heap.size w W6 := by { rw [← hW6]; exact hb5.alloc hb5.size _ }
           have hg6 : zbf gb w.heap.size 0 [] W6 := by { rw [← hW6, ← hgb]; exact ⟨MapAt.new _, (fun _ h => nomatch h), by simp, ⟨Nat.le_refl _, fun _ h => nomatch h⟩, hb5.size⟩ }
           have k56 : zaz W5 W6 := by { rw [← hW6]; exact zaz.alloc _ _ }
           have c46 : W6.cell? ⟨w.heap.size, 0, none⟩ = some (.slice (some ad) xs.length c) := k56.cell c45
           have hadd := zft hg6 (some ad) c xs (zf8 (Kd.za4 hC hb5) k56) HF.out hb6.size (by omega))
        | (go_at_call 39
           refine hadd.mono ?_
           rintro e W7 ⟨L1, rfl, hg7, he7, hb7, hk7⟩)
        | go_in)
      rename_i K10 hK10
      have hb7w : Below w.heap.size w W7 := hb6.trans hb7
      have k57 := k56.trans hk7
      obtain ⟨y0, y1, y2⟩ : W7.cell? ⟨w.heap.size, 0, none⟩ = some (.slice (some ad) xs.length c) ∧ W7.cell? (ad.add (from_.toNat * 3)) = some (.int .i64 x.1) ∧ W7.cell? ⟨(ad.add (from_.toNat * 3)).block, (ad.add (from_.toNat * 3)).off + 1, none⟩ = some (.int .i64 x.2.1) := ⟨k57.cell c45, k57.cell n05, k57.cell n15⟩
      have b87 := k57 _ _ _ _ b85
      have HB87 := Lib.hid b87
      obtain ⟨Wd, hWd⟩ : ∃ X, W7.drew = X := ⟨_, rfl⟩
      have hHeld : (fun X => X.cell? ⟨w.heap.size, 0, none⟩ = some (.slice (some ad) xs.length c) ∧ X.cell? (ad.add (from_.toNat * 3)) = some (.int .i64 x.1) ∧ X.cell? ⟨(ad.add (from_.toNat * 3)).block, (ad.add (from_.toNat * 3)).off + 1, none⟩ = some (.int .i64 x.2.1)) W7.drew := ⟨y0, y1, y2⟩
      rw [hWd] at hHeld
      have hgd : zbf gb w.heap.size (0 + cntG xs) L1 Wd := by rw [← hWd]; exact hg7.kept (zbe.drew _)
      have hbd : Below w.heap.size w Wd := by rw [← hWd]; exact zb7 hb7w
      have hsd : w.heap.size ≤ Wd.heap.size := hbd.size
      have kd : zaz W7 Wd := by rw [← hWd]; exact zaz.drew _
      clear hg7 hb7 hk7 y0 y1 y2 hadd hg6 b87
      refine wp_qz (zbt (S := (fun X => X.cell? ⟨w.heap.size, 0, none⟩ = some (.slice (some ad) xs.length c) ∧ X.cell? (ad.add (from_.toNat * 3)) = some (.int .i64 x.1) ∧ X.cell? ⟨(ad.add (from_.toNat * 3)).block, (ad.add (from_.toNat * 3)).off + 1, none⟩ = some (.int .i64 x.2.1))) (ds := [18]) (Ymk 19 0) (by kernel_rfl) rfl rfl (by rw [hWd]; exact hHeld) (fun h0_ => ?_))
      rw [hWd]
      clear h0_
      refine Ypk 0 75 19 1 ?_
      refine Ypk 1 76 19 3 ?_
      refine Ypk 2 77 19 7 ?_
      refine Ypk 3 78 19 15 ?_
      refine Ypk 5 80 19 47 ?_
      refine Ytk 6 81 19 111 hHeld ?_
      refine Ypk 7 82 19 239 ?_
      refine Ypk 8 83 19 495 ?_
      refine Ypk 9 84 19 1007 ?_
      refine Ytk 10 85 19 2031 hHeld ?_
      refine Ypk 11 86 19 4079 ?_
      refine Ytk 12 87 19 8175 hHeld ?_
      refine Ypk 13 88 19 16367 ?_
      refine Ypk 14 89 19 32751 ?_
      refine Ypk 15 90 19 65519 ?_
      refine Ytk 16 91 19 131055 hHeld ?_
      refine Ypk 17 92 19 262127 ?_
      refine Yok 4 79 19 262143 (fun K hK => ?_)
      refine Ygh Try.func40 #[.map (some gb), .agg #[.int .i64 at_, .int .i64 st]] ?_
      refine (zgn hgd (at_, st) hmok hsd (by omega)).mono ?_
      rintro e W9 ⟨L2, b, ls, rfl, hg9, hm9, he9, hgr9⟩
      have hk9 : zaz Wd W9 := zaz.map hgr9 hgd.top.block
      have hh9 : (fun X => X.cell? ⟨w.heap.size, 0, none⟩ = some (.slice (some ad) xs.length c) ∧ X.cell? (ad.add (from_.toNat * 3)) = some (.int .i64 x.1) ∧ X.cell? ⟨(ad.add (from_.toNat * 3)).block, (ad.add (from_.toNat * 3)).off + 1, none⟩ = some (.int .i64 x.2.1)) W9 := ⟨hk9.cell hHeld.1, hk9.cell hHeld.2.1, hk9.cell hHeld.2.2⟩
      obtain ⟨W10, hup, hg10, hb0, L3, ls3, hG10, hm10, he10⟩ := hg9.link hm9 hxok (by omega)
      have hup' : (Instr.mapUpdate 61 (.map (some b)) (.agg #[.int .i64 x.2.1, .int .i64 x.1]) (.bool true)).run Try.prog W9 = .ok () W10 := hup
      have hk10 : zaz W9 W10 := zaz.map hg10 ((hg9.own _ hm9).2.block)
      have hb9 : Below w.heap.size w W9 := hbd.grown hgr9 hbd.size (fun k e => by cases e; exact hgd.gbase)
      have hb10 : Below w.heap.size w W10 := hb9.grown hg10 hb9.size (fun k e => by cases e; exact hb0)
      clear hup
      refine ⟨_, rfl, ?_⟩
      refine hK.out _ _ hh9 (fun h0_ => ?_)
      clear hK K h0_
      refine last_ (i := 18) (N := none) (Ymk 19 524287) rfl rfl (by kernel_rfl) (by decide) (fun K hK => ?_)
      refine zfb (w1 := W10) (by rfl) rfl ?_ ?_
      · go_simp
      refine hK.out _ _ ?_
      clear hK K
      refine zby (by kernel_rfl) ?_
      refine hK10 _ _ ?_
      clear hK10
      have hG3 : toG L3 = zce (zb6 (gadd [] xs) (at_, st)) (at_, st) (mrk x) := by rw [he10, he9, he7]; rfl
      have hgo := push_ok HF.out HBM.out HLE.out HMR.out hlen0.out
      have hst := zf1 hG10 (by rw [hG3]; exact hgo) (fun m hm => by
        rw [hG3] at hm
        obtain ⟨r1, r2, r3, r4⟩ := hgo.rng m hm
        exact ⟨zda r1 (Int.le_trans r2 (by decide)), zda r3 (Int.le_trans r4 (by decide))⟩) (by omega)
      have hps : ofGr (toG L3) = zd4 xs (mrk x) (at_, st) := by rw [hG3]; rfl
      rw [hps] at hst
      obtain ⟨out, hout⟩ : ∃ o, zd4 xs (mrk x) (at_, st) = o := ⟨_, rfl⟩
      rw [hout] at hst
      have b8t : W10.heap[b8]? = some (.cells #[.slice none 0 0] TG (0, 0)) := hk10 _ _ _ _ (hk9 _ _ _ _ (kd _ _ _ _ HB87.out))
      clear hgd hg9 hm9 hg10 hG10 hm10 hHeld hh9 hmm
      go_wp2_with (first
        | (go_at_call 41
           refine hst.mono ?_
           rintro e W11 ⟨v, rfl, R11, hB11⟩
           obtain ⟨Ao, co, rfl⟩ := Kd.zcf R11
           obtain ⟨b13, hb13⟩ : ∃ b, W11.heap.size = b := ⟨_, rfl⟩
           obtain ⟨W12, hW12⟩ : ∃ X, W11.alloc (.cells #[.slice Ao out.length co] TG) = X := ⟨_, rfl⟩)
        | go_in)
      rename_i K12 hK12
      obtain ⟨_, _, he_, hco, hCo_⟩ := Kd.zdh R11
      obtain ⟨rfl, rfl⟩ : Ao = _ ∧ co = _ := by injection he_ with e1 _ e2; exact ⟨e1, e2⟩
      obtain ⟨We, hWe⟩ : ∃ X, W12.drew = X := ⟨_, rfl⟩
      have hB12 : Below W11.heap.size W11 We := by rw [← hWe, ← hW12]; exact zb7 ((Below.refl _ _).alloc (Nat.le_refl _) _)
      have hCo : Kd.C kN W11 Ao out.length out := hCo_
      have b13e : We.heap[b13]? = some (.cells #[.slice Ao out.length co] TG (0, 0)) := by rw [← hWe, ← hW12, ← hb13]; exact zbp _ _
      have b8e : We.heap[b8]? = some (.cells #[.slice none 0 0] TG (0, 0)) := zax (zax b8t hB11) hB12
      have hHeld12 : (fun X => X.cell? ⟨b13, 0, none⟩ = some (.slice Ao out.length co) ∧ X.cell? ⟨b8, 0, none⟩ = some (.slice none 0 0)) We := ⟨zaf b13e 0, zaf b8e 0⟩
      refine wp_qz (zbt (S := (fun X => X.cell? ⟨b13, 0, none⟩ = some (.slice Ao out.length co) ∧ X.cell? ⟨b8, 0, none⟩ = some (.slice none 0 0))) (ds := [5]) (Ymk 8 0) (by kernel_rfl) rfl rfl (by rw [hWe]; exact hHeld12) (fun h0_ => ?_))
      rw [hWe]
      clear h0_
      refine Ytk 0 95 8 1 hHeld12 ?_
      refine Ytk 1 96 8 3 hHeld12 ?_
      refine Ypk 2 97 8 7 ?_
      refine Ypk 3 98 8 15 ?_
      refine Yok 4 99 8 31 (fun K hK => ?_)
      refine Ygh Try.func29 #[.agg #[.slice Ao out.length co], .int .i64 st, .int .i64 at_] ?_
      refine (ze6 st at_ Ao co out We (Kd.za4 hCo hB12)).mono ?_
      rintro e W13 ⟨rfl, hB13⟩
      have hh13 : (fun X => X.cell? ⟨b13, 0, none⟩ = some (.slice Ao out.length co) ∧ X.cell? ⟨b8, 0, none⟩ = some (.slice none 0 0)) W13 := ⟨zai hB13 hHeld12.1, zai hB13 hHeld12.2⟩
      obtain ⟨W14, hW14⟩ : ∃ X, W13.setCell ⟨b8, 0, none⟩ (.slice Ao out.length co) = X := ⟨_, rfl⟩
      have f13 := zbr (zax b8e hB13) 0
      have hfd : Nat → True := fun _ => trivial
      refine ⟨_, rfl, ?_⟩
      refine hK.out _ _ hh13 (fun h0_ => ?_)
      clear hK K h0_
      refine last_ (i := 5) (N := none) (Ymk 8 63) rfl rfl (by kernel_rfl) (by decide) (fun K hK => ?_)
      refine zfb (w1 := W14) (by rfl) rfl ?_ ?_
      · go_simp
      refine hK.out _ _ ?_
      clear hK K
      refine Ypk 6 9 8 127 ?_
      refine Ypk 7 10 8 255 ?_
      refine zby (by kernel_rfl) ?_
      refine hK12 _ _ ?_
      have hBe : Below w.heap.size w We := (hb10.trans (hB11.mono hb10.size)).trans (hB12.mono (Nat.le_trans hb10.size hB11.size))
      have hBf : Below w.heap.size w W14 := by rw [← hW14]; exact (hBe.trans (hB13.mono hBe.size)).setCell (p := ⟨b8, 0, none⟩) hb8w _
      have b814 : W14.heap[b8]? = some (.cells #[.slice Ao out.length co] TG (0, 0)) := by rw [← hW14]; exact zas (zax b8e hB13) 0 _ rfl
      have R14 : Kd.R kN TN W14 W10.heap.size (fun _ => True) (.slice Ao out.length co) out := by rw [← hW14]; exact Kd.R_set (Kd.zdd (Kd.zdd R11 hB12) hB13) (zax b8e hB13) (by decide) _ _
      obtain ⟨_, _, he2, _, hC14⟩ := Kd.zdh R14
      obtain ⟨rfl, rfl⟩ : Ao = _ ∧ co = _ := by injection he2 with e1 _ e2; exact ⟨e1, e2⟩
      have HC := Lib.hid hC14
      have HB := Lib.hid b814
      have HR := Lib.hid (Kd.zde R14 hb10.size)
      clear hK12 hHeld12 hh13 R14 hC14 R11 hCo hCo_ he2 he_ b814;go_wp2
      refine bodyPost_ret (zcc rfl _ _ b8 TG #[.slice Ao out.length co] (0, 0) _ rfl HB.out Try.underlying24 rfl (by kernel_rfl)) rfl ?_
      have hfin : zbq xs from_ st at_ = (out, zcb out st at_, true) := by
        rw [HG.out, hk, if_neg (fun h => by omega), if_neg (fun h => h4 h.2), hout]
      exact ⟨_, _, by rw [hfin]; rfl, by rw [hfin]; exact hco, by rw [hfin]; exact HC.out, hBf, .inr (by rw [hfin]; exact HR.out)⟩
theorem ze9 (A : Option Addr) (c : Nat) (xs : List Nd) (from_ st at_ : Int) (w : World) (hC : Kd.C kN w A xs.length xs) (hcc : xs.length ≤ c) (hf : FitG xs) (hB : cntG xs ≤ 100000000) :
    Calls Try.prog 13 #[.agg #[.slice A xs.length c], .int .i64 from_, .int .i64 st, .int .i64 at_] w fun e w' =>
      ∃ A' c', e = .returned (.tuple #[.agg #[.slice A' (zbq xs from_ st at_).1.length c'], .int .i64 (zbq xs from_ st at_).2.1, .bool (zbq xs from_ st at_).2.2]) ∧ (zbq xs from_ st at_).1.length ≤ c' ∧ Kd.C kN w' A' (zbq xs from_ st at_).1.length (zbq xs from_ st at_).1 ∧ Below w.heap.size w w' := by
  refine (zhs A c xs from_ st at_ w hC hcc hf hB).mono ?_
  rintro e w' ⟨A', c', he, h1, h2, h3, _⟩
  exact ⟨A', c', he, h1, h2, h3⟩
end Go.Proofs.ZZ.GPush
end
section
namespace Go.Proofs.ZZ.G16
def lnk (g : List (Int × Int × List Int)) (k : Int) : List Int := ((g[k.toNat]?).map (·.2.2)).getD []
def zco (g : List (Int × Int × List Int)) : Nat → List Int → List (List Int)
 | 0, row => [row]
 | n + 1, row => (lnk g (row.getLast?.getD 0)).flatMap fun k => zco g n (row ++ [k])
def Bk (g : List (Int × Int × List Int)) : Nat → Int → Int → Prop
 | 0, a, b => a = b
 | n + 1, a, b => ∃ c, c ∈ lnk g a ∧ Bk g n c b
theorem Bk.snoc {g : List (Int × Int × List Int)} : ∀ {n : Nat} {a b c : Int}, Bk g n a b → c ∈ lnk g b → Bk g (n + 1) a c
 | 0, a, b, c, h, hc => by cases h; exact ⟨c, hc, rfl⟩
 | n + 1, a, b, c, ⟨d, hd, h⟩, hc => ⟨d, hd, Bk.snoc h hc⟩
theorem Bk.unsnoc {g : List (Int × Int × List Int)} : ∀ {n : Nat} {a c : Int}, Bk g (n + 1) a c → ∃ b, Bk g n a b ∧ c ∈ lnk g b
 | 0, a, c, ⟨d, hd, h⟩ => by cases h; exact ⟨a, rfl, hd⟩
 | n + 1, a, c, ⟨d, hd, h⟩ => by
  obtain ⟨b, h1, h2⟩ := Bk.unsnoc h
  exact ⟨b, ⟨d, hd, h1⟩, h2⟩
end Go.Proofs.ZZ.G16
end
section
namespace Go.Proofs.ZZ.GBack
open Go Go.RowKit Go.Shelf Go.Maps Go.Proofs.ZW.PrintWords Go.Proofs.ZW.PrintLast Go.Proofs.ZZ.GMap Go.Proofs.ZZ.GK Go.Proofs.ZZ.G16 Go.Proofs.ZZ.GGr Go.Proofs.ZZ.GAdd Go.Proofs.ZZ.GTop Go.Proofs.ZZ.GStk Go.Proofs.ZZ.GPush
theorem can_calls (A : Option Addr) (c : Nat) (m : Nat) (node n : Int) (w : World) (hm : m ≤ 4096) :
    Calls Try.prog 32 #[.agg #[.slice A m c], .int .i64 node, .int .i64 n] w fun e w' => e = .returned (.bool (decide (0 ≤ node ∧ node < (m : Int) ∧ 0 ≤ n ∧ n ≤ 64))) ∧ Below w.heap.size w w' := by
  obtain ⟨W1, hW1⟩ : ∃ X, w.alloc (.cells #[.slice A m c] TG) = X := ⟨_, rfl⟩
  have e1 : Below w.heap.size w W1 := by rw [← hW1]; exact (Below.refl _ _).alloc (Nat.le_refl _) _
  have b1 : W1.heap[w.heap.size]? = some (.cells #[.slice A m c] TG (0, 0)) := by rw [← hW1]; exact zbp _ _
  have c1 : W1.cell? ⟨w.heap.size, 0, none⟩ = some (.slice A m c) := zaf b1 0
  clear b1
  obtain ⟨b, hb⟩ : ∃ b, decide (0 ≤ node ∧ node < (m : Int) ∧ 0 ≤ n ∧ n ≤ 64) = b := ⟨_, rfl⟩
  rw [hb]
  by_cases h1 : 0 ≤ node
  · by_cases h2 : node < (m : Int)
    · by_cases h3 : 0 ≤ n
      · by_cases h4 : n ≤ 64
        · have e : b = true := by rw [← hb]; exact decide_eq_true ⟨h1, h2, h3, h4⟩
          subst e;clear hb
          go_enter Try.func32, Try.ntmps32
          go_wp2;go_ret
          exact ⟨rfl, e1⟩
        · have e : b = false := by rw [← hb]; exact decide_eq_false (fun h => h4 h.2.2.2)
          subst e;clear hb
          go_enter Try.func32, Try.ntmps32
          go_wp2;go_ret
          exact ⟨rfl, e1⟩
      · have e : b = false := by rw [← hb]; exact decide_eq_false (fun h => h3 h.2.2.1)
        subst e;clear hb
        go_enter Try.func32, Try.ntmps32
        go_wp2;go_ret
        exact ⟨rfl, e1⟩
    · have e : b = false := by rw [← hb]; exact decide_eq_false (fun h => h2 h.2.1)
      subst e;clear hb
      go_enter Try.func32, Try.ntmps32
      go_wp2;go_ret
      exact ⟨rfl, e1⟩
  · have e : b = false := by rw [← hb]; exact decide_eq_false (fun h => h1 h.1)
    subst e;clear hb
    go_enter Try.func32, Try.ntmps32
    go_wp2;go_ret
    exact ⟨rfl, e1⟩
def backS (xs : List Nd) (l : List Int) : List Int := Lib.compact (GSrt.sorted (l.flatMap (lnk xs)))
def zcv (xs : List Nd) (node : Int) : Nat → List Int
  | 0 => [node]
  | k + 1 => backS xs (zcv xs node k)
def backV (xs : List Nd) (node n : Int) : List Int := if 0 ≤ node ∧ node < (xs.length : Int) ∧ 0 ≤ n ∧ n ≤ 64 then zcv xs node n.toNat else []
theorem lnk_at {xs : List Nd} {k : Int} {x : Nd} (h : xs[k.toNat]? = some x) : lnk xs k = x.2.2 := by unfold lnk; rw [h]; rfl
theorem rise_few {l : List Int} (hr : l.Pairwise (· < ·)) {n : Nat} (h : ∀ k ∈ l, 0 ≤ k ∧ k < (n : Int)) : l.length ≤ n := by
  have h1 := zdv (l.map Int.toNat) (List.range n) (List.pairwise_map.2 (hr.imp_of_mem fun {a b} ha hb hab e => by
    have := h a ha
    have := h b hb
    omega)) (fun x hx => by
    obtain ⟨k, hk, rfl⟩ := List.mem_map.1 hx
    have := h k hk
    exact List.mem_range.2 (by omega))
  rw [List.length_map, List.length_range] at h1
  exact h1
theorem zff {xs : List Nd} (hf : FitG xs) (k : Int) : (lnk xs k).length ≤ 4096 ∧ ∀ j ∈ lnk xs k, 0 ≤ j ∧ j < (xs.length : Int) := by
  unfold lnk
  cases h : xs[k.toNat]? with
  | none => exact ⟨Nat.zero_le _, fun _ h => nomatch h⟩
  | some x =>
    have ok := hf.ok x (List.mem_of_getElem? h)
    exact ⟨Nat.le_trans (rise_few ok.up ok.inn) hf.len, ok.inn⟩
theorem zh0 {xs : List Nd} (hf : FitG xs) : ∀ l : List Int, (l.flatMap (lnk xs)).length ≤ l.length * 4096
  | [] => Nat.zero_le _
  | a :: t => by
    have h1 := zh0 hf t
    have h2 := (zff hf a).1
    rw [List.flatMap_cons, List.length_append, List.length_cons]
    omega
theorem zfj {xs : List Nd} (hf : FitG xs) {node : Int} (h0 : 0 ≤ node) (h1 : node < (xs.length : Int)) : ∀ i, (zcv xs node i).Pairwise (· < ·) ∧ ∀ k ∈ zcv xs node i, 0 ≤ k ∧ k < (xs.length : Int)
  | 0 => ⟨List.pairwise_singleton _ _, fun k hk => by
      obtain rfl : k = node := by simpa [zcv] using hk
      exact ⟨h0, h1⟩⟩
  | i + 1 => by
    obtain ⟨r1, r2⟩ := GSrt.zf5 ((zcv xs node i).flatMap (lnk xs))
    refine ⟨r1, fun k hk => ?_⟩
    obtain ⟨j, _, hj⟩ := List.mem_flatMap.1 ((r2 k).1 hk)
    exact (zff hf j).2 k hj
theorem backN_len {xs : List Nd} (hf : FitG xs) {node : Int} (h0 : 0 ≤ node) (h1 : node < (xs.length : Int)) (i : Nat) : (zcv xs node i).length ≤ 4096 := by
  obtain ⟨r1, r2⟩ := zfj hf h0 h1 i
  exact Nat.le_trans (rise_few r1 r2) hf.len
theorem zey {xs : List Nd} {node : Int} : ∀ (i : Nat) (k : Int), k ∈ zcv xs node i ↔ Bk xs i node k
  | 0, k => by simp only [zcv, List.mem_singleton, Bk]; exact eq_comm
  | i + 1, k => by
    obtain ⟨_, r2⟩ := GSrt.zf5 ((zcv xs node i).flatMap (lnk xs))
    have e : k ∈ zcv xs node (i + 1) ↔ ∃ j ∈ zcv xs node i, k ∈ lnk xs j := by
      show k ∈ Lib.compact (GSrt.sorted ((zcv xs node i).flatMap (lnk xs))) ↔ _
      rw [r2, List.mem_flatMap]
    rw [e]
    constructor
    · rintro ⟨j, hj, hk⟩
      exact ((zey i j).1 hj).snoc hk
    · intro h
      obtain ⟨j, hj, hk⟩ := h.unsnoc
      exact ⟨j, (zey i j).2 hj, hk⟩
def flq (xs : List Nd) (l : List Int) (q : Nat) : List Int := (l.take q).flatMap (lnk xs)
theorem flq_snoc {xs : List Nd} {l : List Int} {q : Nat} {k : Int} (h : l[q]? = some k) : flq xs l (q + 1) = flq xs l q ++ lnk xs k := by
  unfold flq
  rw [zc6 h, List.flatMap_append]
  simp
theorem flq_all (xs : List Nd) (l : List Int) : flq xs l l.length = l.flatMap (lnk xs) := by unfold flq; rw [List.take_length]
theorem flq_few {xs : List Nd} (hf : FitG xs) (l : List Int) (q : Nat) : (flq xs l q).length ≤ l.length * 4096 := by
  have := zh0 hf (l.take q)
  have h2 : (l.take q).length ≤ l.length := by rw [List.length_take]; omega
  exact Nat.le_trans this (Nat.mul_le_mul_right _ h2)
theorem back_calls (A : Option Addr) (c : Nat) (xs : List Nd) (node n : Int) (w : World) (hC : Kd.C kN w A xs.length xs) (hf : FitG xs) :
    Calls Try.prog 11 #[.agg #[.slice A xs.length c], .int .i64 node, .int .i64 n] w fun e w' => ∃ v, e = .returned v ∧ Kd.R (Kd.int .i64) TI w' w.heap.size (fun _ => True) v (backV xs node n) ∧ Below w.heap.size w w' := by
  obtain ⟨W1, hW1⟩ : ∃ X, w.alloc (.cells #[.slice A xs.length c] TG) = X := ⟨_, rfl⟩
  have e1 : Below w.heap.size w W1 := by rw [← hW1]; exact (Below.refl _ _).alloc (Nat.le_refl _) _
  have b1 : W1.heap[w.heap.size]? = some (.cells #[.slice A xs.length c] TG (0, 0)) := by rw [← hW1]; exact zbp _ _
  have c1 : W1.cell? ⟨w.heap.size, 0, none⟩ = some (.slice A xs.length c) := zaf b1 0
  have hcan := can_calls A c xs.length node n W1 hf.len
  have hlen := hf.len
  have HF := Lib.hid hf
  have B1 := Lib.hid b1
  clear hf b1
  by_cases hok : 0 ≤ node ∧ node < (xs.length : Int) ∧ 0 ≤ n ∧ n ≤ 64
  · rw [decide_eq_true hok] at hcan
    have hV : Hid (backV xs node n = zcv xs node n.toNat) := Lib.hid (if_pos hok)
    obtain ⟨h1, h2, h3, h4⟩ := hok
    obtain ⟨N, hN⟩ : ∃ N : Nat, n = (N : Int) := ⟨n.toNat, by omega⟩
    subst hN
    go_enter Try.func11, Try.ntmps11
    go_wp2_with (first
      | (go_at_call 32
         refine hcan.mono ?_
         rintro e W2 ⟨rfl, hB2⟩
         obtain ⟨W3, hW3⟩ : ∃ X, W2.alloc (.cells #[.int .i64 node] TI) = X := ⟨_, rfl⟩)
      | go_in)
    have hb2 := e1.trans (hB2.mono e1.size)
    have hb3 : Below w.heap.size w W3 := by rw [← hW3]; exact hb2.alloc hb2.size _
    have b13 : W3.heap[w.heap.size]? = some (.cells #[.slice A xs.length c] TG (0, 0)) := by rw [← hW3]; exact zad (zax B1.out hB2) _
    have R3 : Kd.R (Kd.int .i64) TI W3 w.heap.size (fun _ => True) (.slice (some ⟨W2.heap.size, 0, none⟩) 1 1) (zcv xs node 0) := by
      rw [← hW3]
      exact Kd.zde (GSrt.own_R (l := [node]) (by simpa [GSrt.nums] using World.ownsRow_lit (base := W2.heap.size) (e := TI) (size := 1) W2 #[.int .i64 node] 1 (Nat.le_refl _) (by simp [maxLen]) rfl)) hb2.size
    go_loopw [19, 7] (fun i l wr => ∃ (j : Nat) (A7 : Option Addr) (c7 : Nat), i = .int .i64 (j : Int) ∧ j ≤ N ∧ l = .slice A7 (zcv xs node j).length c7 ∧ Kd.R (Kd.int .i64) TI wr w.heap.size (fun _ => True) (.slice A7 (zcv xs node j).length c7) (zcv xs node j) ∧ Below w.heap.size w wr ∧ Hid (wr.heap[w.heap.size]? = some (.cells #[.slice A xs.length c] TG (0, 0)))) (fun i _ _ => N - (Go.RowKit.intOf i).toNat)
    case atStart => exact ⟨0, _, _, rfl, Nat.zero_le _, rfl, R3, hb3, Lib.hid b13⟩
    case round =>
      clear R3 hb3 b13 hcan
      obtain ⟨j, A7, c7, rfl, hj, rfl, hR, hb, hbx⟩ := hrel
      by_cases hlt : j < N
      · have hlb := backN_len HF.out h1 h2 j
        obtain ⟨r1, r2⟩ := zfj HF.out h1 h2 j
        have HR2 := Lib.hid r2
        have hnext : Hid (zcv xs node (j + 1) = Lib.compact (GSrt.sorted ((zcv xs node j).flatMap (lnk xs)))) := Lib.hid rfl
        obtain ⟨l, hl⟩ : ∃ l, zcv xs node j = l := ⟨_, rfl⟩
        rw [hl] at hR hlb HR2 hnext ⊢
        clear r1 r2
        have hflat := zh0 HF.out l
        obtain ⟨s, hs⟩ : ∃ s, wr.heap.size = s := ⟨_, rfl⟩
        have hRs : Kd.R (Kd.int .i64) TI wr w.heap.size (fun k => k < s) (.slice A7 l.length c7) l := by rw [← hs]; exact Kd.zbw (Kd.zc7 hR) (fun k hk => hk.2.2.1)
        have hws : w.heap.size ≤ s := by rw [← hs]; exact hb.size
        have hwss : w.heap.size < s := by rw [← hs]; exact zbj hbx.out
        have hn0 : Kd.R (Kd.int .i64) TI wr s (fun _ => True) (.slice none 0 0) (flq xs l 0) := by exact Kd.zef _ _ _ _ _
        have hs0 : s ≤ wr.heap.size := by omega
        clear hR hs;go_wp2
        go_loopw [23, 8] (fun i v wr => ∃ (q : Nat) (A8 : Option Addr) (c8 : Nat), i = .int .i64 (q : Int) ∧ q ≤ l.length ∧ v = .slice A8 (flq xs l q).length c8 ∧ Kd.R (Kd.int .i64) TI wr s (fun _ => True) (.slice A8 (flq xs l q).length c8) (flq xs l q) ∧ Hid (Kd.R (Kd.int .i64) TI wr w.heap.size (fun k => k < s) (.slice A7 l.length c7) l) ∧ Below w.heap.size w wr ∧ Hid (wr.heap[w.heap.size]? = some (.cells #[.slice A xs.length c] TG (0, 0))) ∧ s ≤ wr.heap.size) (fun i _ _ => l.length - (Go.RowKit.intOf i).toNat)
        case atStart => exact ⟨0, none, 0, rfl, Nat.zero_le _, rfl, hn0, Lib.hid hRs, hb, hbx, hs0⟩
        case round =>
          clear hn0 hRs hb hbx hs0
          obtain ⟨q, A8, c8, rfl, hq, rfl, hR, hL, hb, hbx, hsw⟩ := hrel
          by_cases hql : q < l.length
          · obtain ⟨k, hk⟩ : ∃ k, l[q]? = some k := ⟨l[q], List.getElem?_eq_getElem hql⟩
            obtain ⟨k0, k1⟩ := HR2.out k (List.mem_of_getElem? hk)
            obtain ⟨_, _, he7, _, hC7⟩ := Kd.zdh hL.out
            obtain ⟨rfl, rfl⟩ : A7 = _ ∧ c7 = _ := by injection he7 with e1 _ e2; exact ⟨e1, e2⟩
            obtain ⟨a7, hA7, f7⟩ := atI hC7 hk
            subst hA7
            have hkl : k.toNat < xs.length := by omega
            obtain ⟨x, hx⟩ : ∃ x, xs[k.toNat]? = some x := ⟨xs[k.toNat], List.getElem?_eq_getElem hkl⟩
            obtain ⟨ad, A2, c2, hA, f0, f1, f2, hc2, hI⟩ := zd2 (Kd.za4 hC hb) hx
            have cx : wr.cell? ⟨w.heap.size, 0, none⟩ = some (.slice A xs.length c) := zaf hbx.out 0
            subst hA
            have hft := flq_few HF.out l q
            have hlk := (zff HF.out k).1
            rw [lnk_at hx] at hlk
            have HSN : Hid (flq xs l (q + 1) = flq xs l q ++ x.2.2) := Lib.hid (by rw [flq_snoc hk, lnk_at hx])
            have HI : zb2 (fun (y : Int) cs => cs = [Value.int .i64 y]) (Kd.int .i64).sz wr A2 x.2.2.length x.2.2 := hI
            obtain ⟨m8, hm8⟩ : ∃ m, flq xs l q = m := ⟨_, rfl⟩
            rw [hm8] at hR HSN hft ⊢
            have hLo := Lib.hid (Kd.zek hL.out)
            clear hI hx hk hm8
            go_wp2_with (first
              | (at_builtin
                 refine Kd.zc8 (Kd.int .i64) (Rr := fun y cs => cs = [Value.int .i64 y]) (w0 := w) (W := wr) w.heap.size rfl (.tmp 27) (.tmp 33) 31 TI (.int .i64 0) 8 rfl Try.underlying31 infoI rfl (by decide) (by decide) (.slice A8 m8.length c8) m8 x.2.2 A2 x.2.2.length c2 (fun _ => True) (fun _ => False) rfl rfl (Kd.zde hR hws) HI (fun y cs h => h) (fun _ h => h.elim) (fun _ _ => trivial) hb hb.size (by omega) ?_
                 intro v1 W5 R5 hB5 hg5 hat5
                 obtain ⟨A9, c9, rfl⟩ := Kd.zcf R5)
              | go_in)
            obtain ⟨_, ho⟩ := Kd.zek hR
            have R5s : Kd.R (Kd.int .i64) TI W5 s (fun _ => True) (.slice A9 (m8 ++ x.2.2).length c9) (m8 ++ x.2.2) := by
              obtain ⟨_, inner, ⟨hil, h5⟩, hr5⟩ := R5
              refine ⟨fun _ _ => trivial, inner, ⟨hil, ?_⟩, hr5.imp_ (fun _ _ h => h)⟩
              rcases h5 with h5 | ⟨g, cap, cur, hv, hg, rest⟩
              · exact .inl h5
              · refine .inr ⟨g, cap, cur, hv, ?_, rest⟩
                injection hv with hv _ _
                rcases hat5 with h | ⟨b, h, hb'⟩
                · rw [hv] at h
                  exact zck ho g h.symm
                · rw [hv] at h
                  injection h with h
                  rw [show g = b from h]
                  omega
            have hL5 : Kd.R (Kd.int .i64) TI W5 w.heap.size (fun k => k < s) (.slice (some a7) l.length c7) l := Kd.R_grown hL.out hg5 (fun k hk e => by have := zck ho k e.symm; omega)
            have hbx5 := zbm hbx.out hg5 (own_ne ho hbx.out (by decide))
            have hs5 : s ≤ W5.heap.size := by have := hg5.size; omega
            rw [← HSN.out] at R5s
            have hsl : (flq xs l (q + 1)).length = m8.length + x.2.2.length := by rw [HSN.out, List.length_append]
            clear hR hL hb hbx hLo HI cx f7 f0 f1 f2 R5
            go_roundw
            case rel => exact ⟨q + 1, A9, c9, by first | rfl | go_num, by omega, by rw [hsl], R5s, Lib.hid hL5, hB5, Lib.hid hbx5, hs5⟩
            case measure => simp [Go.RowKit.intOf]; omega
          · obtain rfl : q = l.length := by omega
            rw [flq_all] at hR ⊢
            obtain ⟨m8, hm8⟩ : ∃ m, l.flatMap (lnk xs) = m := ⟨_, rfl⟩
            rw [hm8] at hR hflat hnext ⊢
            have hst := GSrt.sort_own s (.slice A8 m8.length c8) m8 wr (GSrt.R_ownI hR) (by omega)
            have hsl : (GSrt.sorted m8).length = m8.length := List.length_mergeSort _
            have hcp := fun W h => GSrt.compact_own s (.slice A8 m8.length c8) (GSrt.sorted m8) W h
            obtain ⟨_, ho⟩ := Kd.zek hR
            clear hm8
            go_wp2_with (first
              | (go_at_call 35
                 refine hst.mono ?_
                 rintro e W6 ⟨rfl, ho6, hg6⟩
                 have hcp6 := hcp W6 (by { rw [hsl]; exact ho6 }))
              | (go_at_call 36
                 refine hcp6.mono ?_
                 rintro e W7 ⟨v7, rfl, ho7, hg7, hk7⟩
                 obtain ⟨A9, c9, rfl⟩ : ∃ A c, v7 = .slice A (Lib.compact (GSrt.sorted m8)).length c := own_slice ho7)
              | go_in)
            have R7 := Kd.zde (GSrt.own_R ho7) hws
            have g67 : ∀ k, k < s → k < wr.heap.size → W7.heap[k]? = wr.heap[k]? := fun k hk hlt => by
              rw [hg7.block k (Nat.lt_of_lt_of_le hlt hg6.size) (fun e => by have := zck ho k e.symm; omega)]
              exact hg6.block k hlt (fun e => by have := zck ho k e.symm; omega)
            have hb7 : Below w.heap.size w W7 := (hb.grown hg6 hb.size (fun k e => by have := zck ho k e; omega)).grown hg7 (Nat.le_trans hb.size hg6.size) (fun k e => by have := zck ho k e; omega)
            have hbx7 := (g67 w.heap.size hwss (zbj hbx.out)).trans hbx.out
            rw [← hnext.out] at R7 ⊢
            clear hR hL hb hbx hst hcp ho6 ho7 hg6 hg7 g67 ho;go_wp2
            go_roundw
            case rel => exact ⟨j + 1, A9, c9, by first | rfl | go_num, by omega, rfl, R7, hb7, Lib.hid hbx7⟩
            case measure => simp [Go.RowKit.intOf]; omega
      · obtain rfl : j = N := by omega
        go_wp2;go_ret
        rw [Int.toNat_natCast] at hV
        exact ⟨_, rfl, by rw [hV.out]; exact hR, hb⟩
  · rw [decide_eq_false hok] at hcan
    have hV : Hid (backV xs node n = []) := Lib.hid (if_neg hok)
    clear hok
    go_enter Try.func11, Try.ntmps11
    go_wp2_with (first
      | (go_at_call 32
         refine hcan.mono ?_
         rintro e W2 ⟨rfl, hB2⟩)
      | go_in)
    go_ret
    exact ⟨_, rfl, by rw [hV.out]; exact Kd.zef _ _ _ _ _, e1.trans (hB2.mono e1.size)⟩
end Go.Proofs.ZZ.GBack
end
section
namespace Go.Proofs.ZZ.GCount
open Go Go.RowKit Go.Shelf Go.Maps Go.Proofs.ZW.PrintWords Go.Proofs.ZW.PrintLast Go.Proofs.ZW.PrintMore Go.Proofs.ZZ.GMap Go.Proofs.ZZ.GK Go.Proofs.ZZ.G16 Go.Proofs.ZZ.GGr Go.Proofs.ZZ.GAdd Go.Proofs.ZZ.GTop Go.Proofs.ZZ.GStk Go.Proofs.ZZ.GPush Go.Proofs.ZZ.GBack
attribute [local go_sem] zch zct
abbrev TMm : TypeId := 72
def encC (C : List (Int × Int)) : List (Int × Value) := C.map fun p => (p.1, .int .i64 p.2)
def putC : List (Int × Int) → Int → Int → List (Int × Int)
 | [], x, v => [(x, v)]
 | p :: t, x, v => if p.1 = x then (x, v) :: t else p :: putC t x v
def getC : List (Int × Int) → Int → Int
 | [], _ => 0
 | p :: t, x => if p.1 = x then p.2 else getC t x
def sumC (C : List (Int × Int)) : Int := (C.map (·.2)).sum
theorem enc_put (x v : Int) : ∀ C, putM (encC C) x (.int .i64 v) = encC (putC C x v)
 | [] => rfl
 | p :: t => by
  have ih := enc_put x v t
  unfold encC at ih ⊢
  simp only [List.map_cons, putM, putC]
  split
  ·simp
  ·simp [ih]
theorem enc_look (x : Int) : ∀ C, (GMap.look (encC C) x).getD (.int .i64 0) = .int .i64 (getC C x)
 | [] => rfl
 | p :: t => by
  have ih := enc_look x t
  unfold encC at ih ⊢
  simp only [List.map_cons, GMap.look, getC]
  split
  ·rfl
  ·exact ih
theorem zez (C : List (Int × Int)) : (encC C).map (·.1) = C.map (·.1) := by unfold encC; rw [List.map_map]; rfl
theorem putC_keys (x v y : Int) : ∀ C, y ∈ (putC C x v).map (·.1) ↔ y = x ∨ y ∈ C.map (·.1)
 | [] => by simp [putC]
 | p :: t => by
  have ih := putC_keys x v y t
  simp only [putC]
  split
  ·rename_i e
   simp only [List.map_cons, List.mem_cons, e]
   constructor
   ·rintro (h | h)
    ·exact .inl h
    ·exact .inr (.inr h)
   ·rintro (h | h | h)
    ·exact .inl h
    ·exact .inl h
    ·exact .inr h
  ·simp only [List.map_cons, List.mem_cons, ih]
   constructor
   ·rintro (h | h | h)
    ·exact .inr (.inl h)
    ·exact .inl h
    ·exact .inr (.inr h)
   ·rintro (h | h | h)
    ·exact .inr (.inl h)
    ·exact .inl h
    ·exact .inr (.inr h)
theorem putC_pos {x v : Int} (hv : 1 ≤ v ∧ v ≤ 4001) : ∀ {C : List (Int × Int)}, (∀ p ∈ C, 1 ≤ p.2 ∧ p.2 ≤ 4001) → ∀ p ∈ putC C x v, 1 ≤ p.2 ∧ p.2 ≤ 4001
 | [], _, p, hp => by
  obtain rfl : p = (x, v) := by simpa [putC] using hp
  exact hv
 | q :: t, h, p, hp => by
  simp only [putC] at hp
  split at hp
  ·rcases List.mem_cons.1 hp with rfl | hp
   ·exact hv
   ·exact h p (List.mem_cons_of_mem _ hp)
  ·rcases List.mem_cons.1 hp with rfl | hp
   ·exact h p List.mem_cons_self
   ·exact putC_pos hv (fun p hp => h p (List.mem_cons_of_mem _ hp)) p hp
theorem zh1 (x : Int) : ∀ {C : List (Int × Int)}, (∀ p ∈ C, 1 ≤ p.2 ∧ p.2 ≤ 4001) → 0 ≤ getC C x ∧ getC C x ≤ 4001
 | [], _ => by simp [getC]
 | p :: t, h => by
  have ih := zh1 x (C := t) (fun p hp => h p (List.mem_cons_of_mem _ hp))
  have := h p List.mem_cons_self
  simp only [getC]
  split
  ·omega
  ·exact ih
def ze8 (C : List (Int × Int)) (done : List Int) : Int := sumC (C.filter fun p => decide (p.1 ∈ done))
theorem zgu (C : List (Int × Int)) (hn : (C.map (·.1)).Nodup) (done : List Int) {x v : Int} (hx : (x, v) ∈ C) (hd : x ∉ done) : ze8 C (done ++ [x]) = ze8 C done + v := by
 unfold ze8
 induction C with
 | nil => cases hx
 | cons p t ih =>
  obtain ⟨h1, h2⟩ := List.nodup_cons.1 (show (p.1 :: t.map (·.1)).Nodup from hn)
  rcases List.mem_cons.1 hx with rfl | hx
  ·have e1 : (t.filter fun p => decide (p.1 ∈ done ++ [x])) = t.filter fun p => decide (p.1 ∈ done) := by
    refine List.filter_congr fun q hq => ?_
    have : q.1 ≠ x := fun e => h1 (by rw [← e]; exact List.mem_map.2 ⟨q, hq, rfl⟩)
    simp [this]
   rw [List.filter_cons_of_pos (by simp), List.filter_cons_of_neg (by simpa using hd), e1]
   unfold sumC
   simp only [List.map_cons, List.sum_cons]
   omega
  ·have hpx : p.1 ≠ x := fun e => h1 (by rw [e]; exact List.mem_map.2 ⟨_, hx, rfl⟩)
   have := ih h2 hx
   by_cases hp : p.1 ∈ done
   ·rw [List.filter_cons_of_pos (by simp [hp]), List.filter_cons_of_pos (by simp [hp])]
    unfold sumC at this ⊢
    simp only [List.map_cons, List.sum_cons]
    omega
   ·rw [List.filter_cons_of_neg (by simp [hp, hpx]), List.filter_cons_of_neg (by simpa using hp)]
    exact this
theorem part_all {C : List (Int × Int)} {done : List Int} (h : ∀ x, x ∈ C.map (·.1) → x ∈ done) : ze8 C done = sumC C := by
 unfold ze8
 rw [List.filter_eq_self.2 (fun p hp => decide_eq_true (h p.1 (List.mem_map.2 ⟨p, hp, rfl⟩)))]
theorem part_nil (C : List (Int × Int)) : ze8 C [] = 0 := by
 unfold ze8
 have : C.filter (fun p => decide (p.1 ∈ ([] : List Int))) = [] := List.filter_eq_nil_iff.2 (fun p _ => by simp)
 rw [this]
 rfl
def wR (xs : List Nd) : Nat → Int → Int
 | 0, _ => 1
 | n + 1, a => ((lnk xs a).map (wR xs n)).sum
theorem zfc : ∀ {l : List Int}, (∀ x ∈ l, 0 ≤ x) → 0 ≤ l.sum
 | [], _ => by simp
 | a :: t, h => by
  have h1 := zfc (l := t) (fun x hx => h x (List.mem_cons_of_mem _ hx))
  have h2 := h a List.mem_cons_self
  rw [List.sum_cons]
  omega
theorem zea (xs : List Nd) : ∀ (n : Nat) (a : Int), 0 ≤ wR xs n a
 | 0, _ => by unfold wR; decide
 | n + 1, a => zfc (fun x hx => by
  obtain ⟨k, _, rfl⟩ := List.mem_map.1 hx
  exact zea xs n k)
theorem walkR_len (xs : List Nd) : ∀ (n : Nat) (row : List Int), ((zco xs n row).length : Int) = wR xs n (row.getLast?.getD 0)
 | 0, row => by simp [zco, wR]
 | n + 1, row => by
  simp only [zco, wR]
  generalize lnk xs (row.getLast?.getD 0) = l
  induction l with
  | nil => simp
  | cons k t ih =>
   have h1 := walkR_len xs n (row ++ [k])
   simp only [List.getLast?_append, List.getLast?_singleton, Option.some_or, Option.getD_some] at h1
   simp only [List.flatMap_cons, List.length_append, List.map_cons, List.sum_cons]
   omega
def sumW (w : Int → Int) (C : List (Int × Int)) : Int := (C.map fun p => p.2 * w p.1).sum
theorem zdr (w : Int → Int) (p : Int × Int) (C : List (Int × Int)) : sumW w (p :: C) = p.2 * w p.1 + sumW w C := by unfold sumW; rw [List.map_cons, List.sum_cons]
theorem zhv {w : Int → Int} (hw : ∀ k, 0 ≤ w k) {C : List (Int × Int)} (h : ∀ p ∈ C, 0 ≤ p.2) : 0 ≤ sumW w C := zfc (fun x hx => by
 obtain ⟨p, hp, rfl⟩ := List.mem_map.1 hx
 exact Int.mul_nonneg (h p hp) (hw _))
theorem zfu (w : Int → Int) (x v : Int) : ∀ C, sumW w (putC C x v) = sumW w C - getC C x * w x + v * w x
 | [] => by simp [putC, sumW, getC]
 | p :: t => by
  have ih := zfu w x v t
  simp only [putC, getC]
  split
  ·rename_i e
   rw [zdr, zdr, e]
   show v * w x + sumW w t = _
   omega
  ·rw [zdr, zdr, ih]
   omega
theorem zht {x v : Int} (hv : 0 ≤ v) : ∀ {C : List (Int × Int)}, (∀ p ∈ C, 0 ≤ p.2) → ∀ p ∈ putC C x v, 0 ≤ p.2
 | [], _, p, hp => by
  obtain rfl : p = (x, v) := by simpa [putC] using hp
  exact hv
 | q :: t, h, p, hp => by
  simp only [putC] at hp
  split at hp
  ·rcases List.mem_cons.1 hp with rfl | hp
   ·exact hv
   ·exact h p (List.mem_cons_of_mem _ hp)
  ·rcases List.mem_cons.1 hp with rfl | hp
   ·exact h p List.mem_cons_self
   ·exact zht hv (fun p hp => h p (List.mem_cons_of_mem _ hp)) p hp
theorem put_low {w : Int → Int} (hw : ∀ k, 0 ≤ w k) {C : List (Int × Int)} (hp : ∀ p ∈ C, 0 ≤ p.2) {T R x v : Int} (hT : T ≤ 4001) (hR : 0 ≤ R) (h : T ≤ sumW w C + (R + v * w x)) (v' : Int) (hv' : v' = getC C x + v ∨ v' = 4001) : T ≤ sumW w (putC C x v') + R := by
 have h1 := zfu w x v' C
 have h0 := zfu w x 0 C
 have h2 := zhv hw (zht (x := x) (Int.le_refl 0) hp)
 rw [Int.zero_mul] at h0
 rcases hv' with e | e
 ·rw [e, Int.add_mul] at h1
  rw [e]
  omega
 ·rcases Int.lt_or_le 0 (w x) with h3 | h3
  ·have : (4001 : Int) * 1 ≤ 4001 * w x := Int.mul_le_mul_of_nonneg_left (by omega) (by decide)
   rw [e] at h1 ⊢
   omega
  ·have e0 : w x = 0 := by have := hw x; omega
   rw [e0, Int.mul_zero] at h1 h
   rw [Int.mul_zero] at h1
   omega
def zdc (w : Int → Int) (C : List (Int × Int)) (done : List Int) : Int := sumW w (C.filter fun p => decide (p.1 ∉ done))
theorem zg6 (w : Int → Int) (C : List (Int × Int)) : zdc w C [] = sumW w C := by
 unfold zdc
 rw [List.filter_eq_self.2 (fun p hp => by simp)]
theorem zg5 {w : Int → Int} {C : List (Int × Int)} {done : List Int} (h : ∀ x, x ∈ C.map (·.1) → x ∈ done) : zdc w C done = 0 := by
 unfold zdc
 have : C.filter (fun p => decide (p.1 ∉ done)) = [] := List.filter_eq_nil_iff.2 (fun p hp => by simpa using h p.1 (List.mem_map.2 ⟨p, hp, rfl⟩))
 rw [this]
 rfl
theorem zg7 {w : Int → Int} (hw : ∀ k, 0 ≤ w k) {C : List (Int × Int)} (h : ∀ p ∈ C, 1 ≤ p.2 ∧ p.2 ≤ 4001) (done : List Int) : 0 ≤ zdc w C done := zhv hw (fun p hp => by have := h p (List.mem_filter.1 hp).1; omega)
theorem zin (w : Int → Int) (C : List (Int × Int)) (hn : (C.map (·.1)).Nodup) (done : List Int) {x v : Int} (hx : (x, v) ∈ C) (hd : x ∉ done) : zdc w C done = zdc w C (done ++ [x]) + v * w x := by
 unfold zdc
 induction C with
 | nil => cases hx
 | cons p t ih =>
  obtain ⟨h1, h2⟩ := List.nodup_cons.1 (show (p.1 :: t.map (·.1)).Nodup from hn)
  rcases List.mem_cons.1 hx with rfl | hx
  ·have e1 : (t.filter fun p => decide (p.1 ∉ done ++ [x])) = t.filter fun p => decide (p.1 ∉ done) := by
    refine List.filter_congr fun q hq => ?_
    have : q.1 ≠ x := fun e => h1 (by rw [← e]; exact List.mem_map.2 ⟨q, hq, rfl⟩)
    simp [this]
   rw [List.filter_cons_of_pos (by simpa using hd), List.filter_cons_of_neg (by simp), e1, zdr]
   show v * w x + _ = _
   omega
  ·have hpx : p.1 ≠ x := fun e => h1 (by rw [e]; exact List.mem_map.2 ⟨_, hx, rfl⟩)
   have := ih h2 hx
   by_cases hp : p.1 ∈ done
   ·rw [List.filter_cons_of_neg (by simp [hp]), List.filter_cons_of_neg (by simp [hp])]
    exact this
   ·rw [List.filter_cons_of_pos (by simp [hp]), List.filter_cons_of_pos (by simp [hp, hpx]), zdr, zdr]
    omega
theorem sum_drop {f : Int → Int} {l : List Int} {q : Nat} {k : Int} (h : l[q]? = some k) : ((l.drop q).map f).sum = f k + ((l.drop (q + 1)).map f).sum := by
 obtain ⟨hq, rfl⟩ := List.getElem?_eq_some_iff.1 h
 rw [List.drop_eq_getElem_cons hq, List.map_cons, List.sum_cons]
structure LevAt (xs : List Nd) (node U : Int) (i mb : Nat) (T : Int) (n : Nat) (C : List (Int × Int)) (W : World) : Prop where
 map : MapAt keyI mb (encC C) W
 pos : ∀ p ∈ C, 1 ≤ p.2 ∧ p.2 ≤ 4001
 key : ∀ k, k ∈ C.map (·.1) ↔ Bk xs i node k
 sum : sumW (wR xs n) C ≤ U
 low : T ≤ sumW (wR xs n) C
def Hit (xs : List Nd) (done : List Int) (j : Int) : Prop := ∃ k ∈ done, j ∈ lnk xs k
theorem Bk_in {xs : List Nd} (hf : FitG xs) {node : Int} (h0 : 0 ≤ node) (h1 : node < (xs.length : Int)) {i : Nat} {k : Int} (h : Bk xs i node k) : 0 ≤ k ∧ k < (xs.length : Int) := (zfj hf h0 h1 i).2 k ((zey i k).2 h)
theorem keys_few {C : List (Int × Int)} (hn : (C.map (·.1)).Nodup) {n : Nat} (h : ∀ k ∈ C.map (·.1), 0 ≤ k ∧ k < (n : Int)) : C.length ≤ n := by
 have h1 := zdv ((C.map (·.1)).map Int.toNat) (List.range n) (List.pairwise_map.2 ((show (C.map (·.1)).Pairwise (· ≠ ·) from hn).imp_of_mem fun {a b} ha hb hab e => hab (by
  have := h a ha
  have := h b hb
  omega))) (fun x hx => by
  obtain ⟨k, hk, rfl⟩ := List.mem_map.1 hx
  have := h k hk
  exact List.mem_range.2 (by omega))
 rw [List.length_map, List.length_map, List.length_range] at h1
 exact h1
theorem Bk_snoc_iff {xs : List Nd} {i : Nat} {node j : Int} : Bk xs (i + 1) node j ↔ ∃ k, Bk xs i node k ∧ j ∈ lnk xs k := ⟨Bk.unsnoc, fun ⟨_, h1, h2⟩ => h1.snoc h2⟩
def mn (a : Int) : Int := if 4001 < a then 4001 else a
structure zc5 (xs : List Nd) (U : Int) (nb : Nat) (T : Int) (n : Nat) (R : Int) (P : Int → Prop) (C : List (Int × Int)) (W : World) : Prop where
 map : MapAt keyI nb (encC C) W
 pos : ∀ p ∈ C, 1 ≤ p.2 ∧ p.2 ≤ 4001
 key : ∀ k, k ∈ C.map (·.1) ↔ P k
 sum : sumW (wR xs n) C + R ≤ U
 low : T ≤ sumW (wR xs n) C + R
theorem zc5.keep {xs : List Nd} {U : Int} {nb : Nat} {T : Int} {n : Nat} {R : Int} {P : Int → Prop} {C : List (Int × Int)} {W W' : World} (h : zc5 xs U nb T n R P C W) (hb : W'.heap[nb]? = W.heap[nb]?) : zc5 xs U nb T n R P C W' := ⟨h.map.keep hb, h.pos, h.key, h.sum, h.low⟩
theorem zc5.put {xs : List Nd} {U : Int} {nb : Nat} {T : Int} {n : Nat} {R : Int} {P : Int → Prop} {C : List (Int × Int)} {W : World} {j v : Int} (h : zc5 xs U nb T n (R + v * wR xs n j) P C W) (hT : T ≤ 4001) (hR : 0 ≤ R) (hj : (Lit.int .i64 j).wf = true) (hv : 1 ≤ v ∧ v ≤ 4001) (hl : C.length < 1000000) :
  ∃ W', (Instr.mapUpdate TMm (.map (some nb)) (.int .i64 j) (.int .i64 (mn (getC C j + v)))).run Try.prog W = .ok () W' ∧ W.grownBy W' (some nb) ∧ zc5 xs U nb T n R (fun k => P k ∨ k = j) (putC C j (mn (getC C j + v))) W' := by
 have hg := zh1 j h.pos
 have hm : 1 ≤ mn (getC C j + v) ∧ mn (getC C j + v) ≤ 4001 ∧ mn (getC C j + v) ≤ getC C j + v := by unfold mn; split <;> omega
 obtain ⟨W', h1, h2, h3⟩ := h.map.put (t := TMm) (e := 3) Try.underlying72 (by unfold encC; rw [List.length_map]; unfold maxLen; omega) hj (.int .i64 (mn (getC C j + v)))
 rw [enc_put] at h2
 refine ⟨W', h1, h3, h2, putC_pos ⟨hm.1, hm.2.1⟩ h.pos, fun k => ?_, ?_, put_low (zea xs n) (fun p hp => by have := h.pos p hp; omega) hT hR h.low _ (by unfold mn; split <;> simp)⟩
 ·rw [putC_keys, h.key]
  exact Or.comm
 ·have h1 := zfu (wR xs n) j (mn (getC C j + v)) C
  have h2 := h.sum
  have h3 : mn (getC C j + v) * wR xs n j ≤ (getC C j + v) * wR xs n j := Int.mul_le_mul_of_nonneg_right hm.2.2 (zea xs n j)
  rw [Int.add_mul] at h3
  omega
theorem zc5.same {xs : List Nd} {U : Int} {nb : Nat} {T : Int} {n : Nat} {R R' : Int} {P P' : Int → Prop} {C : List (Int × Int)} {W : World} (h : zc5 xs U nb T n R P C W) (hP : ∀ k, P k ↔ P' k) (hR : R = R') : zc5 xs U nb T n R' P' C W := ⟨h.map, h.pos, fun k => (h.key k).trans (hP k), by rw [← hR]; exact h.sum, by rw [← hR]; exact h.low⟩
theorem sumW_one (xs : List Nd) : ∀ C, sumW (wR xs 0) C = sumC C
 | [] => rfl
 | p :: t => by
  rw [zdr, sumW_one xs t]
  unfold sumC
  rw [List.map_cons, List.sum_cons, show wR xs 0 p.1 = 1 from rfl, Int.mul_one]
theorem look_enc {C : List (Int × Int)} {x : Int} {v : Value} (h : GMap.look (encC C) x = some v) : ∃ cv, v = .int .i64 cv ∧ (x, cv) ∈ C := by
 induction C with
 | nil => cases h
 | cons p t ih =>
  unfold encC at h ih
  simp only [List.map_cons, GMap.look] at h
  split at h
  ·rename_i e
   injection h with h
   subst e
   exact ⟨p.2, h.symm, List.mem_cons_self⟩
  ·obtain ⟨cv, h1, h2⟩ := ih h
   exact ⟨cv, h1, List.mem_cons_of_mem _ h2⟩
theorem count_calls (A : Option Addr) (c : Nat) (xs : List Nd) (node : Int) (N : Nat) (w : World) (hC : Kd.C kN w A xs.length xs) (hf : FitG xs) (h0 : 0 ≤ node) (h1 : node < (xs.length : Int)) (hN : N ≤ 64) :
  Calls Try.prog 33 #[.agg #[.slice A xs.length c], .int .i64 node, .int .i64 (N : Int)] w fun e w' => ∃ r : Int, e = .returned (.int .i64 r) ∧ 0 ≤ r ∧ (r = 0 ↔ ∀ k, ¬ Bk xs N node k) ∧ r ≤ wR xs N node ∧ (r ≤ 4000 → wR xs N node ≤ r) ∧ Below w.heap.size w w' := by
 obtain ⟨T, hTd⟩ : ∃ T, T = mn (wR xs N node) := ⟨_, rfl⟩
 obtain ⟨U, hU⟩ : ∃ U, U = wR xs N node := ⟨_, rfl⟩
 have hT4 : T ≤ 4001 := by rw [hTd]; unfold mn; split <;> omega
 have hTw : T ≤ wR xs N node := by rw [hTd]; unfold mn; split <;> omega
 obtain ⟨W1, hW1⟩ : ∃ X, w.alloc (.cells #[.slice A xs.length c] TG) = X := ⟨_, rfl⟩
 have e1 : Below w.heap.size w W1 := by rw [← hW1]; exact (Below.refl _ _).alloc (Nat.le_refl _) _
 have b1 : W1.heap[w.heap.size]? = some (.cells #[.slice A xs.length c] TG (0, 0)) := by rw [← hW1]; exact zbp _ _
 obtain ⟨mb, hmb⟩ : ∃ b, W1.heap.size = b := ⟨_, rfl⟩
 obtain ⟨W2, hW2⟩ : ∃ X, W1.alloc (.map #[] 0) = X := ⟨_, rfl⟩
 have e2 : Below w.heap.size w W2 := by rw [← hW2]; exact e1.alloc e1.size _
 have b2 : W2.heap[w.heap.size]? = some (.cells #[.slice A xs.length c] TG (0, 0)) := by rw [← hW2]; exact zad b1 _
 have m2 : MapAt keyI mb [] W2 := by rw [← hW2, ← hmb]; exact MapAt.new _
 have hlen := hf.len
 have hnw : (Lit.int .i64 node).wf = true := zda h0 (by omega)
 obtain ⟨W3, hins, m3, g3⟩ := m2.put (t := TMm) (e := 3) Try.underlying72 (by decide) hnw (.int .i64 1)
 have hins' : (Instr.mapUpdate TMm (.map (some mb)) (.int .i64 node) (.int .i64 1)).run Try.prog W2 = .ok () W3 := hins
 have hmw : w.heap.size ≤ mb := by rw [← hmb]; exact e1.size
 have e3 : Below w.heap.size w W3 := e2.grown g3 e2.size (fun k e => by cases e; exact hmw)
 have b3 : W3.heap[w.heap.size]? = some (.cells #[.slice A xs.length c] TG (0, 0)) := cells_map g3 b2 m2.block
 have l3 : LevAt xs node U 0 mb T (N - 0) [(node, 1)] W3 := ⟨m3, (fun p hp => by
  obtain rfl : p = (node, 1) := by simpa using hp
  exact ⟨Int.le_refl _, by show (1 : Int) ≤ 4001; decide⟩), (fun k => by simp [Bk, eq_comm]), by rw [hU]; simp [sumW], by simpa [sumW] using hTw⟩
 have HTD := Lib.hid hTd
 clear hTd hTw
 have hmm := @run_makeMap Try.prog
 have HF := Lib.hid hf
 have HU := Lib.hid hU
 clear hins m3 g3 m2 b2 b1 e2 e1 hf hU
 go_enter Try.func33, Try.ntmps33
 go_wp2
 go_loopw [20, 7] (fun i mv wr => ∃ (j mb : Nat) (C : List (Int × Int)), i = .int .i64 (j : Int) ∧ mv = .map (some mb) ∧ j ≤ N ∧ LevAt xs node U j mb T (N - j) C wr ∧ Hid (wr.heap[w.heap.size]? = some (.cells #[.slice A xs.length c] TG (0, 0))) ∧ Below w.heap.size w wr ∧ w.heap.size ≤ mb) (fun i _ _ => N - (Go.RowKit.intOf i).toNat)
 case atStart => exact ⟨0, mb, _, rfl, rfl, Nat.zero_le _, l3, Lib.hid b3, e3, hmw⟩
 case round =>
  clear l3 b3 e3 hmw hins' hW2 hmb hW1
  obtain ⟨j, mb, C, rfl, rfl, hj, hl, hbx, hb, hmw⟩ := hrel
  by_cases hlt : j < N
  ·obtain ⟨nb, hnb⟩ : ∃ b, wr.heap.size = b := ⟨_, rfl⟩
   obtain ⟨W4, hW4⟩ : ∃ X, wr.alloc (.map #[] 0) = X := ⟨_, rfl⟩
   obtain ⟨nl, hnl⟩ : ∃ n, n = N - (j + 1) := ⟨_, rfl⟩
   have hNj : N - j = nl + 1 := by omega
   rw [hNj] at hl
   have hn4 : zc5 xs U nb T nl (zdc (wR xs (nl + 1)) C []) (Hit xs []) [] W4 := ⟨by rw [← hW4, ← hnb]; exact MapAt.new _, (fun _ h => nomatch h), fun k => by simp [Hit], by rw [zg6]; have := hl.sum; simp only [sumW, List.map_nil, List.sum_nil] at this ⊢; omega, by rw [zg6]; have := hl.low; simp only [sumW, List.map_nil, List.sum_nil] at this ⊢; omega⟩
   have HNL := Lib.hid hnl
   clear hnl hNj
   have hm4 : MapAt keyI mb (encC C) W4 := by rw [← hW4]; exact MapAt.kept hl.map (zbe.alloc _ _)
   have hb4 : Below w.heap.size w W4 := by rw [← hW4]; exact hb.alloc hb.size _
   have hbx4 : W4.heap[w.heap.size]? = some (.cells #[.slice A xs.length c] TG (0, 0)) := by rw [← hW4]; exact zad hbx.out _
   have hmn : mb < nb := by rw [← hnb]; exact hl.map.lt
   have hnw4 : w.heap.size ≤ nb := by rw [← hnb]; exact hb.size
   have HL := Lib.hid hl
   have hcn : (C.map (·.1)).Nodup := by have := hl.map.1; rwa [zez] at this
   clear hl hb hbx
   go_wp2_with (first
    | (at_range; go_loud (refine zgq (K := keyI) _ rfl _ TMm rfl 3 Try.underlying72 rfl hm4 ?_; intro w0 hrg0 hg0 hs0))
    | go_in)
   (try go_frame)
   obtain ⟨r2, hr2⟩ : ∃ r2, W4.heap.size = r2 := ⟨_, rfl⟩
   rw [hr2] at hrg0
   (try rw [hr2])
   have hn0 : zc5 xs U nb T nl (zdc (wR xs (nl + 1)) C []) (Hit xs []) [] w0 := by
    exact hn4.keep (hg0.block nb hn4.map.lt (by simp))
   have hb0 : Below w.heap.size w w0 := hb4.grown hg0 hb4.size (fun k e => by cases e)
   have hbx0 := zbm hbx4 hg0 (by simp)
   have hnr : nb < r2 := by rw [← hr2]; exact hn4.map.lt
   have HNB := Lib.hid hnb
   clear hn4 hm4 hb4 hbx4 hg0 hs0 hW4 hr2 hnb
   go_loopw [25] (fun _ wr => ∃ (done : List Int) (cnt : Nat) (C' : List (Int × Int)), Ranges keyI mb r2 (encC C) done cnt wr ∧ zc5 xs U nb T nl (zdc (wR xs (nl + 1)) C done) (Hit xs done) C' wr ∧ Hid (wr.heap[w.heap.size]? = some (.cells #[.slice A xs.length c] TG (0, 0))) ∧ Below w.heap.size w wr) (fun _ wr => wr.rangeLeft mb r2)
   case atStart => exact ⟨[], _, [], hrg0, hn0, Lib.hid hbx0, hb0⟩
   case round =>
    clear hrg0 hn0 hb0 hbx0
    obtain ⟨done, cnt, C', hrg, hnx, hbx, hb⟩ := hrel
    go_wp2_with (first
     | (at_next; go_loud (refine zhj _ rfl _ rfl rfl hrg ?_ ?_))
     | go_in)
    ·intro hdone
     have hall : ∀ x, x ∈ C.map (·.1) ↔ x ∈ done := fun x => by rw [← hdone.all, zez]
     have hlN : LevAt xs node U (j + 1) nb T (N - (j + 1)) C' wr := by
      rw [← HNL.out]
      refine ⟨hnx.map, hnx.pos, fun k => ?_, ?_, by have h1 := hnx.low; rw [zg5 (fun x hx => (hall x).1 hx)] at h1; omega⟩
      ·rw [hnx.key, Bk_snoc_iff]
       unfold Hit
       constructor
       ·rintro ⟨q, hq, hk⟩
        exact ⟨q, (HL.out.key q).1 ((hall q).2 hq), hk⟩
       ·rintro ⟨q, hq, hk⟩
        exact ⟨q, (hall q).1 ((HL.out.key q).2 hq), hk⟩
      ·have hs := hnx.sum
       rw [zg5 (fun x hx => (hall x).1 hx)] at hs
       omega
     clear hdone hrg hnx hall;go_wp2
     go_roundw
     case rel => exact ⟨j + 1, nb, C', by first | rfl | go_num, rfl, by omega, hlN, hbx, hb, hnw4⟩
     case measure => simp [Go.RowKit.intOf]; omega
    ·rintro ⟨x⟩ xv w1 cnt1 HX
     obtain ⟨cv, rfl, hcm⟩ := look_enc HX.look
     have hcm : (x, cv) ∈ C := hcm
     have hbk : Bk xs j node x := (HL.out.key x).1 (List.mem_map.2 ⟨_, hcm, rfl⟩)
     obtain ⟨x0, x1⟩ := Bk_in HF.out h0 h1 hbk
     obtain ⟨cv1, cv2⟩ : 1 ≤ cv ∧ cv ≤ 4001 := HL.out.pos _ hcm
     have hxl : x.toNat < xs.length := by omega
     obtain ⟨nd, hnd⟩ : ∃ nd, xs[x.toNat]? = some nd := ⟨xs[x.toNat], List.getElem?_eq_getElem hxl⟩
     have hlnk := lnk_at hnd
     have hrg1 : Ranges keyI mb r2 (encC C) (done ++ [x]) cnt1 w1 := HX.rg
     have hlt1 := HX.lt
     have hg1 := HX.gr
     have hnw1 : x ∉ done := HX.new
     have hen' : (Instr.entry (.pointer (some ⟨r2, 0, none⟩))).run Try.prog w1 = .ok (.tuple #[.int .i64 x, .int .i64 cv]) w1 := HX.en
     have hmeas : cnt1 < wr.rangeLeft mb r2 := by rw [hrg.left]; exact hlt1
     have hrs := zin (wR xs (nl + 1)) C hcn done hcm hnw1
     have hr0 := zg7 (zea xs (nl + 1)) HL.out.pos (done ++ [x])
     have hwx : wR xs (nl + 1) x = (nd.2.2.map (wR xs nl)).sum := by rw [← hlnk]; rfl
     rw [hwx] at hrs
     have HR0 := Lib.hid hr0
     have hnx1 : zc5 xs U nb T nl (zdc (wR xs (nl + 1)) C (done ++ [x]) + cv * ((nd.2.2.drop 0).map (wR xs nl)).sum) (fun k => Hit xs done k ∨ k ∈ nd.2.2.take 0) C' w1 := (hnx.keep (hg1.block nb hnx.map.lt (fun e => by injection e with e; omega))).same (fun k => by simp) (by rw [List.drop_zero]; omega)
     have hck := zie hg1 hrg.iter
     have hbx1 := hck _ _ _ _ hbx.out
     have hb1 : Below w.heap.size w w1 := hb.grown hg1 hb.size (fun k e => by cases e; omega)
     obtain ⟨ad, A2, c2, hA, f0, f1, f2, hc2, hI⟩ := zd2 (Kd.za4 hC hb1) hnd
     have cx : w1.cell? ⟨w.heap.size, 0, none⟩ = some (.slice A xs.length c) := zaf hbx1 0
     have hpart := zgu C hcn done hcm hnw1
     have hIr := (HF.out.ok nd (List.mem_of_getElem? hnd)).inn
     have hn4k : nd.2.2.length ≤ 4096 := by have := (zff HF.out x).1; rwa [hlnk] at this
     subst hA
     have HIR := Lib.hid hIr
     have HNK : Hid (lnk xs x = nd.2.2) := Lib.hid hlnk
     clear HX hrg hnx hbx hb hg1 hck hlnk hnd hIr hrs hr0 hwx;go_wp2
     go_loopw [37] (fun i wr => ∃ (q : Nat) (Cq : List (Int × Int)), i = .int .i64 (q : Int) ∧ q ≤ nd.2.2.length ∧ zc5 xs U nb T nl (zdc (wR xs (nl + 1)) C (done ++ [x]) + cv * ((nd.2.2.drop q).map (wR xs nl)).sum) (fun k => Hit xs done k ∨ k ∈ nd.2.2.take q) Cq wr ∧ Ranges keyI mb r2 (encC C) (done ++ [x]) cnt1 wr ∧ Hid (wr.heap[w.heap.size]? = some (.cells #[.slice (some ad) xs.length c] TG (0, 0))) ∧ Below w.heap.size w wr ∧ Hid (Kd.C (Kd.int .i64) wr A2 nd.2.2.length nd.2.2)) (fun i _ => nd.2.2.length - (Go.RowKit.intOf i).toNat)
     case atStart => exact ⟨0, C', rfl, Nat.zero_le _, hnx1, hrg1, Lib.hid hbx1, hb1, Lib.hid hI⟩
     case round =>
      clear hnx1 hrg1 hbx1 hb1 hI cx f0 f1 f2 hen'
      obtain ⟨q, Cq, rfl, hq, hnx, hrg, hbx, hb, hI⟩ := hrel
      by_cases hql : q < nd.2.2.length
      ·obtain ⟨k, hk⟩ : ∃ k, nd.2.2[q]? = some k := ⟨nd.2.2[q], List.getElem?_eq_getElem hql⟩
       obtain ⟨k0, k1⟩ := HIR.out k (List.mem_of_getElem? hk)
       obtain ⟨a2, hA2, g2⟩ := atI hI.out hk
       subst hA2
       have hkw : (Lit.int .i64 k).wf = true := zda k0 (by omega)
       have hcl : Cq.length < 1000000 := by
        have hn : (Cq.map (·.1)).Nodup := by have := hnx.map.1; rwa [zez] at this
        have := keys_few hn (n := xs.length) (fun y hy => by
         rcases (hnx.key y).1 hy with ⟨z, _, hz⟩ | hy
         ·exact (zff HF.out z).2 y hz
         ·exact HIR.out y (List.mem_of_mem_take hy))
        omega
       have hgb := zh1 k hnx.pos
       have hlk := hnx.map.look (t := TMm) (e := 3) Try.underlying72 (z := .int .i64 0) rfl hkw
       rw [enc_look] at hlk
       have hlk' : (Instr.lookup TMm (.map (some nb)) (.int .i64 k) false).run Try.prog wr = .ok (.int .i64 (getC Cq k)) wr := hlk
       have hcvs : 0 ≤ cv * ((nd.2.2.drop (q + 1)).map (wR xs nl)).sum := Int.mul_nonneg (by omega) (zfc (fun y hy => by
        obtain ⟨z, _, rfl⟩ := List.mem_map.1 hy
        exact zea xs nl z))
       have hR1 : 0 ≤ zdc (wR xs (nl + 1)) C (done ++ [x]) + cv * ((nd.2.2.drop (q + 1)).map (wR xs nl)).sum := by have := HR0.out; omega
       have hnxq : zc5 xs U nb T nl (zdc (wR xs (nl + 1)) C (done ++ [x]) + cv * ((nd.2.2.drop (q + 1)).map (wR xs nl)).sum + cv * wR xs nl k) (fun k => Hit xs done k ∨ k ∈ nd.2.2.take q) Cq wr := hnx.same (fun _ => Iff.rfl) (by rw [sum_drop hk, Int.mul_add]; omega)
       obtain ⟨W5, hup, hg5, hn5⟩ := hnxq.put hT4 hR1 hkw ⟨cv1, cv2⟩ hcl
       have hwr : IntKind.i64.wrap (getC Cq k + cv) = getC Cq k + cv := by rw [IntKind.wrap_i64]; omega
       have hup' : (Instr.mapUpdate TMm (.map (some nb)) (.int .i64 k) (.int .i64 (if 4001 < getC Cq k + cv then 4001 else getC Cq k + cv))).run Try.prog wr = .ok () W5 := hup
       have hck5 := zaz.map hg5 hnx.map.block
       have hrg5 : Ranges keyI mb r2 (encC C) (done ++ [x]) cnt1 W5 := hrg.keep (hg5.block mb hrg.blt (fun e => by injection e with e; omega)) (hg5.block r2 hrg.lt (fun e => by injection e with e; omega))
       have hb5 : Below w.heap.size w W5 := hb.grown hg5 hb.size (fun k e => by cases e; exact hnw4)
       have hn5' : zc5 xs U nb T nl (zdc (wR xs (nl + 1)) C (done ++ [x]) + cv * ((nd.2.2.drop (q + 1)).map (wR xs nl)).sum) (fun k => Hit xs done k ∨ k ∈ nd.2.2.take (q + 1)) (putC Cq k (mn (getC Cq k + cv))) W5 := hn5.same (fun y => by
        rw [zc6 hk, List.mem_append, List.mem_singleton]
        exact or_assoc) rfl
       have hbx5 := hck5 _ _ _ _ hbx.out
       have hI5 := zh4 hI.out hck5
       clear hup hg5 hn5 hlk hnxq hR1 hcvs hnx hrg hbx hb hI hck5 hk;go_wp2
       go_roundw
       case rel => exact ⟨q + 1, _, by first | rfl | go_num, by omega, hn5', hrg5, Lib.hid hbx5, hb5, Lib.hid hI5⟩
       case measure => simp [Go.RowKit.intOf]; omega
      ·obtain rfl : q = nd.2.2.length := by omega
       rw [List.take_length] at hnx
       have hnf : zc5 xs U nb T nl (zdc (wR xs (nl + 1)) C (done ++ [x])) (Hit xs (done ++ [x])) Cq wr := hnx.same (fun y => by
        unfold Hit
        constructor
        ·rintro (⟨z, hz, hy⟩ | hy)
         ·exact ⟨z, List.mem_append_left _ hz, hy⟩
         ·exact ⟨x, by simp, by rw [HNK.out]; exact hy⟩
        ·rintro ⟨z, hz, hy⟩
         rcases List.mem_append.1 hz with hz | hz
         ·exact .inl ⟨z, hz, hy⟩
         ·obtain rfl := List.mem_singleton.1 hz
          exact .inr (by rw [← HNK.out]; exact hy)) (by rw [List.drop_length]; simp)
       clear hnx hpart;go_wp2
       go_roundw
       case rel => exact ⟨done ++ [x], cnt1, Cq, hrg, hnf, hbx, hb⟩
       case measure => rw [hrg.left]; exact hmeas
  ·obtain rfl : j = N := by omega
   have hm4 := hl.map
   have HL := Lib.hid hl
   have hcn : (C.map (·.1)).Nodup := by have := hl.map.1; rwa [zez] at this
   clear hl
   go_wp2_with (first
    | (at_range; go_loud (refine zgq (K := keyI) _ rfl _ TMm rfl 3 Try.underlying72 rfl hm4 ?_; intro w0 hrg0 hg0 hs0))
    | go_in)
   (try go_frame)
   obtain ⟨r2, hr2⟩ : ∃ r2, wr.heap.size = r2 := ⟨_, rfl⟩
   rw [hr2] at hrg0
   (try rw [hr2])
   have hb0 : Below w.heap.size w w0 := hb.grown hg0 hb.size (fun k e => by cases e)
   have hwr2 : w.heap.size ≤ r2 := by rw [← hr2]; exact hb.size
   clear hm4 hb hbx hg0 hs0 hr2
   go_loopw [13] (fun sv wr => ∃ (done : List Int) (cnt : Nat) (s : Int), sv = .int .i64 s ∧ Ranges keyI mb r2 (encC C) done cnt wr ∧ 0 ≤ s ∧ s ≤ ze8 C done ∧ s ≤ 4001 ∧ T ≤ s + zdc (wR xs 0) C done ∧ Hid (s = 0 ↔ done = []) ∧ Below w.heap.size w wr) (fun _ wr => wr.rangeLeft mb r2)
   case atStart => exact ⟨[], _, 0, rfl, hrg0, Int.le_refl _, by rw [part_nil]; exact Int.le_refl _, by decide, by rw [zg6]; have := HL.out.low; rw [Nat.sub_self] at this; omega, Lib.hid ⟨fun _ => rfl, fun _ => rfl⟩, hb0⟩
   case round =>
    clear hrg0 hb0
    obtain ⟨done, cnt, s, rfl, hrg, s0, sp, s4, sl, hz, hb⟩ := hrel
    go_wp2_with (first
     | (at_next; go_loud (refine zhj _ rfl _ rfl rfl hrg ?_ ?_))
     | go_in)
    ·intro hdone
     have hall : ∀ x, x ∈ C.map (·.1) ↔ x ∈ done := fun x => by rw [← hdone.all, zez]
     have HLo : Hid (s ≤ 4000 → wR xs j node ≤ s) := Lib.hid (by
      intro h4
      rw [zg5 (fun x hx => (hall x).1 hx), HTD.out] at sl
      unfold mn at sl
      split at sl <;> omega)
     have HZ : Hid ((s = 0 ↔ ∀ k, ¬ Bk xs j node k) ∧ s ≤ wR xs j node) := Lib.hid (by
      refine ⟨hz.out.trans ?_, Int.le_trans sp (by rw [part_all (fun x hx => (hall x).1 hx), ← HU.out, ← sumW_one xs C]; have := HL.out.sum; rwa [Nat.sub_self] at this)⟩
      constructor
      ·rintro rfl k hk
       exact nomatch (hall k).1 ((HL.out.key k).2 hk)
      ·intro h
       refine List.eq_nil_iff_forall_not_mem.2 fun k hk => h k ((HL.out.key k).1 ((hall k).2 hk)))
     clear hdone hrg hall hz sp sl;go_wp2;go_ret
     exact ⟨s, rfl, s0, HZ.out.1, HZ.out.2, HLo.out, hb⟩
    ·rintro ⟨x⟩ xv w1 cnt1 HX
     obtain ⟨cv, rfl, hcm⟩ := look_enc HX.look
     have hcm : (x, cv) ∈ C := hcm
     obtain ⟨cv1, cv2⟩ : 1 ≤ cv ∧ cv ≤ 4001 := HL.out.pos _ hcm
     have hrg1 : Ranges keyI mb r2 (encC C) (done ++ [x]) cnt1 w1 := HX.rg
     have hlt1 := HX.lt
     have hg1 := HX.gr
     have hnw1 : x ∉ done := HX.new
     have hen' : (Instr.entry (.pointer (some ⟨r2, 0, none⟩))).run Try.prog w1 = .ok (.tuple #[.int .i64 x, .int .i64 cv]) w1 := HX.en
     have hmeas : cnt1 < wr.rangeLeft mb r2 := by rw [hrg.left]; exact hlt1
     have hb1 : Below w.heap.size w w1 := hb.grown hg1 hb.size (fun k e => by cases e; omega)
     have hpart := zgu C hcn done hcm hnw1
     have hwr : IntKind.i64.wrap (s + cv) = s + cv := by rw [IntKind.wrap_i64]; omega
     have hm1 : 1 ≤ mn (s + cv) ∧ mn (s + cv) ≤ 4001 ∧ mn (s + cv) ≤ ze8 C (done ++ [x]) := by unfold mn; split <;> omega
     have hrs := zin (wR xs 0) C hcn done hcm hnw1
     have hr0 := zg7 (zea xs 0) HL.out.pos (done ++ [x])
     rw [show wR xs 0 x = 1 from rfl, Int.mul_one] at hrs
     have hm4 : T ≤ mn (s + cv) + zdc (wR xs 0) C (done ++ [x]) := by unfold mn; split <;> omega
     have hz1 : Hid (mn (s + cv) = 0 ↔ done ++ [x] = []) := Lib.hid ⟨fun h => by omega, fun h => by simp at h⟩
     obtain ⟨m1, m2, m3⟩ := hm1
     clear HX hrg hg1 hb hz hpart sp sl hrs hr0;go_wp2
     go_roundw
     case rel => exact ⟨done ++ [x], cnt1, mn (s + cv), rfl, hrg1, by omega, m3, m2, hm4, hz1, hb1⟩
     case measure => rw [hrg1.left]; exact hmeas
end Go.Proofs.ZZ.GCount
end
section
namespace Go.Proofs.ZZ.RangeG
open Go Go.RowKit
structure Turn (L : Nat) (T : Nat → Prop) (W W' : World) : Prop where
 os : W'.os = W.os
 tape : W'.tape = W.tape
 output : W'.output = W.output
 size : W.heap.size ≤ W'.heap.size
 same : ∀ (k : Nat) (o : Obj), W.heap[k]? = some o → ¬ T k → (k < L ∨ o.isCells = true) → W'.heap[k]? = some o
section
variable {L L' : Nat} {T T' : Nat → Prop} {W W' W'' : World}
theorem Turn.refl (L : Nat) (T : Nat → Prop) (W : World) : Turn L T W W := ⟨rfl, rfl, rfl, Nat.le_refl _, fun _ _ h _ _ => h⟩
theorem Turn.trans (h : Turn L T W W') (k : Turn L T W' W'') : Turn L T W W'' :=
 ⟨k.os.trans h.os, k.tape.trans h.tape, k.output.trans h.output, Nat.le_trans h.size k.size, fun i o hi ht hc => k.same i o (h.same i o hi ht hc) ht hc⟩
theorem Turn.mono (h : Turn L T W W') (hL : L' ≤ L) (hT : ∀ k, T k → T' k) : Turn L' T' W W' :=
 ⟨h.os, h.tape, h.output, h.size, fun k o hk ht hc => h.same k o hk (fun e => ht (hT k e)) (hc.imp (fun h' => by omega) (fun h' => h'))⟩
theorem Turn.grown {row : Option Nat} (hg : W.grownBy W' row) (hr : ∀ k, row = some k → T k ∨ (L ≤ k ∧ ∃ o : Obj, W.heap[k]? = some o ∧ o.isCells = false)) : Turn L T W W' :=
 ⟨hg.os, hg.tape, hg.output, hg.size, fun k o hk ht hc => (hg.block k (Array.getElem?_eq_some_iff.1 hk).1 (fun e => by
  rcases hr k e.symm with h1 | ⟨h1, o', h2, h3⟩
  ·exact ht h1
  ·rw [hk] at h2
   cases h2
   rcases hc with hc | hc
   ·omega
   ·rw [h3] at hc; cases hc)).trans hk⟩
theorem Turn.putObj {l : Nat} {o : Obj} (o' : Obj) (hl : W.heap[l]? = some o) (hL : L ≤ l) (ho : o.isCells = false) : Turn L T W (W.putObj l o') :=
 Turn.grown (grownBy_putObj' W l o') (fun k e => by cases e; exact .inr ⟨hL, o, hl, ho⟩)
theorem Turn.alloc (o : Obj) : Turn L T W (W.alloc o) := Turn.grown (World.grownBy_alloc W o none) (fun k e => by cases e)
theorem Turn.below (h : Below W.heap.size W W') : Turn L T W W' := ⟨h.os, h.tape, h.output, h.size, fun k o hk _ _ => (h.block k (Array.getElem?_eq_some_iff.1 hk).1).trans hk⟩
theorem Turn.drew : Turn L T W W.drew := ⟨rfl, rfl, rfl, Nat.le_refl _, fun _ _ h _ _ => h⟩
theorem ze4 {B : Nat} {t : TypeId} {c : Array Value} {fr : Nat × Nat} (h : W.heap[B]? = some (.cells c t fr)) (ht : Turn L T W W') (hB : ¬ T B) : W'.heap[B]? = some (.cells c t fr) := ht.same B _ h hB (.inr rfl)
theorem zh9 {n₀ : Nat} {w : World} (h : Below n₀ w W) (ht : Turn L T W W') (hw : n₀ ≤ w.heap.size) (hL : n₀ ≤ L) (hT : ∀ k, T k → n₀ ≤ k) : Below n₀ w W' :=
 ⟨ht.os.trans h.os, ht.tape.trans h.tape, ht.output.trans h.output, Nat.le_trans h.size ht.size, fun i hi => by
  have h1 := h.block i hi
  have h2 : i < W.heap.size := by have := h.size; omega
  rw [← h1, Array.getElem?_eq_getElem h2]
  exact ht.same i _ (Array.getElem?_eq_getElem h2) (fun e => by have := hT i e; omega) (.inl (by omega))⟩
theorem zh6 {base : Nat} {e : TypeId} {size n : Nat} {v : Value} {xs : List Value} (h : W.ownsRow base e size v n xs) (ht : Turn L T W W') (hT : ∀ k, v.ownBlock = some k → ¬ T k) : W'.ownsRow base e size v n xs := by
 obtain ⟨h1, h2⟩ := h
 refine ⟨h1, ?_⟩
 rcases h2 with h2 | ⟨g, cap, cur, rfl, hg, hh, r⟩
 ·exact .inl h2
 ·exact .inr ⟨g, cap, cur, rfl, hg, ht.same g _ hh (hT g (by simp [Value.ownBlock])) (.inr rfl), r⟩
end
variable {n : Nat} {P : Program}
def KeepL (n₀ : Nat) (L : List Nat) (W W' : World) : Prop := Below n₀ W W' ∧ ∀ b, b ∈ L → b < W.heap.size → W'.heap[b]? = W.heap[b]?
theorem keepL_refl (n₀ : Nat) (L : List Nat) (W : World) : KeepL n₀ L W W := ⟨Below.refl _ _, fun _ _ _ => rfl⟩
theorem keepL_t {n₀ : Nat} {L : List Nat} {A B C : World} (h : KeepL n₀ L A B) (k : KeepL n₀ L B C) : KeepL n₀ L A C := ⟨h.1.trans k.1, fun b hb hlt => by
 rw [← h.2 b hb hlt]
 exact k.2 b hb (by have := h.2 b hb hlt; rw [Array.getElem?_eq_getElem hlt] at this; exact (Array.getElem?_eq_some_iff.1 this).1)⟩
theorem keepL_b {n₀ : Nat} {L : List Nat} {w : World} (hn : n₀ ≤ w.heap.size) (hL : ∀ b, b ∈ L → b < w.heap.size) (W : World) (l : Nat) (o o' : Obj) (hl : w.heap.size ≤ l) (h : W.heap[l]? = some o) (h1 : o.isCells = false) (h2 : o.isWalk = false) : KeepL n₀ L W (W.putObj l o') :=
 ⟨belowK_b hn W l o o' hl h h1 h2, fun b hb _ => World.putObj_heap_other (by have := hL b hb; omega)⟩
end Go.Proofs.ZZ.RangeG
end
section
namespace Go.Proofs.ZZ.GSeq
open Go Go.RowKit Go.Proofs.ZZ.RangeG
structure Bears {β : Type} (L : Nat) (J : β → (Nat → Prop) → World → Prop) : Prop where
  turn : ∀ s U W W', J s U W → Turn L U W W' → J s U W'
  more : ∀ s U V W, J s U W → (∀ k, V k → U k ∨ W.heap.size ≤ k) → J s V W
def zdg (n₀ : Nat) (Ls : List Nat) (U : Nat → Prop) (W W' : World) : Prop := KeepL n₀ Ls W W' ∧ W.heap.size ≤ W'.heap.size ∧ ∀ k, U k → k < W.heap.size → W'.heap[k]? = W.heap[k]?
theorem zdg.t {n₀ : Nat} {Ls : List Nat} {U : Nat → Prop} {A B C : World} (h : zdg n₀ Ls U A B) (k : zdg n₀ Ls U B C) : zdg n₀ Ls U A C :=
  ⟨keepL_t h.1 k.1, Nat.le_trans h.2.1 k.2.1, fun b hb hlt => by rw [← h.2.2 b hb hlt]; exact k.2.2 b hb (Nat.lt_of_lt_of_le hlt h.2.1)⟩
theorem zdg.refl (n₀ : Nat) (Ls : List Nat) (U : Nat → Prop) (W : World) : zdg n₀ Ls U W W := ⟨keepL_refl _ _ _, Nat.le_refl _, fun _ _ _ => rfl⟩
theorem zdg.obj {n₀ : Nat} {Ls : List Nat} {U : Nat → Prop} {w : World} (hn : n₀ ≤ w.heap.size) (hL : ∀ b, b ∈ Ls → b < w.heap.size) (W : World) (l : Nat) (o o' : Obj) (hl : w.heap.size ≤ l) (h : W.heap[l]? = some o) (h1 : o.isCells = false) (h2 : o.isWalk = false) (hU : ¬ U l) : zdg n₀ Ls U W (W.putObj l o') :=
  ⟨keepL_b hn hL W l o o' hl h h1 h2, (grownBy_putObj' W l o').size, fun k hk _ => World.putObj_heap_other (fun e => hU (by rw [← e]; exact hk))⟩
def SeqU {α : Type} (n : Nat) (P : Program) (g : Nat) (lb : Array Value) (encs : α → Array Value) (n₀ : Nat) (Ls : List Nat) (D : α → (Nat → Prop) → World → Prop) (S : List α → Prop) (N : Nat) (w : World) : Prop :=
  ∀ (l : Nat) (J : List α → (Nat → Prop) → World → Prop) (W : World), Turn w.heap.size (fun _ => False) w W → Bears W.heap.size J →
    (∀ pre x U W1, J pre U W1 → D x U W1 → pre.length < N → YieldAt Fence.wide (n - 1) P l (encs x) W1 fun e W' => e = .returned (.bool true) ∧ J (pre ++ [x]) U W' ∧ zdg n₀ Ls U W1 W') →
    J [] (fun _ => False) W →
    CallsIn Fence.wide n P g (#[.func (.yield l) #[] #[]] ++ lb) W fun e W' => (∃ v, e = .returned v) ∧ ∃ xs U, S xs ∧ J xs U W'
def postU {α : Type} (B n₀ : Nat) (Ls : List Nat) (I : List α → (Nat → Prop) → World → Prop) (xs : List α) (U : Nat → Prop) (W : World) : Exit → Act → World → Prop
  | .normal, _, W' => KeepsFrom B W W' ∧ zdg n₀ Ls U W W' ∧ I xs U W'
  | _, _, _ => False
variable {n : Nat} {P : Program}
theorem rangeU {α : Type} {g : Operand} {ps : Array Tmp} {assign body : Code} {Q : Exit → Act → World → Prop} {a : Act} {w : World}
    {gf : Nat} {lb : Array Value} (hg : a.eval g = .func (.func gf) #[] lb) (eg : ∀ args w, (callFunc gf args).run P w = .ok (.enter gf args) w)
    {encs : α → Array Value} {n₀ : Nat} {Ls : List Nat} {D : α → (Nat → Prop) → World → Prop} {S : List α → Prop} {N : Nat} {w0 : World} (hseq : SeqU (n - 1) P gf lb encs n₀ Ls D S N w0)
    (hn₀ : n₀ ≤ w.heap.size) (hLs : ∀ b, b ∈ Ls → b < w.heap.size)
    (hb0 : Turn w0.heap.size (fun _ => False) w0 w) (hps : ∀ x, (encs x).size = ps.size)
    (I : List α → (Nat → Prop) → World → Prop) (hI : Bears w.heap.size I) (h0 : I [] (fun _ => False) w)
    (Ax : α → (Nat → Prop) → Act → World → Prop) (hAx : ∀ x U a' (W W' : World), Ax x U a' W → Turn w.heap.size (fun _ => False) W W' → Ax x U a' W')
    (hassign : ∀ (l : Nat) (pre : List α) (x : α) (U : Nat → Prop) (W : World) (K : Act → World → Prop), I pre U W → D x U W → (∀ a' W', KeepsFrom w.heap.size W W' → zdg n₀ Ls U W W' → I pre U W' → Ax x U a' W' → K a' W') →
      assign.wpIn (Fence.wide.inRound l) (n - 1 - 1) P (Exit.then K (fun _ _ _ => False)) { tmps := (ps.zip (encs x)).foldl (fun t (p, v) => t.setIfInBounds p v) a.tmps, defers := [] } W)
    (hbody : ∀ (l : Nat) (pre : List α) (x : α) (U : Nat → Prop) (a' : Act) (W : World), w.heap.size ≤ l → (∃ r, W.heap[l]? = some (.loop r)) → I pre U W → Ax x U a' W → pre.length < N → body.wpIn (Fence.wide.inRound l) (n - 1 - 1) P (postU w.heap.size n₀ Ls I (pre ++ [x]) U W) a' W)
    (hdone : ∀ (Dd : Nat) (xs : List α) (U : Nat → Prop) (W : World), w.heap.size ≤ Dd → S xs → I xs U W → W.heap[Dd]? = some (.deferred (some [])) → Q .normal { a with defers := { target := .collected Dd, args := #[] } :: a.defers } W) :
    (Code.rangeFunc g ps assign body).wpIn Fence.wide n P Q a w := by
  refine wpIn_rangeFunc ?_
  intro fn hfn
  obtain ⟨rec, hrec⟩ : ∃ rec : LoopState → Option Code → Loop, rec = fun st pe => { state := st, pending := pe, fn, tmps := a.tmps, params := ps, assign, body, defers := w.heap.size } := ⟨_, rfl⟩
  obtain ⟨W1, hW1⟩ : ∃ W1, (w.alloc (.deferred (some []))).alloc (.loop (rec .ready none)) = W1 := ⟨_, rfl⟩
  have sz1 : W1.heap.size = w.heap.size + 2 := by rw [← hW1]; simp
  have rec1 : W1.heap[w.heap.size + 1]? = some (.loop (rec .ready none)) := by
    rw [← hW1]
    have := World.alloc_heap_new (w.alloc (.deferred (some []))) (.loop (rec .ready none))
    rwa [World.size_alloc] at this
  have def1 : W1.heap[w.heap.size]? = some (.deferred (some [])) := by
    rw [← hW1]; exact (Below.heap_alloc _ _ _ (by simp)).trans (World.alloc_heap_new w _)
  have tw : ∀ T', Turn w.heap.size T' w W1 := fun T' => by rw [← hW1]; exact (Turn.alloc _).trans (Turn.alloc _)
  have start : Turn w0.heap.size (fun _ => False) w0 W1 := hb0.trans ((tw _).mono hb0.size (fun _ h => h))
  refine ⟨w.heap.size + 1, [{ target := .collected w.heap.size, args := #[] }], W1, { target := .fn (.func gf) lb, args := #[.func (.yield (w.heap.size + 1)) #[] #[]] }, W1, gf,
    #[.func (.yield (w.heap.size + 1)) #[] #[]] ++ lb, W1, ?_, ?_, fun _ _ => trivial, ?_, (fun h => by cases h), ?_⟩
  · rw [← hW1, hrec]; exact run_enterLoop_outer _ _ _ _ _
  · simp only [resolve, hg]
    simp [go_sem]
  · simp [invoke, go_sem, eg]
  · have loose : ∀ {U : Nat → Prop} {A B : World}, Turn W1.heap.size U A B → Turn w.heap.size U A B := fun h => h.mono (by omega) (fun _ h => h)
    refine (hseq (w.heap.size + 1)
      (fun pre U W => I pre U W ∧ W.heap[w.heap.size + 1]? = some (.loop (rec .ready none)) ∧ W.heap[w.heap.size]? = some (.deferred (some [])) ∧ ¬ U (w.heap.size + 1) ∧ ¬ U w.heap.size)
      W1 start
      ⟨fun s U A B hs ht => ⟨hI.turn s U A B hs.1 (loose ht), ht.same _ _ hs.2.1 hs.2.2.2.1 (.inl (by omega)), ht.same _ _ hs.2.2.1 hs.2.2.2.2 (.inl (by omega)), hs.2.2.2⟩,
       fun s U V A hs hV => ⟨hI.more s U V A hs.1 hV, hs.2.1, hs.2.2.1, fun h => (hV _ h).elim hs.2.2.2.1 (fun h => by have := (Array.getElem?_eq_some_iff.1 hs.2.1).1; omega), fun h => (hV _ h).elim hs.2.2.2.2 (fun h => by have := (Array.getElem?_eq_some_iff.1 hs.2.2.1).1; omega)⟩⟩
      ?_ ⟨hI.turn _ _ _ _ h0 (tw _), rec1, def1, id, id⟩).mono ?_
    · rintro pre x U W ⟨hi, hl, hk, hu1, hu0⟩ hD hlen
      have hy := run_yield (P := P) (args := encs x) hl (by rw [hrec]; exact hps x)
      rw [hrec] at hy
      refine ⟨fn, _, assign, body, hy, roundIn_of_wpIn hfn (hassign _ pre x U W _ hi hD ?_)⟩
      clear hy
      intro a' Wa hfrom hkp hia hax
      have hla := hfrom.same _ _ (by omega) hl rfl
      have hka := hfrom.same _ _ (Nat.le_refl _) hk rfl
      have hlt : w.heap.size + 1 < Wa.heap.size := (Array.getElem?_eq_some_iff.1 hla).1
      obtain ⟨Wb, hWb⟩ : ∃ Wb, Wa.putObj (w.heap.size + 1) (.loop { rec .ready none with state := .busy }) = Wb := ⟨_, rfl⟩
      have tb : ∀ T', Turn w.heap.size T' Wa Wb := fun T' => by rw [← hWb]; exact Turn.putObj _ hla (by omega) rfl
      have lb2 : Wb.heap[w.heap.size + 1]? = some (.loop { rec .ready none with state := .busy }) := by rw [← hWb]; exact World.putObj_heap_same hlt
      have kb2 : Wb.heap[w.heap.size]? = some (.deferred (some [])) := by rw [← hWb]; exact (World.putObj_heap_other (by omega)).trans hka
      have pb : zdg n₀ Ls U Wa Wb := by rw [← hWb]; exact zdg.obj hn₀ hLs _ _ _ _ (by omega) hla rfl rfl hu1
      refine ⟨Wb, by rw [← hWb]; exact run_beginRound hla (by rw [hrec]), ?_⟩
      refine wpIn_mono (hbody _ pre x U a' Wb (by omega) ⟨_, lb2⟩ (hI.turn _ _ _ _ hia (tb U)) (hAx x U a' _ _ hax (tb _)) hlen) ?_
      have leave : ∀ (jump : Option Code) (W3 : World), KeepsFrom w.heap.size Wb W3 → ∃ W4, (Instr.endRound (w.heap.size + 1) jump).run P W3 = .ok (.bool jump.isNone) W4 ∧ Turn w.heap.size U W3 W4 ∧ zdg n₀ Ls U W3 W4 ∧
          W4.heap[w.heap.size + 1]? = some (.loop (rec (if jump.isNone then .ready else .done) jump)) ∧ W4.heap[w.heap.size]? = some (.deferred (some [])) := by
        intro jump W3 h3
        have hl3 := h3.same _ _ (by omega) lb2 rfl
        have he := run_endRound (P := P) jump hl3
        refine ⟨_, he, Turn.putObj _ hl3 (by omega) rfl, zdg.obj hn₀ hLs _ _ _ _ (by omega) hl3 rfl rfl hu1, ?_, (World.putObj_heap_other (by omega)).trans (h3.same _ _ (Nat.le_refl _) kb2 rfl)⟩
        rw [World.putObj_heap_same (Array.getElem?_eq_some_iff.1 hl3).1, hrec]
      rintro e a3 W3 hp
      cases e with
      | normal =>
        obtain ⟨h3, p3, i3⟩ := hp
        obtain ⟨W4, he, t4, p4, l4, k4⟩ := leave none W3 h3
        exact ⟨_, _, he, rfl, ⟨hI.turn _ _ _ _ i3 t4, l4, k4, hu1, hu0⟩, hkp.t (pb.t (p3.t p4))⟩
      | ret => exact hp.elim
      | exit id => exact hp.elim
      | goto t => exact hp.elim
      | panic ch => exact hp.elim
      | outgrown => exact hp.elim
    · rintro e W2 ⟨⟨v, rfl⟩, xs, U, hS, hi, hl, hk, hu1, hu0⟩
      have he := run_endLoop (P := P) hl (by rw [hrec]; simp)
      rw [hrec] at he
      exact ⟨none, _, he, hdone _ xs U _ (Nat.le_refl _) hS (hI.turn _ _ _ _ hi (Turn.putObj _ hl (by omega) rfl)) ((World.putObj_heap_other (by omega)).trans hk)⟩
end Go.Proofs.ZZ.GSeq
end
section
namespace Go.Proofs.ZZ.GRow
open Go Go.RowKit Go.Shelf Go.Maps Go.Proofs.ZW.PrintWords Go.Proofs.ZW.PrintLast Go.Proofs.ZZ.RangeG Go.Proofs.ZZ.GMap Go.Proofs.ZZ.GK Go.Proofs.ZZ.G16 Go.Proofs.ZZ.GGr Go.Proofs.ZZ.GAdd Go.Proofs.ZZ.GTop Go.Proofs.ZZ.GStk Go.Proofs.ZZ.GPush Go.Proofs.ZZ.GBack
abbrev ints (l : List Int) : List Value := GSrt.nums l
theorem ints_len (l : List Int) : (ints l).length = l.length := List.length_map _
theorem ints_app (a b : List Int) : ints (a ++ b) = ints a ++ ints b := List.map_append
def zcu (L : Nat) (W : World) (v : Value) (row : List Int) : Prop := W.ownsRow L TI 1 v row.length (ints row)
theorem zcu.form {L : Nat} {W : World} {v : Value} {row : List Int} (h : zcu L W v row) (hne : row ≠ []) : ∃ g cap, v = .slice (some ⟨g, 0, none⟩) row.length cap ∧ L ≤ g ∧ g < W.heap.size := by
 rcases h.2 with ⟨_, h0⟩ | ⟨g, cap, cur, hv, hb, hg, _⟩
 ·exact absurd (List.eq_nil_of_length_eq_zero h0) hne
 ·exact ⟨g, cap, hv, hb, zbj hg⟩
def zdx (L : Nat) (U : Nat → Prop) (W W' : World) (row : List Int) : Prop := ∀ v0 row0, row0 <+: row → (∀ k, v0.ownBlock = some k → U k) → zcu L W v0 row0 → zcu L W' v0 row0
theorem zdx.trans {L : Nat} {U : Nat → Prop} {A B C : World} {row : List Int} (h : zdx L U A B row) (k : zdx L U B C row) : zdx L U A C row := fun v r hp hu hr => k v r hp hu (h v r hp hu hr)
theorem zcu.keep {L : Nat} {W W' : World} {v : Value} {row : List Int} (h : zcu L W v row) (hk : ∀ k, v.ownBlock = some k → k < W.heap.size → W'.heap[k]? = W.heap[k]?) : zcu L W' v row := by
 refine ⟨h.1, ?_⟩
 rcases h.2 with h2 | ⟨g, cap, cur, hv, hb, hg, r⟩
 ·exact .inl h2
 ·exact .inr ⟨g, cap, cur, hv, hb, (hk g (by rw [hv]; rfl) (zbj hg)).trans hg, r⟩
theorem zgh {L : Nat} {U : Nat → Prop} {W W' : World} {row : List Int} (h : ∀ k, U k → k < W.heap.size → W'.heap[k]? = W.heap[k]?) : zdx L U W W' row := fun v r _ hu hr => hr.keep (fun k hk hlt => h k (hu k hk) hlt)
section
variable {P : Program}
theorem append_keep {L g cap : Nat} {row : List Int} {W : World} (ty : TypeId) (x : Int) (B : Nat) (h : zcu L W (.slice (some ⟨g, 0, none⟩) row.length cap) row) (hB : W.heap[B]? = some (.cells #[.int .i64 x] TI (0, 0))) (hL : L ≤ W.heap.size) (hl : row.length ≤ 1000000) :
  ∃ g' cap' W', (Builtin.append_ #[31, 31] ty #[.slice (some ⟨g, 0, none⟩) row.length cap, .slice (some ⟨B, 0, none⟩) 1 1]).run Try.prog W = .ok (.slice (some ⟨g', 0, none⟩) (row.length + 1) cap') W' ∧
   zcu L W' (.slice (some ⟨g', 0, none⟩) (row.length + 1) cap') (row ++ [x]) ∧ ((g' = g ∧ cap' = cap ∧ W.grownBy W' (some g)) ∨ (g' = W.heap.size ∧ W.grownBy W' none)) ∧ W.heap.size ≤ W'.heap.size := by
 obtain ⟨i0, hi, hzz⟩ := Option.map_eq_some_iff.1 infoI
 simp only [Prod.mk.injEq] at hzz
 obtain ⟨hz0, hz1, hz2⟩ := hzz
 have hnews : ∀ j u, [Value.int .i64 x][j]? = some u → W.cell? ((⟨B, 0, none⟩ : Addr).add j) = some u := fun j u hj => by
  cases j with
  | zero =>
   obtain rfl : Value.int .i64 x = u := by simpa using hj
   exact zaf hB 0
  | succ j => simp at hj
 have h1c : ∀ u ∈ [Value.int .i64 x], u.oneCell' = true := fun u hu => by rw [List.mem_singleton.1 hu]; rfl
 obtain ⟨v', W', hr, h2, h3, _, h5⟩ := run_append_own_at (P := Try.prog) W L 31 ty TI i0 (.int .i64 0) 1 8 Try.underlying31 hi hz0 hz1 hz2 rfl (by decide) (.slice (some ⟨g, 0, none⟩) row.length cap) row.length (ints row) h ⟨B, 0, none⟩ 1 1 [.int .i64 x] rfl hnews h1c (by unfold maxLen; omega) (by omega) hL
 have hrow : ints row ++ [Value.int .i64 x] = ints (row ++ [x]) := by rw [ints_app]; rfl
 rw [hrow] at h2
 have hl1 : (row ++ [x]).length = row.length + 1 := by simp
 rcases h.2 with ⟨hv, _⟩ | ⟨g0, cap0, cur, hv, hb, hg, hnc, hcm, hcs, htake⟩
 ·cases hv
 ·injection hv with e1 _ e2
  injection e1 with e1
  injection e1 with e1
  subst e1;subst e2
  by_cases hroom : row.length + 1 ≤ cap
  ·have hr2 := run_append_room (P := Try.prog) W 31 ty TI i0 Try.underlying31 hi g row.length cap cur hg ⟨B, 0, none⟩ 1 1 [.int .i64 x] (by rw [hz1]; rfl) hnews h1c hroom (by rw [hz1]; simp only [List.length_singleton]; omega)
   rw [hr] at hr2
   injection hr2 with e3 e4
   subst e3
   refine ⟨g, cap, W', hr, by unfold zcu; rw [hl1]; exact h2, .inl ⟨rfl, rfl, h3⟩, h3.size⟩
  ·have hr2 := run_append_grow (P := Try.prog) W 31 ty TI i0 (.int .i64 0) Try.underlying31 hi hz0 ⟨g, 0, none⟩ row.length cap (ints row) (by rw [hz1]; exact h.1) (h.cells (g := g) rfl) ⟨B, 0, none⟩ 1 1 [.int .i64 x] (by rw [hz1]; rfl) hnews (by omega) (by omega) (growslice_fits (by omega) (by rw [hz2]; omega))
   rw [hr] at hr2
   injection hr2 with e3 e4
   subst e3
   refine ⟨W.heap.size, _, W', hr, by unfold zcu; rw [hl1]; exact h2, .inr ⟨rfl, ?_⟩, h3.size⟩
   rw [e4]
   exact ⟨rfl, rfl, rfl, by simp, fun k hk _ => Below.heap_alloc W.drew _ k hk⟩
end
theorem frame_append {L g cap g' cap' : Nat} {U : Nat → Prop} {row : List Int} {x : Int} {W W' : World} (hr : zcu L W (.slice (some ⟨g, 0, none⟩) row.length cap) row) (hr' : zcu L W' (.slice (some ⟨g', 0, none⟩) (row.length + 1) cap') (row ++ [x]))
  (h : (g' = g ∧ cap' = cap ∧ W.grownBy W' (some g)) ∨ (g' = W.heap.size ∧ W.grownBy W' none)) : zdx L U W W' row := by
 intro v0 row0 hp hu h0
 rcases h with ⟨rfl, rfl, hg⟩ | ⟨_, hg⟩
 ·rcases h0.2 with h2 | ⟨g0, cap0, cur0, hv, hb, hg0, hnc, hcm, hcs, htake⟩
  ·exact ⟨h0.1, .inl h2⟩
  ·by_cases e : g0 = g'
   ·subst e
    rcases hr.2 with ⟨hv1, _⟩ | ⟨g1, cap1, cur1, hv1, _, hg1, _, _, hcs1, _⟩
    ·cases hv1
    ·injection hv1 with e1 _ e2
     injection e1 with e1
     injection e1 with e1
     subst e1;subst e2
     rw [hg0] at hg1
     injection hg1 with hg1
     injection hg1 with hg1
     subst hg1
     rcases hr'.2 with ⟨hv2, _⟩ | ⟨g2, cap2, cur2, hv2, hb2, hg2, hnc2, hcm2, hcs2, htake2⟩
     ·cases hv2
     ·injection hv2 with e3 _ e4
      injection e3 with e3
      injection e3 with e3
      subst e3;subst e4
      have hcap : cap0 = cap' := by omega
      refine ⟨h0.1, .inr ⟨g0, cap0, cur2, hv, hb, hg2, hnc, hcm, by omega, ?_⟩⟩
      obtain ⟨t, ht⟩ := hp
      have hle : row0.length ≤ row.length := by rw [← ht, List.length_append]; omega
      have h5 := congrArg (List.take row0.length) htake2
      rw [List.take_take, Nat.min_eq_left (by simp; omega)] at h5
      rw [Nat.mul_one, h5]
      have : ints (row ++ [x]) = ints row0 ++ ints (t ++ [x]) := by rw [← ht, List.append_assoc, ints_app]
      rw [this, List.take_left' (ints_len row0)]
   ·exact h0.keep (fun k hk hlt => hg.block k hlt (fun e2 => by
     rw [hv] at hk
     simp only [Value.ownBlock, Option.some.injEq] at hk
     injection e2 with e2
     omega))
 ·exact h0.keep (fun k hk hlt => hg.block k hlt (by simp))
theorem clone_calls (g cap : Nat) (l : List Int) (w : World) (hC : Kd.C (Kd.int .i64) w (some ⟨g, 0, none⟩) l.length l) (hn : l.length ≤ 1000000) :
  Calls Try.prog 54 #[.slice (some ⟨g, 0, none⟩) l.length cap] w fun e w' => ∃ v, e = .returned v ∧ Kd.R (Kd.int .i64) TI w' w.heap.size (fun _ => True) v l ∧ Below w.heap.size w w' := by
 obtain ⟨W1, hW1⟩ : ∃ W1, w.alloc (.cells #[] 3) = W1 := ⟨_, rfl⟩
 have hB1 : Below w.heap.size w W1 := by rw [← hW1]; exact (Below.refl _ _).alloc (Nat.le_refl _) _
 have ho : W1.ownsRow w.heap.size TI 1 (.slice (some ⟨w.heap.size, 0, none⟩) 0 0) ([] : List Int).length (ints []) := by
  refine ⟨rfl, .inr ⟨w.heap.size, 0, #[], rfl, Nat.le_refl _, ?_, Nat.le_refl _, by decide, rfl, rfl⟩⟩
  rw [← hW1]
  exact zbp w _
 have hR := GSrt.own_R ho
 have hC1 : zb2 (fun (y : Int) cs => cs = [Value.int .i64 y]) (Kd.int .i64).sz W1 (some ⟨g, 0, none⟩) l.length l := Kd.za4 hC hB1
 clear ho hC
 have he : ∀ W : World, (binOp .eql 31 (.slice (some ⟨g, 0, none⟩) l.length cap) (.slice none 0 0)).run Try.prog W = .ok (.bool false) W := fun _ => rfl
 go_enter Try.func54, Try.ntmps54
 go_wp2_with (at_builtin; (refine Kd.zc8 (Kd.int .i64) (Rr := fun y cs => cs = [Value.int .i64 y]) (w0 := w) w.heap.size rfl (.tmp 5) (.tmp 6) 31 TI (.int .i64 0) 8 rfl Try.underlying31 infoI rfl (by decide) (by decide) _ [] l (some ⟨g, 0, none⟩) l.length cap (fun _ => True) (fun _ => False) rfl rfl hR hC1 (fun x cs h => h) (fun _ h => h.elim) (fun _ _ => trivial) hB1 (by have := hB1.size; omega) (by simp; omega) ?_); intro v6 W6 R6 hb6 hg6 _)
 refine bodyPost_ret (results_tmp rfl _ _ _) rfl ?_
 exact ⟨_, rfl, R6, hb6⟩
section
variable {F : Fence} {n : Nat} {P : Program} {md : Region.Mode} {ops : Array Oper} {Q : Exit → Act → World → Prop}
theorem joinIn {σ : Type} {fuel : Nat} {l : Array Bool} {a : Act} {w : World} (fuel' : Nat) (l' : Array Bool) (ns : σ → List (Tmp × Value)) (G : σ → World → Prop)
  (hcont : ∀ s w', G s w' → wpAnyIn F n P md ops Q fuel' l' (zd0 a (ns s)) w')
  (h : (∀ s w', G s w' → wpAnyIn F n P md ops Q fuel' l' (zd0 a (ns s)) w') → wpAnyIn F n P md ops Q fuel l a w) : wpAnyIn F n P md ops Q fuel l a w := h hcont
theorem zen {fuel : Nat} {l : Array Bool} {a a' : Act} {w : World} (ha : a = a') (h : wpAnyIn F n P md ops Q fuel l a' w) : wpAnyIn F n P md ops Q fuel l a w := by
 subst ha
 exact h
theorem zfn {fuel : Nat} {l l' : Array Bool} {a : Act} {w : World} (hl : l = l') (h : wpAnyIn F n P md ops Q fuel l' a w) : wpAnyIn F n P md ops Q fuel l a w := by
 subst hl
 exact h
theorem takeIn {i : Nat} {N : Option Tmp} {oi : Oper} {v : Value} {fuel : Nat} {l : Array Bool} {a : Act} {w : World} (l' : Array Bool) (hro : F.round = none) (hi : ops[i]? = some oi) (hN : oi.dst = N)
  (hs : Region.noSelect ops = true) (hf : Region.free md ops l i = true) (hr : (Region.ready md ops l).contains i = true)
  (hQ : ∀ c a w, Q (.panic c) (a.put oi.dst v) w → Q (.panic c) a w) (hy : YieldsFenced P ops oi v a) (hl : l.setIfInBounds i true = l') {a' : Act} (ha : a.put N v = a')
  (h : wpAnyIn F n P md ops Q fuel l' a' w) : wpAnyIn F n P md ops Q (fuel + 1) l a w := by
 subst hN;subst hl;subst ha
 exact wpAnyIn_take hro hi hs hf hr hQ hy h
theorem zd3 {oi : Oper} {N : Option Tmp} {a : Act} {w w1 : World} {v : Value} {K : Act → World → Prop} (hw : Region.wanted oi (yielded ops a.tmps) = true) (hN : oi.dst = N) (hrun : (execOp a.eval oi).run P w = .ok (.value v) w1) (h : K (a.put N v) w1) :
  if Region.wanted oi (yielded ops a.tmps) = true then Oper.wpIn Fence.wide n P oi a w K Q else (∀ f, oi.about P w a.eval = some f → Fence.wide.fn f) ∧ K (a.put oi.dst undef) w := by
 subst hN
 rw [if_pos hw]
 refine ⟨fun _ _ => trivial, ?_⟩
 have hs : (oi.semAt Fence.wide.round a.eval) = execOp a.eval oi := by rw [show Fence.wide.round = none from rfl, Oper.semAt_none]
 rw [hs, hrun]
 exact h
theorem enterIn {oi : Oper} {N : Option Tmp} {a : Act} {w w1 : World} {f : FuncId} {args : Array Value} {K : Act → World → Prop} (hw : Region.wanted oi (yielded ops a.tmps) = true) (hN : oi.dst = N) (hrun : (execOp a.eval oi).run P w = .ok (.enter f args) w1)
  (h : CallsIn Fence.wide (n - 1) P f args w1 fun e w' => ∃ v, e = .returned v ∧ K (a.put N v) w') :
  if Region.wanted oi (yielded ops a.tmps) = true then Oper.wpIn Fence.wide n P oi a w K Q else (∀ f, oi.about P w a.eval = some f → Fence.wide.fn f) ∧ K (a.put oi.dst undef) w := by
 subst hN
 rw [if_pos hw]
 refine ⟨fun _ _ => trivial, ?_⟩
 have hs : (oi.semAt Fence.wide.round a.eval) = execOp a.eval oi := by rw [show Fence.wide.round = none from rfl, Oper.semAt_none]
 rw [hs, hrun]
 refine ⟨(fun h => by cases h), CallsIn.mono h ?_⟩
 rintro e w' ⟨v, rfl, hk⟩
 exact hk
theorem goesIn {oi : Oper} {N : Option Tmp} {a : Act} {w : World} {K : Act → World → Prop} {f : FuncId} {fn : Func} {ag : Array Operand} {ts : Array TypeId} (hf : P.funcs[f]? = some fn) (hname : (fn.name == "runtime.NumGoroutine") = false) (hb : fn.body.isSome = true) (args : Array Value)
  (hw : Region.wanted oi (yielded ops a.tmps) = true) (hN : oi.dst = N) (hop : oi.op = .call { callee := .value (.func f), args := ag, argTypes := ts }) (hargs : ag.map a.eval = args)
  (h : CallsIn Fence.wide (n - 1) P f args w fun e w' => ∃ v, e = .returned v ∧ K (a.put N v) w') :
  if Region.wanted oi (yielded ops a.tmps) = true then Oper.wpIn Fence.wide n P oi a w K Q else (∀ f, oi.about P w a.eval = some f → Fence.wide.fn f) ∧ K (a.put oi.dst undef) w := by
 refine enterIn hw hN ?_ h
 have he := enters_ hf hname hb args w
 unfold execOp
 simp [hop, resolve, Deferred.ofValue, invoke, Act.eval, hargs, he]
theorem roundIn {oi : Oper} {N : Option Tmp} {a : Act} {w w1 : World} {l : Nat} {f : FuncId} {tmps : Array Value} {assign body : Code} {K : Act → World → Prop} (hw : Region.wanted oi (yielded ops a.tmps) = true) (hN : oi.dst = N) (hrun : (execOp a.eval oi).run P w = .ok (.round l f tmps assign body) w1)
  (h : RoundIn Fence.wide (n - 1) P l f tmps assign body w1 fun e w' => ∃ v, e = .returned v ∧ K (a.put N v) w') :
  if Region.wanted oi (yielded ops a.tmps) = true then Oper.wpIn Fence.wide n P oi a w K Q else (∀ f, oi.about P w a.eval = some f → Fence.wide.fn f) ∧ K (a.put oi.dst undef) w := by
 subst hN
 rw [if_pos hw]
 refine ⟨fun _ _ => trivial, ?_⟩
 have hs : (oi.semAt Fence.wide.round a.eval) = execOp a.eval oi := by rw [show Fence.wide.round = none from rfl, Oper.semAt_none]
 rw [hs, hrun]
 refine ⟨(fun h => by cases h), RoundIn.mono h ?_⟩
 rintro e w' ⟨v, rfl, hk⟩
 exact hk
end
theorem RoundIn.anyDepth {F : Fence} (hd : F.depth = none) {m m' : Nat} {P : Program} {l : Nat} {f : FuncId} {tmps : Array Value} {assign body : Code} {w : World} {R : Ending → World → Prop}
  (h : RoundIn F m P l f tmps assign body w R) : RoundIn F m' P l f tmps assign body w R := ⟨h.1, fun c cs _ => h.2 c cs (fun d h => by rw [hd] at h; cases h)⟩
end Go.Proofs.ZZ.GRow
end
section
namespace Go.Proofs.ZZ.GWalk
open Go Go.RowKit Go.Shelf Go.Maps Go.Proofs.ZW.PrintWords Go.Proofs.ZW.PrintLast Go.Proofs.ZZ.RangeG Go.Proofs.ZZ.GMap Go.Proofs.ZZ.GK Go.Proofs.ZZ.G16 Go.Proofs.ZZ.GGr Go.Proofs.ZZ.GAdd Go.Proofs.ZZ.GTop Go.Proofs.ZZ.GStk Go.Proofs.ZZ.GPush Go.Proofs.ZZ.GBack Go.Proofs.ZZ.GSeq Go.Proofs.ZZ.GRow
attribute [local go_sem] Oper.semAt_some
abbrev TFn : TypeId := 73
structure BXs (bn yb bg bw l N : Nat) (A : Option Addr) (m c : Nat) (W : World) : Prop where
 n : W.heap[bn]? = some (.cells #[.int .i64 (N : Int)] TI (0, 0))
 y : W.heap[yb]? = some (.cells #[.func (.yield l) #[] #[]] TFn (0, 0))
 g : W.heap[bg]? = some (.cells #[.slice A m c] TG (0, 0))
 k : W.heap[bw]? = some (.cells #[.func (.func 53) #[] #[.pointer (some ⟨bn, 0, none⟩), .pointer (some ⟨yb, 0, none⟩), .pointer (some ⟨bg, 0, none⟩), .pointer (some ⟨bw, 0, none⟩)]] TFn (0, 0))
theorem BXs.keep {bn yb bg bw l N : Nat} {A : Option Addr} {m c : Nat} {W W' : World} (h : BXs bn yb bg bw l N A m c W) (h1 : W'.heap[bn]? = W.heap[bn]?) (h2 : W'.heap[yb]? = W.heap[yb]?) (h3 : W'.heap[bg]? = W.heap[bg]?) (h4 : W'.heap[bw]? = W.heap[bw]?) : BXs bn yb bg bw l N A m c W' := ⟨h1.trans h.n, h2.trans h.y, h3.trans h.g, h4.trans h.k⟩
theorem BXs.below {bn yb bg bw l N : Nat} {A : Option Addr} {m c : Nat} {W W' : World} (h : BXs bn yb bg bw l N A m c W) (hb : Below W.heap.size W W') : BXs bn yb bg bw l N A m c W' := ⟨zax h.n hb, zax h.y hb, zax h.g hb, zax h.k hb⟩
def Out (n₀ : Nat) (x : Value × List Int) (U : Nat → Prop) (W : World) : Prop := zcu n₀ W x.1 x.2 ∧ (∀ k, x.1.ownBlock = some k → ¬ U k) ∧ ∀ k, U k → k < W.heap.size
def encR (x : Value × List Int) : Array Value := #[x.1]
def flq (xs : List Nd) (m : Nat) (row : List Int) (l : List Int) : List (List Int) := l.flatMap fun k => zco xs m (row ++ [k])
theorem flq_succ (xs : List Nd) (m : Nat) (row : List Int) {l : List Int} {q : Nat} {k : Int} (h : l[q]? = some k) : (flq xs m row (l.take q)).length + (zco xs m (row ++ [k])).length ≤ (flq xs m row l).length ∧ flq xs m row (l.take (q + 1)) = flq xs m row (l.take q) ++ zco xs m (row ++ [k]) := by
 have e : flq xs m row (l.take (q + 1)) = flq xs m row (l.take q) ++ zco xs m (row ++ [k]) := by
  unfold flq
  rw [List.take_add_one, h, List.flatMap_append]
  simp
 refine ⟨?_, e⟩
 have e2 : flq xs m row l = flq xs m row (l.take (q + 1)) ++ flq xs m row (l.drop (q + 1)) := by
  unfold flq
  rw [← List.flatMap_append, List.take_append_drop]
 rw [e2, e, List.length_append, List.length_append]
 omega
section
variable {l L n₀ Nm N : Nat} {Ls : List Nat} {J : List (Value × List Int) → (Nat → Prop) → World → Prop} {bn yb bg bw c : Nat} {A : Option Addr} {xs : List Nd} {w0 : World}
def Left (L n₀ : Nat) (J : List (Value × List Int) → (Nat → Prop) → World → Prop) (bn yb bg bw l N : Nat) (A : Option Addr) (c : Nat) (xs : List Nd) (w0 : World) (pre : List (Value × List Int)) (U : Nat → Prop) (W : World) (row : List Int) (rows : List (List Int)) (W' : World) : Prop :=
 ∃ ys U', ys.map (·.2) = rows ∧ J (pre ++ ys) U' W' ∧ (∀ k, U k → U' k) ∧ (∀ k, U' k → k < W'.heap.size) ∧ BXs bn yb bg bw l N A xs.length c W' ∧ Below n₀ w0 W' ∧ zdx L U W W' row ∧ W.heap.size ≤ W'.heap.size
theorem walk_in (hJ : GSeq.Bears L J) (hw0 : w0.heap.size = n₀) (hn₀ : n₀ ≤ L) (hbnL : bn < L) (hbn : bn ∈ Ls) (hbg : bg ∈ Ls) (hC : Kd.C kN w0 A xs.length xs) (hf : FitG xs) (hN : N ≤ 64)
  (hY : ∀ nn pre x U W1, J pre U W1 → Out n₀ x U W1 → pre.length < Nm → YieldAt Fence.wide nn Try.prog l (encR x) W1 fun e W' => e = .returned (.bool true) ∧ J (pre ++ [x]) U W' ∧ zdg n₀ Ls U W1 W') :
  ∀ (m : Nat) (row : List Int) (g len1 cap : Nat) (k0 : Int) (pre : List (Value × List Int)) (U : Nat → Prop) (W : World) (nn : Nat),
   row.length = len1 + 1 → len1 + m = N → row[len1]? = some k0 → 0 ≤ k0 → k0 < (xs.length : Int) → zcu L W (.slice (some ⟨g, 0, none⟩) (len1 + 1) cap) row → U g → U yb → U bw → (∀ k, U k → k < W.heap.size) →
   BXs bn yb bg bw l N A xs.length c W → J pre U W → Below n₀ w0 W → L ≤ W.heap.size → pre.length + (zco xs m row).length ≤ Nm →
   CallsIn Fence.wide nn Try.prog 53 #[.slice (some ⟨g, 0, none⟩) (len1 + 1) cap, .pointer (some ⟨bn, 0, none⟩), .pointer (some ⟨yb, 0, none⟩), .pointer (some ⟨bg, 0, none⟩), .pointer (some ⟨bw, 0, none⟩)] W
    fun e W' => e = .returned (.bool true) ∧ Left L n₀ J bn yb bg bw l N A c xs w0 pre U W row (zco xs m row) W' := by
 intro m
 induction m with
 | zero =>
  intro row g len1 cap k0 pre U W nn hrl hm hk0 h0 h1 hrow hUg hUy hUw hUs hbx hj hb hLW hcnt
  have cn : W.cell? ⟨bn, 0, none⟩ = some (.int .i64 (N : Int)) := zaf hbx.n 0
  have hlen : (N : Int) < ((len1 + 1 : Nat) : Int) := by omega
  refine callsIn_of_wp Try.func53 rfl trivial ?_ rfl
  simp only [Try.ntmps53, List.size_toArray, List.length_cons, List.length_nil, Nat.reduceAdd, Nat.reduceSub, Array.replicate_succ, Array.replicate_zero, List.push_toArray, List.append_toArray, List.nil_append, List.cons_append]
  gi_wp2
  rename_i K2 hK2
  obtain ⟨Wd, hWd⟩ : ∃ X, W.drew = X := ⟨_, rfl⟩
  have hbxd : BXs bn yb bg bw l N A xs.length c Wd := by rw [← hWd]; exact hbx.below (zb7 (Below.refl _ _))
  have hrowd : zcu L Wd (.slice (some ⟨g, 0, none⟩) (len1 + 1) cap) row := by rw [← hWd]; exact hrow.keep (fun _ _ _ => rfl)
  have hjd : J pre U Wd := by rw [← hWd]; exact hJ.turn _ _ _ _ hj Turn.drew
  have hbd : Below n₀ w0 Wd := by rw [← hWd]; exact zb7 hb
  have hsd : W.heap.size = Wd.heap.size := by rw [← hWd]; rfl
  have hLd : L ≤ Wd.heap.size := by omega
  have hrl1 : row.length ≤ 1000000 := by omega
  have hCr : Kd.C (Kd.int .i64) Wd (some ⟨g, 0, none⟩) row.length row := by
   obtain ⟨_, _, he_, _, h⟩ := Kd.zdh (GSrt.own_R hrowd)
   injection he_ with e1 _ e2
   rw [e1]
   exact h
  have hclone := clone_calls g cap row Wd hCr hrl1
  rw [hrl] at hclone
  have cyd : Wd.cell? ⟨yb, 0, none⟩ = some (.func (.yield l) #[] #[]) := zaf hbxd.y 0
  refine wpIn_region_any (by kernel_rfl) ?_
  change wpAnyIn _ _ _ _ _ _ _ _ _ (World.drew _)
  rw [hWd]
  refine takeIn (i := 1) (N := some 14) (v := ?_) (a' := ?_) #[false, true, false, false, false] rfl rfl rfl (by kernel_rfl) (by kernel_rfl) (by kernel_rfl) (fun _ _ _ h => h) ⟨Or.inl ⟨by rfl, ?_⟩, fun _ => rfl⟩ (by rfl) ?_ ?_
  rotate_left; · intro w'; go_simp; with_reducible rfl
  rotate_left; · simp only [Act.put, Y1, Y2, Y3]; rfl
  refine joinIn (σ := Value) 2 #[true, true, true, false, false] (fun v => [(13, .func (.yield l) #[] #[]), (15, v)]) (fun v w' => Kd.R (Kd.int .i64) TI w' Wd.heap.size (fun _ => True) v row ∧ Below Wd.heap.size Wd w') ?_ ?_
  rotate_left
  ·intro hCont
   refine wpAnyIn_ready (rs := [0, 2]) (by kernel_rfl) (by simp) (AllReadyIn.cons rfl (fun K hK => ?_) (AllReadyIn.cons rfl (fun K hK => ?_) AllReadyIn.nil))
   ·refine zd3 (N := some 13) (v := .func (.yield l) #[] #[]) (w1 := Wd) (by rfl) rfl ?_ ?_
    ·go_simp
    refine hK _ _ ?_
    refine wpAnyIn_ready (rs := [2]) (by kernel_rfl) (by simp) (AllReadyIn.cons rfl (fun K hK => ?_) AllReadyIn.nil)
    refine goesIn (N := some 15) Try.func54 (by kernel_rfl) rfl #[.slice (some ⟨g, 0, none⟩) (len1 + 1) cap] (by rfl) rfl rfl (by first | rfl | (simp [Act.eval]; done) | (simp [go_sem]; done)) ?_
    refine (callsIn_wide.2 hclone).mono ?_
    rintro e W3 ⟨v, rfl, hR3, hB3⟩
    refine ⟨_, rfl, ?_⟩
    refine hK _ _ ?_
    exact zfn rfl (zen (by simp only [zd0, Act.put, Y1, Y2, Y3]) (hCont v _ ⟨hR3, hB3⟩))
   ·refine goesIn (N := some 15) Try.func54 (by kernel_rfl) rfl #[.slice (some ⟨g, 0, none⟩) (len1 + 1) cap] (by rfl) rfl rfl (by first | rfl | (simp [Act.eval]; done) | (simp [go_sem]; done)) ?_
    refine (callsIn_wide.2 hclone).mono ?_
    rintro e W3 ⟨v, rfl, hR3, hB3⟩
    refine ⟨_, rfl, ?_⟩
    refine hK _ _ ?_
    have cy3 := zai hB3 cyd
    refine wpAnyIn_ready (rs := [0]) (by kernel_rfl) (by simp) (AllReadyIn.cons rfl (fun K hK => ?_) AllReadyIn.nil)
    refine zd3 (N := some 13) (v := .func (.yield l) #[] #[]) (w1 := W3) (by rfl) rfl ?_ ?_
    ·go_simp
    refine hK _ _ ?_
    exact zfn rfl (zen (by simp only [zd0, Act.put, Y1, Y2, Y3]) (hCont v _ ⟨hR3, hB3⟩))
  rintro v W3 ⟨hR3, hB3⟩
  refine zen (a' := ?_) ?_ ?_
  rotate_left
  ·simp only [zd0, Act.put, Y1, Y2, Y3]
   rfl
  have hut : Turn L U Wd W3 := (Turn.below hB3).mono (Nat.le_refl _) (fun _ h => h)
  have hj3 : J pre U W3 := hJ.turn _ _ _ _ hjd hut
  have ho3 := GSrt.R_ownI hR3
  have hD3 : Out n₀ (v, row) U W3 := ⟨zgp ho3 (by omega), fun k hk hu => by
   have h1 := zck ho3 k hk
   have h2 := hUs k hu
   omega, fun k hu => Nat.lt_of_lt_of_le (hUs k hu) (by have := hB3.size; omega)⟩
  have hrl3 : pre.length + 1 ≤ Nm := by simpa [zco] using hcnt
  obtain ⟨fn, tmps, assign, body, hy, hR⟩ := hY (nn - 1) pre (v, row) U W3 hj3 hD3 (by omega)
  have hy' : (Instr.yield l #[v]).run Try.prog W3 = .ok (.round l fn tmps assign body) W3 := hy
  refine wpAnyIn_ready (rs := [3]) (by kernel_rfl) (by simp) (AllReadyIn.cons rfl (fun K hK => ?_) AllReadyIn.nil)
  refine roundIn (N := some 16) (l := l) (f := fn) (tmps := tmps) (assign := assign) (body := body) (w1 := W3) (by rfl) rfl ?_ ?_
  ·unfold execOp
   simp [resolve, Deferred.ofValue, invoke, Act.eval, hy']
  refine hR.mono ?_
  rintro e W4 ⟨rfl, hj4, hk4⟩
  refine ⟨_, rfl, ?_⟩
  refine hK _ _ ?_
  clear hK K
  refine zen (a' := ?_) ?_ ?_
  rotate_left
  ·simp only [zd0, Act.put, Y1, Y2, Y3]
   rfl
  refine zfn (l' := #[true, true, true, true, false]) (by rfl) ?_
  refine takeIn (i := 4) (N := some 6) (v := ?_) (a' := ?_) #[true, true, true, true, true] rfl rfl rfl (by kernel_rfl) (by kernel_rfl) (by kernel_rfl) (fun _ _ _ h => h) ⟨Or.inl ⟨by rfl, ?_⟩, fun _ => rfl⟩ (by rfl) ?_ ?_
  rotate_left; · intro w'; go_simp; with_reducible rfl
  rotate_left; · simp only [Act.put, Y1, Y2, Y3]; rfl
  refine wpAnyIn_done (by kernel_rfl) ?_ _
  refine hK2 _ _ ?_
  have hkx : ∀ k, U k → W4.heap[k]? = Wd.heap[k]? := fun k hu => by
   have h2 := hUs k hu
   rw [hk4.2.2 k hu (by have := hB3.size; omega)]
   exact hB3.block k (by omega)
  have hks : ∀ k, k ∈ Ls → k < Wd.heap.size → W4.heap[k]? = Wd.heap[k]? := fun k hu hlt => by
   rw [hk4.1.2 k hu (by have := hB3.size; omega)]
   exact hB3.block k hlt
  have hbx4 : BXs bn yb bg bw l N A xs.length c W4 := hbxd.keep (hks _ hbn (zbj hbxd.n)) (hkx _ hUy) (hks _ hbg (zbj hbxd.g)) (hkx _ hUw)
  have hb4 : Below n₀ w0 W4 := (hbd.trans (hB3.mono (by omega))).trans hk4.1.1
  have hfr : zdx L U W W4 row := zgh (fun k hu hlt => by rw [hkx k hu, ← hWd]; rfl)
  have hsz : W.heap.size ≤ W4.heap.size := by have := hB3.size; have := hk4.2.1; omega
  have HL : Left L n₀ J bn yb bg bw l N A c xs w0 pre U W row (zco xs 0 row) W4 := ⟨[(v, row)], U, rfl, hj4, fun _ h => h, fun k hu => Nat.lt_of_lt_of_le (hUs k hu) hsz, hbx4, hb4, hfr, hsz⟩
  clear hfr hbx4 hb4 hkx hks hj4 hk4 hD3 hj3 hut hR3 hB3 ho3 hbxd hrowd hjd hbd hclone hCr
  gi_wp2
  refine bodyPost_ret (results_tmp rfl _ _ _) rfl ?_
  exact ⟨rfl, HL⟩
 | succ m ih0 =>
  intro row g len1 cap k0 pre U W nn hrl hm hk0 h0 h1 hrow hUg hUy hUw hUs hbx hj hb hLW hcnt
  have hb0 : Below w0.heap.size w0 W := by rw [hw0]; exact hb
  have cn : W.cell? ⟨bn, 0, none⟩ = some (.int .i64 (N : Int)) := zaf hbx.n 0
  have hlen : ¬ (N : Int) < ((len1 + 1 : Nat) : Int) := by omega
  have hxl : k0.toNat < xs.length := by omega
  obtain ⟨x, hx⟩ : ∃ x, xs[k0.toNat]? = some x := ⟨xs[k0.toNat], List.getElem?_eq_getElem hxl⟩
  obtain ⟨ad, A2, c2, hA, _, _, f2, hc2, hI0⟩ := zd2 hC hx
  subst hA
  have hnl : x.2.2.length ≤ 4096 := by have := (zff hf k0).1; rwa [lnk_at hx] at this
  have hIr := (hf.ok x (List.mem_of_getElem? hx)).inn
  have hW : Hid (zco xs (m + 1) row = flq xs m row x.2.2) := Lib.hid (by
   have e : row.getLast?.getD 0 = k0 := by rw [List.getLast?_eq_getElem?, hrl, Nat.add_sub_cancel, hk0]; rfl
   simp only [zco, flq]
   rw [e, lnk_at hx])
  have cr : W.cell? ⟨g, len1, none⟩ = some (.int .i64 k0) := by
   have hr' : W.ownsRow L TI 1 (.slice (some ⟨g, 0, none⟩) (len1 + 1) cap) row.length (ints row) := hrow
   have := hr'.cells (g := g) rfl len1 (.int .i64 k0) (by show (ints row)[len1]? = _; unfold ints GSrt.nums; rw [List.getElem?_map, hk0]; rfl)
   rwa [add_plain] at this
  have heg : ∀ args w, (callFunc 53 args).run Try.prog w = .ok (.enter 53 args) w := enters_of Try.func53 (by kernel_rfl) rfl
  have HIH := Lib.hid ih0
  clear ih0
  refine callsIn_of_wp Try.func53 rfl trivial ?_ rfl
  simp only [Try.ntmps53, List.size_toArray, List.length_cons, List.length_nil, Nat.reduceAdd, Nat.reduceSub, Array.replicate_succ, Array.replicate_zero, List.push_toArray, List.append_toArray, List.nil_append, List.cons_append]
  clear heg
  gi_wp2
  rename_i K3 hK3
  have hHeld : (fun X => X.cell? ⟨bg, 0, none⟩ = some (.slice (some ad) xs.length c) ∧ X.cell? ⟨g, len1, none⟩ = some (.int .i64 k0) ∧ X.cell? ⟨(ad.add (k0.toNat * 3)).block, (ad.add (k0.toNat * 3)).off + 2, none⟩ = some (.slice A2 x.2.2.length c2)) W.drew := ⟨zaf (zac hbx.g) 0, cr, zai hb0 f2⟩
  have hwl : IntKind.i64.wrap (len1 : Int) = (len1 : Int) := by rw [IntKind.wrap_i64]; omega
  have hlt1 : (len1 : Int) < (len1 : Int) + 1 := by omega
  refine wpIn_wide.2 <| wp_qz (zbt (S := (fun X => X.cell? ⟨bg, 0, none⟩ = some (.slice (some ad) xs.length c) ∧ X.cell? ⟨g, len1, none⟩ = some (.int .i64 k0) ∧ X.cell? ⟨(ad.add (k0.toNat * 3)).block, (ad.add (k0.toNat * 3)).off + 2, none⟩ = some (.slice A2 x.2.2.length c2))) (ds := []) (Ymk 13 0) (by kernel_rfl) rfl rfl hHeld (fun h0_ => ?_))
  clear h0_
  refine Ypk 0 17 13 1 ?_
  refine Ytk 1 18 13 3 hHeld ?_
  refine Ypk 2 19 13 7 ?_
  refine Ypk 3 20 13 15 ?_
  refine Ypk 4 21 13 31 ?_
  refine Ypk 5 22 13 63 ?_
  refine Ypk 6 23 13 127 ?_
  refine Ytk 7 24 13 255 hHeld ?_
  refine Ypk 8 25 13 511 ?_
  refine Ypk 9 26 13 1023 ?_
  refine Ytk 10 27 13 2047 hHeld ?_
  refine Ypk 11 28 13 4095 ?_
  refine Ypk 12 29 13 8191 ?_
  refine zby (by kernel_rfl) ?_
  refine hK3 _ _ ?_
  have HK3 := Lib.hid (show True from trivial)
  gi_wp2
  gi_loopw [29] (fun i wr => ∃ (q : Nat) (ysq : List (Value × List Int)) (Uq : Nat → Prop), i = .int .i64 (q : Int) ∧ q ≤ x.2.2.length ∧ Hid (ysq.map (·.2) = flq xs m row (x.2.2.take q)) ∧ J (pre ++ ysq) Uq wr ∧ Hid (∀ k, U k → Uq k) ∧ Hid (∀ k, Uq k → k < wr.heap.size) ∧ BXs bn yb bg bw l N (some ad) xs.length c wr ∧ Below n₀ w0 wr ∧ Hid (zdx L U W wr row) ∧ Hid (W.heap.size ≤ wr.heap.size))
   (fun i _ => x.2.2.length - (Go.RowKit.intOf i).toNat)
  case atStart =>
   exact ⟨0, [], U, rfl, Nat.zero_le _, Lib.hid rfl, by rw [List.append_nil]; exact hJ.turn _ _ _ _ hj Turn.drew, Lib.hid (fun _ h => h), Lib.hid hUs, hbx.below (zb7 (Below.refl _ _)), zb7 hb, Lib.hid (zgh (fun _ _ _ => rfl)), Lib.hid (Nat.le_refl _)⟩
  case round =>
   obtain ⟨q, ysq, Uq, rfl, hq, HP, hJq, HU, HUs, hbxq, hbq, HF, HS⟩ := hrel
   by_cases hlt : q < x.2.2.length
   ·obtain ⟨kk, hkk⟩ : ∃ k, x.2.2[q]? = some k := ⟨x.2.2[q], List.getElem?_eq_getElem hlt⟩
    have hbq0 : Below w0.heap.size w0 wr := by rw [hw0]; exact hbq
    obtain ⟨ad2, hA2, g2⟩ := atI (Kd.za4 hI0 hbq0) hkk
    subst hA2
    obtain ⟨hkk0, hkk1⟩ := hIr kk (List.mem_of_getElem? hkk)
    obtain ⟨hct, htk⟩ := flq_succ xs m row hkk
    have heg : ∀ args w, (callFunc 53 args).run Try.prog w = .ok (.enter 53 args) w := enters_of Try.func53 (by kernel_rfl) rfl
    have HE := Lib.hid heg
    have HD := Lib.hid (show _ ∧ _ from ⟨hct, htk⟩)
    clear heg hct htk
    gi_wp2
    rename_i K6 hK6
    obtain ⟨Wd, hWd⟩ : ∃ X, wr.drew = X := ⟨_, rfl⟩
    have hbxd : BXs bn yb bg bw l N (some ad) xs.length c Wd := by rw [← hWd]; exact hbxq.below (zb7 (Below.refl _ _))
    have hsd : wr.heap.size = Wd.heap.size := by rw [← hWd]; rfl
    obtain ⟨WA, hWA⟩ : ∃ X, Wd.alloc (.cells #[.int .i64 kk] TI) = X := ⟨_, rfl⟩
    have hBA : Below Wd.heap.size Wd WA := by rw [← hWA]; exact (Below.refl _ _).alloc (Nat.le_refl _) _
    have hsA : WA.heap.size = Wd.heap.size + 1 := by rw [← hWA]; exact World.size_alloc _ _
    have hcA : WA.heap[Wd.heap.size]? = some (.cells #[.int .i64 kk] TI (0, 0)) := by rw [← hWA]; exact zbp Wd _
    have hrowr : zcu L wr (.slice (some ⟨g, 0, none⟩) (len1 + 1) cap) row := HF.out _ row (List.prefix_refl _) (fun k hk => by
     simp only [Value.ownBlock, Option.some.injEq] at hk
     rw [← hk]; exact hUg) hrow
    have hrowA : zcu L WA (.slice (some ⟨g, 0, none⟩) row.length cap) row := by
     rw [hrl]
     refine hrowr.keep (fun k _ hlt2 => ?_)
     rw [hBA.block k (by omega), ← hWd]
     rfl
    have hLr : L ≤ wr.heap.size := by have := HS.out; omega
    obtain ⟨g', cap', W6, hap, hr6, hw6, hs6⟩ := append_keep 31 kk Wd.heap.size hrowA hcA (by omega) (by omega)
    have hbxA : BXs bn yb bg bw l N (some ad) xs.length c WA := hbxd.below hBA
    have hgT : ∃ cs fr, WA.heap[g]? = some (.cells cs TI fr) := by
     rcases hrowA.2 with ⟨hv, _⟩ | ⟨g0, cap0, cur, hv, _, hg, _⟩
     ·cases hv
     ·injection hv with e1 _ _
      injection e1 with e1
      injection e1 with e1
      subst e1
      exact ⟨_, _, hg⟩
    have hgL : L ≤ g := by
     rcases hrowA.2 with ⟨hv, _⟩ | ⟨g0, cap0, cur, hv, hb0, hg, _⟩
     ·cases hv
     ·injection hv with e1 _ _
      injection e1 with e1
      injection e1 with e1
      subst e1
      exact hb0
    have hfr6 : zdx L Uq WA W6 row := frame_append hrowA hr6 hw6
    have hg6 : ∃ ro, WA.grownBy W6 ro ∧ (∀ r, ro = some r → r = g ∧ g' = g) := by
     rcases hw6 with ⟨e1, _, h⟩ | ⟨_, h⟩
     ·exact ⟨_, h, fun r e => by cases e; exact ⟨rfl, e1⟩⟩
     ·exact ⟨_, h, fun r e => nomatch e⟩
    obtain ⟨ro, hgr, hro⟩ := hg6
    obtain ⟨V, hV⟩ : ∃ V : Nat → Prop, V = fun k => Uq k ∨ k = g' := ⟨_, rfl⟩
    have hUqV : ∀ k, Uq k → V k := fun k h => by rw [hV]; exact .inl h
    have hVg : V g' := by rw [hV]; exact .inr rfl
    have hg'new : Uq g' ∨ WA.heap.size ≤ g' := by
     rcases hw6 with ⟨e1, _, _⟩ | ⟨e1, _⟩
     ·exact .inl (by rw [e1]; exact HU.out _ hUg)
     ·exact .inr (by omega)
    have hjA : J (pre ++ ysq) Uq WA := hJ.turn _ _ _ _ (by rw [← hWd]; exact hJ.turn _ _ _ _ hJq Turn.drew) (Turn.below hBA)
    have hjV : J (pre ++ ysq) V WA := hJ.more _ _ _ _ hjA (fun k hk => by
     rw [hV] at hk
     rcases hk with hk | rfl
     ·exact .inl hk
     ·exact hg'new)
    have hj6 : J (pre ++ ysq) V W6 := hJ.turn _ _ _ _ hjV (Turn.grown hgr (fun k e => .inl (by rw [(hro k e).1, ← (hro k e).2]; exact hVg)))
    have hkp : ∀ k cs t fr, WA.heap[k]? = some (.cells cs t fr) → (t = TI → k < L) → W6.heap[k]? = WA.heap[k]? := fun k cs t fr hk ht => hgr.block k (zbj hk) (fun e => by
     obtain ⟨cs2, fr2, h2⟩ := hgT
     have e1 := (hro k e.symm).1
     rw [e1, h2] at hk
     injection hk with hk
     injection hk with _ hk _
     have := ht hk.symm
     omega)
    have hbx6 : BXs bn yb bg bw l N (some ad) xs.length c W6 := hbxA.keep (hkp _ _ _ _ hbxA.n (fun _ => hbnL)) (hkp _ _ _ _ hbxA.y (fun h => absurd h (by decide))) (hkp _ _ _ _ hbxA.g (fun h => absurd h (by decide))) (hkp _ _ _ _ hbxA.k (fun h => absurd h (by decide)))
    have hbA : Below n₀ w0 WA := (zb7 hbq).trans (by rw [hWd]; exact hBA.mono (by omega))
    have hb6 : Below n₀ w0 W6 := hbA.trans ⟨hgr.os, hgr.tape, hgr.output, hgr.size, fun k hk => hgr.block k (by omega) (fun e => by have := (hro k e.symm).1; omega)⟩
    have hV6 : ∀ k, V k → k < W6.heap.size := fun k hk => by
     rw [hV] at hk
     rcases hk with hk | rfl
     ·have := HUs.out k hk; omega
     ·obtain ⟨_, _, he, _, h⟩ := hr6.form (by simp)
      injection he with e1 _ _
      injection e1 with e1
      injection e1 with e1
      omega
    have hFr : zdx L U W W6 row := (HF.out.trans (zgh (fun k hu hlt2 => by rw [hBA.block k (by omega), ← hWd]; rfl))).trans (fun v0 r0 hp hu h0 => hfr6 v0 r0 hp (fun k hk => HU.out k (hu k hk)) h0)
    have hcq : pre.length + ysq.length + (zco xs m (row ++ [kk])).length ≤ Nm := by
     have h1 := congrArg List.length HP.out
     rw [List.length_map] at h1
     have h2 := HD.out.1
     have h3 := congrArg List.length hW.out
     omega
    have hIH := HIH.out (row ++ [kk]) g' (len1 + 1) cap' kk (pre ++ ysq) V W6 (nn - 1) (by rw [List.length_append, hrl]; rfl) (by omega) (by rw [List.getElem?_append_right (by omega), hrl, Nat.sub_self]; rfl) hkk0 hkk1 (by rw [← hrl]; exact hr6) hVg (hUqV _ (HU.out _ hUy)) (hUqV _ (HU.out _ hUw)) hV6 hbx6 hj6 hb6 (by omega) (by rw [List.length_append]; exact hcq)
    rw [hrl] at hap
    have cwd : Wd.cell? ⟨bw, 0, none⟩ = some (.func (.func 53) #[] #[.pointer (some ⟨bn, 0, none⟩), .pointer (some ⟨yb, 0, none⟩), .pointer (some ⟨bg, 0, none⟩), .pointer (some ⟨bw, 0, none⟩)]) := zaf hbxd.k 0
    have cwA := zai hBA cwd
    have cw6 : W6.cell? ⟨bw, 0, none⟩ = some (.func (.func 53) #[] #[.pointer (some ⟨bn, 0, none⟩), .pointer (some ⟨yb, 0, none⟩), .pointer (some ⟨bg, 0, none⟩), .pointer (some ⟨bw, 0, none⟩)]) := zaf hbx6.k 0
    refine wpIn_region_any (by kernel_rfl) ?_
    change wpAnyIn _ _ _ _ _ _ _ _ _ (World.drew _)
    rw [hWd]
    refine takeIn (i := 1) (N := some 34) (v := ?_) (a' := ?_) #[false, true, false, false, false, false, false] rfl rfl rfl (by kernel_rfl) (by kernel_rfl) (by kernel_rfl) (fun _ _ _ h => h) ⟨Or.inl ⟨by rfl, ?_⟩, fun _ => rfl⟩ (by rfl) ?_ ?_
    rotate_left; · intro w'; go_simp; with_reducible rfl
    rotate_left; · simp only [Act.put, Y1, Y2, Y3]; rfl
    refine takeIn (i := 2) (N := some 35) (v := ?_) (a' := ?_) #[false, true, true, false, false, false, false] rfl rfl rfl (by kernel_rfl) (by kernel_rfl) (by kernel_rfl) (fun _ _ _ h => h) ⟨Or.inl ⟨by rfl, ?_⟩, fun _ => rfl⟩ (by rfl) ?_ ?_
    rotate_left; · intro w'; go_simp; with_reducible rfl
    rotate_left; · simp only [Act.put, Y1, Y2, Y3]; rfl
    refine joinIn (σ := Unit) 2 #[true, true, true, true, true, false, false] (fun _ => [(33, .func (.func 53) #[] #[.pointer (some ⟨bn, 0, none⟩), .pointer (some ⟨yb, 0, none⟩), .pointer (some ⟨bg, 0, none⟩), .pointer (some ⟨bw, 0, none⟩)]), (36, .slice (some ⟨Wd.heap.size, 0, none⟩) 1 1), (37, .slice (some ⟨g', 0, none⟩) (len1 + 1 + 1) cap')]) (fun _ w' => w' = W6) ?_ ?_
    rotate_left
    ·intro hCont
     refine wpAnyIn_ready (rs := [0, 3]) (by kernel_rfl) (by simp) (AllReadyIn.cons rfl (fun K hK => ?_) (AllReadyIn.cons rfl (fun K hK => ?_) AllReadyIn.nil))
     ·refine zd3 (N := some 33) (w1 := Wd) (by rfl) rfl (v := ?_) ?_ ?_
      rotate_left
      ·go_simp
       with_reducible rfl
      refine hK _ _ ?_
      refine wpAnyIn_ready (rs := [3]) (by kernel_rfl) (by simp) (AllReadyIn.cons rfl (fun K hK => ?_) AllReadyIn.nil)
      refine zd3 (N := some 36) (v := .slice (some ⟨Wd.heap.size, 0, none⟩) 1 1) (w1 := WA) (by rfl) rfl ?_ ?_
      ·rw [← hWA]
       go_simp
      refine hK _ _ ?_
      refine wpAnyIn_ready (rs := [4]) (by kernel_rfl) (by simp) (AllReadyIn.cons rfl (fun K hK => ?_) AllReadyIn.nil)
      refine zd3 (N := some 37) (v := .slice (some ⟨g', 0, none⟩) (len1 + 1 + 1) cap') (w1 := W6) (by rfl) rfl ?_ ?_
      ·unfold execOp
       simp [resolve, Deferred.ofValue, invoke, Act.eval, Act.put, builtin, Sem.run_bind, Sem.run_pure, Result.andThen_ok, hap]
      refine hK _ _ ?_
      exact zfn rfl (zen (by simp only [zd0, Act.put, Y1, Y2, Y3]) (hCont () _ rfl))
     ·refine zd3 (N := some 36) (v := .slice (some ⟨Wd.heap.size, 0, none⟩) 1 1) (w1 := WA) (by rfl) rfl ?_ ?_
      ·rw [← hWA]
       go_simp
      refine hK _ _ ?_
      clear hK K
      refine wpAnyIn_ready (rs := [0, 4]) (by kernel_rfl) (by simp) (AllReadyIn.cons rfl (fun K hK => ?_) (AllReadyIn.cons rfl (fun K hK => ?_) AllReadyIn.nil))
      ·refine zd3 (N := some 33) (w1 := WA) (by rfl) rfl (v := ?_) ?_ ?_
       rotate_left
       ·go_simp
        with_reducible rfl
       refine hK _ _ ?_
       clear hK K
       refine wpAnyIn_ready (rs := [4]) (by kernel_rfl) (by simp) (AllReadyIn.cons rfl (fun K hK => ?_) AllReadyIn.nil)
       refine zd3 (N := some 37) (v := .slice (some ⟨g', 0, none⟩) (len1 + 1 + 1) cap') (w1 := W6) (by rfl) rfl ?_ ?_
       ·unfold execOp
        simp [resolve, Deferred.ofValue, invoke, Act.eval, Act.put, builtin, Sem.run_bind, Sem.run_pure, Result.andThen_ok, hap]
       refine hK _ _ ?_
       exact zfn rfl (zen (by simp only [zd0, Act.put, Y1, Y2, Y3]) (hCont () _ rfl))
      ·refine zd3 (N := some 37) (v := .slice (some ⟨g', 0, none⟩) (len1 + 1 + 1) cap') (w1 := W6) (by rfl) rfl ?_ ?_
       ·unfold execOp
        simp [resolve, Deferred.ofValue, invoke, Act.eval, Act.put, builtin, Sem.run_bind, Sem.run_pure, Result.andThen_ok, hap]
       refine hK _ _ ?_
       clear hK K
       refine wpAnyIn_ready (rs := [0]) (by kernel_rfl) (by simp) (AllReadyIn.cons rfl (fun K hK => ?_) AllReadyIn.nil)
       refine zd3 (N := some 33) (w1 := W6) (by rfl) rfl (v := ?_) ?_ ?_
       rotate_left
       ·go_simp
        with_reducible rfl
       refine hK _ _ ?_
       exact zfn rfl (zen (by simp only [zd0, Act.put, Y1, Y2, Y3]) (hCont () _ rfl))
    intro _ w' hw'
    rw [hw']
    clear hw' w'
    refine zen (a' := ?_) ?_ ?_
    rotate_left
    ·simp only [zd0, Act.put, Y1, Y2, Y3]
     rfl
    refine wpAnyIn_ready (rs := [5]) (by kernel_rfl) (by simp) (AllReadyIn.cons rfl (fun K hK => ?_) AllReadyIn.nil)
    refine enterIn (N := some 38) (f := 53) (args := #[.slice (some ⟨g', 0, none⟩) (len1 + 1 + 1) cap', .pointer (some ⟨bn, 0, none⟩), .pointer (some ⟨yb, 0, none⟩), .pointer (some ⟨bg, 0, none⟩), .pointer (some ⟨bw, 0, none⟩)]) (w1 := W6) (by rfl) rfl ?_ ?_
    ·unfold execOp
     simp [resolve, Deferred.ofValue, invoke, Act.eval, Act.put, HE.out]
    refine hIH.mono ?_
    rintro e W7 ⟨rfl, ys7, U7, e7, hj7, hVU, hU7, hbx7, hb7, hf7, hs7⟩
    refine ⟨_, rfl, ?_⟩
    refine hK _ _ ?_
    clear hK K
    refine zen (a' := ?_) ?_ ?_
    rotate_left
    ·simp only [zd0, Act.put, Y1, Y2, Y3]
     rfl
    refine zfn (l' := #[true, true, true, true, true, true, false]) (by rfl) ?_
    refine takeIn (i := 6) (N := some 39) (v := ?_) (a' := ?_) #[true, true, true, true, true, true, true] rfl rfl rfl (by kernel_rfl) (by kernel_rfl) (by kernel_rfl) (fun _ _ _ h => h) ⟨Or.inl ⟨by rfl, ?_⟩, fun _ => rfl⟩ (by rfl) ?_ ?_
    rotate_left; · intro w'; go_simp; with_reducible rfl
    rotate_left; · simp only [Act.put, Y1, Y2, Y3]; rfl
    refine wpAnyIn_done (by kernel_rfl) ?_ _
    refine hK6 _ _ ?_
    have HN : Hid ((ysq ++ ys7).map (·.2) = flq xs m row (x.2.2.take (q + 1))) := Lib.hid (by rw [List.map_append, HP.out, e7, HD.out.2])
    have hJn : J (pre ++ (ysq ++ ys7)) U7 W7 := by rw [← List.append_assoc]; exact hj7
    have hUn : Hid (∀ k, U k → U7 k) := Lib.hid (fun k h => hVU k (hUqV k (HU.out k h)))
    have hUs7 : Hid (∀ k, U7 k → k < W7.heap.size) := Lib.hid hU7
    have hFn : Hid (zdx L U W W7 row) := Lib.hid (hFr.trans (fun v0 r0 hp hu h0 => hf7 v0 r0 (hp.trans (List.prefix_append _ _)) (fun k hk => hUqV k (HU.out k (hu k hk))) h0))
    have hSn : Hid (W.heap.size ≤ W7.heap.size) := Lib.hid (by have := HS.out; omega)
    clear hf7 hj7 hVU hU7 hs7 hFr hcq hIH hap cwd cwA cw6 hV6 hb6 hbA hbx6 hkp hj6 hjV hjA hg'new hVg hUqV hV hro hgr ro hfr6 hgL hgT hbxA hs6 hw6 hr6 hLr hrowA hrowr hcA hsA hBA hWA hsd hbxd hWd
    gi_wp2
    go_roundw
    case rel => exact ⟨q + 1, ysq ++ ys7, U7, by first | rfl | go_num, by omega, HN, hJn, hUn, hUs7, hbx7, hb7, hFn, hSn⟩
    case measure => simp [Go.RowKit.intOf]; omega
   ·obtain rfl : q = x.2.2.length := by omega
    have HL : Left L n₀ J bn yb bg bw l N (some ad) c xs w0 pre U W row (zco xs (m + 1) row) wr := ⟨ysq, Uq, by rw [hW.out, HP.out, List.take_length], hJq, HU.out, HUs.out, hbxq, hbq, HF.out, HS.out⟩
    gi_wp2
    refine bodyPost_ret (results_tmp rfl _ _ _) rfl ?_
    exact ⟨rfl, HL⟩
end
end Go.Proofs.ZZ.GWalk
end
section
namespace Go.Proofs.ZZ.GWays
open Go Go.RowKit Go.Shelf Go.Maps Go.Proofs.ZW.PrintWords Go.Proofs.ZW.PrintLast Go.Proofs.ZZ.RangeG Go.Proofs.ZZ.GMap Go.Proofs.ZZ.GK Go.Proofs.ZZ.G16 Go.Proofs.ZZ.GGr Go.Proofs.ZZ.GAdd Go.Proofs.ZZ.GTop Go.Proofs.ZZ.GStk Go.Proofs.ZZ.GPush Go.Proofs.ZZ.GBack Go.Proofs.ZZ.GSeq Go.Proofs.ZZ.GRow Go.Proofs.ZZ.GWalk
attribute [local go_sem] Oper.semAt_some
theorem YieldAt.any {n n' : Nat} {P : Program} {l : Nat} {vs : Array Value} {w : World} {R : Ending → World → Prop} (h : YieldAt Fence.wide n P l vs w R) : YieldAt Fence.wide n' P l vs w R := by
 obtain ⟨fn, tmps, assign, body, h1, h2⟩ := h
 exact ⟨fn, tmps, assign, body, h1, RoundIn.anyDepth rfl h2⟩
theorem ways_seq {n n₀ m M : Nat} {w0 w : World} {bn bg bo c : Nat} {A : Option Addr} {xs : List Nd} {node : Int} (hw0 : w0.heap.size = n₀) (hC : Kd.C kN w0 A xs.length xs) (hf : FitG xs) (hm : m ≤ 64) (h0 : 0 ≤ node) (h1 : node < (xs.length : Int)) (hb : Below n₀ w0 w)
  (cn : w.heap[bn]? = some (.cells #[.int .i64 (m : Int)] TI (0, 0))) (cg : w.heap[bg]? = some (.cells #[.slice A xs.length c] TG (0, 0))) (co : w.heap[bo]? = some (.cells #[.int .i64 node] TI (0, 0))) (hM : (zco xs m [node]).length ≤ M) :
  SeqU n Try.prog 52 #[.pointer (some ⟨bn, 0, none⟩), .pointer (some ⟨bg, 0, none⟩), .pointer (some ⟨bo, 0, none⟩)] encR n₀ [bn, bg] (Out n₀) (fun ys => ys.map (·.2) = zco xs m [node]) M w := by
 intro l J W ht hJ hY hj
 have hn₀ : n₀ ≤ w.heap.size := by have := hb.size; omega
 have cnW := ze4 cn ht (fun h => h)
 have cgW := ze4 cg ht (fun h => h)
 have coW := ze4 co ht (fun h => h)
 have hbW : Below n₀ w0 W := zh9 hb ht (by omega) hn₀ (fun _ h => h.elim)
 have hsW := ht.size
 have hbnL : bn < W.heap.size := zbj cnW
 have ccn : W.cell? ⟨bn, 0, none⟩ = some (.int .i64 (m : Int)) := zaf cnW 0
 have cco : W.cell? ⟨bo, 0, none⟩ = some (.int .i64 node) := zaf coW 0
 have hwk := fun (yb bw : Nat) => walk_in (l := l) (L := W.heap.size) (Nm := M) (N := m) (Ls := [bn, bg]) (J := J) (bn := bn) (yb := yb) (bg := bg) (bw := bw) (c := c) (w0 := w0) hJ hw0 (by omega) hbnL (by simp) (by simp) hC hf hm (fun nn pre x U W1 hj1 hD hlt => YieldAt.any (hY pre x U W1 hj1 hD hlt))
 have cco2 : ∀ o1 o2 : Obj, ((W.alloc o1).alloc o2).cell? ⟨bo, 0, none⟩ = some (.int .i64 node) := fun o1 o2 => zai (((Below.refl W.heap.size W).alloc (Nat.le_refl _) o1).alloc (by rw [World.size_alloc]; omega) o2) cco
 have heg : ∀ args w, (callFunc 53 args).run Try.prog w = .ok (.enter 53 args) w := enters_of Try.func53 (by kernel_rfl) rfl
 have HE := Lib.hid heg
 have HW := Lib.hid hwk
 clear hY heg hwk ht hC
 refine callsIn_of_wp Try.func52 rfl trivial ?_ rfl
 simp only [Try.ntmps52, List.size_toArray, List.length_cons, List.length_nil, Nat.reduceAdd, Nat.reduceSub, Array.replicate_succ, Array.replicate_zero, List.push_toArray, List.append_toArray, List.nil_append, List.cons_append]
 gi_wp2
 refine ⟨trivial, (fun h => by cases h), ?_⟩
 obtain ⟨W1, hW1⟩ : ∃ X, W.alloc (.cells #[.func (.yield l) #[] #[]] TFn) = X := ⟨_, rfl⟩
 have z1 : W1.heap.size = W.heap.size + 1 := by rw [← hW1]; exact World.size_alloc _ _
 have c1 : W1.heap[W.heap.size]? = some (.cells #[.func (.yield l) #[] #[]] TFn (0, 0)) := by rw [← hW1]; exact zbp W _
 have b1 : Below W.heap.size W W1 := by rw [← hW1]; exact (Below.refl _ _).alloc (Nat.le_refl _) _
 rw [hW1]
 obtain ⟨W2, hW2⟩ : ∃ X, W1.alloc (.cells #[.func (.func 53) #[] #[.pointer (some ⟨bn, 0, none⟩), .pointer (some ⟨W.heap.size, 0, none⟩), .pointer (some ⟨bg, 0, none⟩), .pointer (some ⟨W.heap.size + 1, 0, none⟩)]] TFn) = X := ⟨_, rfl⟩
 have z2 : W2.heap.size = W.heap.size + 2 := by rw [← hW2, World.size_alloc, z1]
 have c2 : W2.heap[W.heap.size + 1]? = some (.cells #[.func (.func 53) #[] #[.pointer (some ⟨bn, 0, none⟩), .pointer (some ⟨W.heap.size, 0, none⟩), .pointer (some ⟨bg, 0, none⟩), .pointer (some ⟨W.heap.size + 1, 0, none⟩)]] TFn (0, 0)) := by have := zbp W1 (.cells #[.func (.func 53) #[] #[.pointer (some ⟨bn, 0, none⟩), .pointer (some ⟨W.heap.size, 0, none⟩), .pointer (some ⟨bg, 0, none⟩), .pointer (some ⟨W.heap.size + 1, 0, none⟩)]] TFn); rw [hW2, z1] at this; exact this
 have b2 : Below (W.heap.size + 1) W1 W2 := by rw [← hW2]; exact (Below.refl _ _).alloc (by omega) _
 rw [hW2]
 obtain ⟨W3, hW3⟩ : ∃ X, W2.alloc (.cells #[.int .i64 node] TI) = X := ⟨_, rfl⟩
 have z3 : W3.heap.size = W.heap.size + 3 := by rw [← hW3, World.size_alloc, z2]
 have c3 : W3.heap[W.heap.size + 2]? = some (.cells #[.int .i64 node] TI (0, 0)) := by rw [← z2, ← hW3]; exact zbp W2 _
 have b3 : Below (W.heap.size + 2) W2 W3 := by rw [← hW3]; exact (Below.refl _ _).alloc (by omega) _
 rw [hW3]
 have b03 : Below W.heap.size W W3 := (b1.trans (b2.mono (by omega))).trans (b3.mono (by omega))
 have hrow : zcu W.heap.size W3 (.slice (some ⟨W.heap.size + 1 + 1, 0, none⟩) (0 + 1) 1) [node] := ⟨rfl, .inr ⟨W.heap.size + 2, 1, #[.int .i64 node], rfl, by omega, c3, Nat.le_refl _, by decide, rfl, rfl⟩⟩
 have hj3 : J [] (fun k => k = W.heap.size ∨ k = W.heap.size + 1 ∨ k = W.heap.size + 2) W3 := hJ.turn _ _ _ _ (hJ.more _ _ _ _ hj (fun k hk => .inr (by omega))) (Turn.below b03)
 have hbx : BXs bn W.heap.size bg (W.heap.size + 1) l m A xs.length c W3 := ⟨zax cnW b03, zax c1 ((b2.trans (b3.mono (by omega))).mono (by omega)), zax cgW b03, zax c2 (b3.mono (by omega))⟩
 refine (HW.out W.heap.size (W.heap.size + 1) m [node] (W.heap.size + 2) 0 1 node [] (fun k => k = W.heap.size ∨ k = W.heap.size + 1 ∨ k = W.heap.size + 2) W3 (n - 1) rfl (by omega) rfl h0 h1 hrow (.inr (.inr rfl)) (.inl rfl) (.inr (.inl rfl)) (fun k hk => by omega) hbx hj3 (hbW.trans (b03.mono (by omega))) (by omega) (by simpa using hM)).mono ?_
 rintro e W4 ⟨rfl, ys, U', e1, hj4, _⟩
 have hfin : ∃ xs_ U, xs_.map (·.2) = zco xs m [node] ∧ J xs_ U W4 := ⟨ys, U', e1, hj4⟩
 clear e1 hj4 hbx hj3 hrow
 gi_wp2
 go_end0
 exact ⟨⟨_, rfl⟩, hfin⟩
theorem ways_calls (A : Option Addr) (k c m : Nat) (node : Int) (w : World) : Calls Try.prog 34 #[.agg #[.slice A k c], .int .i64 node, .int .i64 (m : Int)] w fun e w' => ∃ bn bg bo, e = .returned (.func (.func 52) #[] #[.pointer (some ⟨bn, 0, none⟩), .pointer (some ⟨bg, 0, none⟩), .pointer (some ⟨bo, 0, none⟩)]) ∧
  w'.heap[bn]? = some (.cells #[.int .i64 (m : Int)] TI (0, 0)) ∧ w'.heap[bg]? = some (.cells #[.slice A k c] TG (0, 0)) ∧ w'.heap[bo]? = some (.cells #[.int .i64 node] TI (0, 0)) ∧ Below w.heap.size w w' := by
 go_enter Try.func34, Try.ntmps34
 go_wp2;go_ret
 obtain ⟨W1, hW1⟩ : ∃ X, w.alloc (.cells #[.slice A k c] TG) = X := ⟨_, rfl⟩
 have z1 : W1.heap.size = w.heap.size + 1 := by rw [← hW1]; exact World.size_alloc _ _
 have c1 : W1.heap[w.heap.size]? = some (.cells #[.slice A k c] TG (0, 0)) := by rw [← hW1]; exact zbp w _
 have b1 : Below w.heap.size w W1 := by rw [← hW1]; exact (Below.refl _ _).alloc (Nat.le_refl _) _
 rw [hW1]
 obtain ⟨W2, hW2⟩ : ∃ X, W1.alloc (.cells #[.int .i64 node] TI) = X := ⟨_, rfl⟩
 have z2 : W2.heap.size = w.heap.size + 2 := by rw [← hW2, World.size_alloc, z1]
 have c2 : W2.heap[w.heap.size + 1]? = some (.cells #[.int .i64 node] TI (0, 0)) := by rw [← z1, ← hW2]; exact zbp W1 _
 have b2 : Below (w.heap.size + 1) W1 W2 := by rw [← hW2]; exact (Below.refl _ _).alloc (by omega) _
 rw [hW2]
 obtain ⟨W3, hW3⟩ : ∃ X, W2.alloc (.cells #[.int .i64 (m : Int)] TI) = X := ⟨_, rfl⟩
 have c3 : W3.heap[w.heap.size + 2]? = some (.cells #[.int .i64 (m : Int)] TI (0, 0)) := by rw [← z2, ← hW3]; exact zbp W2 _
 have b3 : Below (w.heap.size + 2) W2 W3 := by rw [← hW3]; exact (Below.refl _ _).alloc (by omega) _
 rw [hW3]
 exact ⟨_, _, _, rfl, c3, zax c1 ((b2.trans (b3.mono (by omega))).mono (by omega)), zax c2 (b3.mono (by omega)), (b1.trans (b2.mono (by omega))).trans (b3.mono (by omega))⟩
end Go.Proofs.ZZ.GWays
end
section
namespace Go.Proofs.ZZ.GPaths
open Go Go.RowKit Go.Shelf Go.Maps Go.Proofs.ZW.PrintWords Go.Proofs.ZW.PrintLast Go.Proofs.ZZ.RangeG Go.Proofs.ZZ.GMap Go.Proofs.ZZ.GK Go.Proofs.ZZ.G16 Go.Proofs.ZZ.GGr Go.Proofs.ZZ.GAdd Go.Proofs.ZZ.GTop Go.Proofs.ZZ.GStk Go.Proofs.ZZ.GPush Go.Proofs.ZZ.GBack Go.Proofs.ZZ.GCount Go.Proofs.ZZ.GSeq Go.Proofs.ZZ.GRow Go.Proofs.ZZ.GWalk Go.Proofs.ZZ.GWays
attribute [local go_sem] Oper.semAt_some
abbrev TR : TypeId := 31
abbrev TRR : TypeId := 27
theorem infoR : (Try.prog.info? TR).map (fun i => (i.zero, i.size, i.bytes)) = some (some (.slice none 0 0), 1, 24) := by kernel_rfl
theorem zdz {W : World} {base size n : Nat} {e : TypeId} {v : Value} {xs : List Value} (h : W.ownsRow base e size v n xs) : ∀ k, v.ownBlock = some k → base ≤ k ∧ k < W.heap.size ∧ ∃ c fr, W.heap[k]? = some (.cells c e fr) := by
 intro k hk
 rcases h.2 with ⟨hv, _⟩ | ⟨g, cap, cur, hv, hb, hg, _⟩
 ·rw [hv] at hk; cases hk
 ·rw [hv] at hk
  obtain rfl : g = k := by simpa [Value.ownBlock] using hk
  exact ⟨hb, zbj hg, _, _, hg⟩
theorem own_keep {W W' : World} {base size n : Nat} {e : TypeId} {v : Value} {xs : List Value} (h : W.ownsRow base e size v n xs) (hk : ∀ k, v.ownBlock = some k → k < W.heap.size → W'.heap[k]? = W.heap[k]?) : W'.ownsRow base e size v n xs := by
 refine ⟨h.1, ?_⟩
 rcases h.2 with h2 | ⟨g, cap, cur, hv, hb, hg, r⟩
 ·exact .inl h2
 ·exact .inr ⟨g, cap, cur, hv, hb, (hk g (by rw [hv]; rfl) (zbj hg)).trans hg, r⟩
theorem row_one {L : Nat} {W : World} {v : Value} {row : List Int} (h : zcu L W v row) : v.oneCell' = true := by
 rcases h.2 with ⟨hv, _⟩ | ⟨g, cap, cur, hv, _⟩ <;> (rw [hv]; rfl)
theorem zhc {F : Fence} {n : Nat} {P : Program} (w : World) {ops : Array Oper} {rest : List Oper} {o : Oper} {a : Act} {Q : Exit → Act → World → Prop}
  (hg : o.guard = none) (s x : Operand) (t : TypeId) (hop : o.op = Op.call { callee := Callee.builtin Builtin.append, args := #[s, x], argTypes := #[t, t] })
  (base : Nat) (e : TypeId) (i : TypeInfo) (z : Value) (size bytes : Nat) (h1 : P.underlying t = some (.slice e)) (h2 : P.info? e = some i) (h3 : i.zero = some z) (h4 : i.size = size) (h5 : i.bytes = bytes) (h6 : z.cells.size = size) (h7 : 0 < size)
  (v : Value) (k : Nat) (xs : List Value) (hs : a.eval s = v) (hown : w.ownsRow base e size v k xs) (ad : Addr) (m c : Nat) (news : List Value) (hx : a.eval x = .slice (some ad) m c) (hn : news.length = m * size)
  (hc : ∀ j u, news[j]? = some u → w.cell? (ad.add j) = some u) (h1c : ∀ u ∈ news, u.oneCell' = true) (b1 : k + m ≤ maxLen) (b2 : (k + m) * bytes ≤ 140737488355328) (b3 : base ≤ w.heap.size)
  (hK : ∀ v' w', w'.ownsRow base e size v' (k + m) (xs ++ news) → w.grownBy w' v.ownBlock → (v'.ownBlock = v.ownBlock ∨ v'.ownBlock = some w.heap.size) → wpListIn F n P ops Q rest (a.put o.dst v') w') :
  wpListIn F n P ops Q (o :: rest) a w := by
 refine wpListIn_plain hg fun K hK' => ?_
 obtain ⟨v', w', hrun, r1, r2, _, r4⟩ := run_append_own_at (P := P) w base t o.type e i z size bytes h1 h2 h3 h4 h5 h6 h7 v k xs hown ad m c news hn hc h1c b1 b2 b3
 unfold Oper.wpIn
 refine ⟨?_, ?_⟩
 ·simp [Oper.about, hop, resolve, Target.leads, Sem.run_pure]
 ·rw [Oper.semAt_plain F _ _ (by rw [hop]; intro c hc'; cases hc')]
  simp [execOp, hop, resolve, invoke, builtin, hs, hx, hrun, Result.andThen]
  exact hK' _ _ (hK v' w' r1 r2 r4)
structure Stp (B : Nat) (ob : Option Nat) (X Y : World) : Prop where
 os : Y.os = X.os
 tape : Y.tape = X.tape
 output : Y.output = X.output
 size : X.heap.size ≤ Y.heap.size
 block : ∀ k, k < X.heap.size → k ≠ B → ob ≠ some k → Y.heap[k]? = X.heap[k]?
theorem Stp.of {B : Nat} {v : Value} {X X1 X2 : World} {o : Obj} {v' : Value} (h1 : X.alloc o = X1) (h2 : X1.grownBy X2 v.ownBlock) : Stp B v.ownBlock X (X2.setCell ⟨B, 0, none⟩ v') := by
 have b1 : Below X.heap.size X X1 := by rw [← h1]; exact (Below.refl _ _).alloc (Nat.le_refl _) _
 have b3 : ∀ Z : World, (Z.setCell ⟨B, 0, none⟩ v').heap.size = Z.heap.size := fun Z => by simp
 refine ⟨?_, ?_, ?_, ?_, fun k hk hB hne => ?_⟩
 ·exact h2.os.trans b1.os
 ·exact h2.tape.trans b1.tape
 ·exact h2.output.trans b1.output
 ·rw [b3]; exact Nat.le_trans b1.size h2.size
 ·rw [Below.heap_setCell _ _ _ _ hB, h2.block k (by have := b1.size; omega) (fun e => hne e.symm)]
  exact b1.block k hk
def zd9 (xs : List Nd) (node n : Int) : List (List Int) := if 0 ≤ node ∧ node < (xs.length : Int) ∧ 0 ≤ n ∧ n ≤ 64 then zco xs n.toNat [node] else []
structure Ro (B n₀ L0 M : Nat) (w : World) (pre : List (Value × List Int)) (U : Nat → Prop) (v : Value) (X : World) : Prop where
 box : X.heap[B]? = some (.cells #[v] TRR (0, 0))
 far : ¬ U B
 own : X.ownsRow L0 TR 1 v pre.length (pre.map (·.1))
 vfar : ∀ k, v.ownBlock = some k → ¬ U k
 rows : ∀ y ∈ pre, zcu n₀ X y.1 y.2 ∧ ∀ k, y.1.ownBlock = some k → ¬ U k
 few : pre.length ≤ M
 size : L0 ≤ X.heap.size
 low : Below n₀ w X
 un : ∀ k, U k → n₀ ≤ k
theorem Ro.turn {B n₀ L0 M : Nat} {w : World} {pre : List (Value × List Int)} {U : Nat → Prop} {v : Value} {X Y : World} {L : Nat} (h : Ro B n₀ L0 M w pre U v X) (ht : Turn L U X Y) (hw : n₀ ≤ w.heap.size) (hL : n₀ ≤ L) : Ro B n₀ L0 M w pre U v Y :=
 ⟨ze4 h.box ht h.far, h.far, zh6 h.own ht h.vfar, h.vfar, fun y hy => ⟨zh6 (h.rows y hy).1 ht (h.rows y hy).2, (h.rows y hy).2⟩, h.few, Nat.le_trans h.size ht.size, zh9 h.low ht hw hL h.un, h.un⟩
theorem Ro.more {B n₀ L0 M : Nat} {w : World} {pre : List (Value × List Int)} {U V : Nat → Prop} {v : Value} {X : World} (h : Ro B n₀ L0 M w pre U v X) (hw : n₀ ≤ w.heap.size) (hV : ∀ k, V k → U k ∨ X.heap.size ≤ k) : Ro B n₀ L0 M w pre V v X := by
 have key : ∀ k, k < X.heap.size → ¬ U k → ¬ V k := fun k h1 h2 h3 => (hV k h3).elim h2 (fun h4 => by omega)
 exact ⟨h.box, key _ (zbj h.box) h.far, h.own, fun k hk => key k (zdz h.own k hk).2.1 (h.vfar k hk), fun y hy => ⟨(h.rows y hy).1, fun k hk => key k (zdz (h.rows y hy).1 k hk).2.1 ((h.rows y hy).2 k hk)⟩, h.few, h.size, h.low, fun k hk => (hV k hk).elim (h.un k) (fun h4 => by have := h.low.size; omega)⟩
theorem Ro.step {B n₀ L0 M : Nat} {w X X1 X2 : World} {pre : List (Value × List Int)} {U : Nat → Prop} {v v' : Value} {x : Value × List Int} {o : Obj} (h : Ro B n₀ L0 M w pre U v X) (hw : n₀ ≤ w.heap.size) (hn : n₀ ≤ L0) (hB : n₀ ≤ B) (hx : Out n₀ x U X) (h1 : X.alloc o = X1) (h2 : X1.grownBy X2 v.ownBlock) (h3 : X2.ownsRow L0 TR 1 v' (pre.length + 1) (pre.map (·.1) ++ [x.1])) (h4 : v'.ownBlock = v.ownBlock ∨ v'.ownBlock = some X1.heap.size) (h5 : X2.heap[B]? = some (.cells #[v] TRR (0, 0))) (hM : pre.length < M) :
  Ro B n₀ L0 M w (pre ++ [x]) U v' (X2.setCell ⟨B, 0, none⟩ v') := by
 have st : Stp B v.ownBlock X (X2.setCell ⟨B, 0, none⟩ v') := Stp.of h1 h2
 have z1 : X1.heap.size = X.heap.size + 1 := by rw [← h1]; exact World.size_alloc _ _
 have row : ∀ y : Value × List Int, zcu n₀ X y.1 y.2 → zcu n₀ (X2.setCell ⟨B, 0, none⟩ v') y.1 y.2 := fun y hy => own_keep hy (fun k hk hlt => st.block k hlt (fun e => by
  obtain ⟨_, _, c, fr, hc⟩ := zdz hy k hk
  rw [e, h.box] at hc
  injection hc with hc
  injection hc with _ hc _
  exact absurd hc (by decide)) (fun e => by
  obtain ⟨_, _, c, fr, hc⟩ := zdz hy k hk
  obtain ⟨_, _, c2, fr2, hc2⟩ := zdz h.own k e
  rw [hc2] at hc
  injection hc with hc
  injection hc with _ hc _
  exact absurd hc (by decide)))
 refine ⟨?_, h.far, ?_, ?_, ?_, by simp; omega, Nat.le_trans h.size st.size, ?_, h.un⟩
 ·exact Boxed.set v' h5
 ·rw [List.length_append, List.map_append]
  refine own_keep h3 (fun k hk hlt => Below.heap_setCell _ _ _ _ (fun e => ?_))
  obtain ⟨_, _, c, fr, hc⟩ := zdz h3 k hk
  rw [e, h5] at hc
  injection hc with hc
  injection hc with _ hc _
  exact absurd hc (by decide)
 ·intro k hk hu
  rcases h4 with e | e
  ·exact h.vfar k (by rw [← e]; exact hk) hu
  ·rw [e] at hk
   injection hk with hk
   have := hx.2.2 k hu
   omega
 ·intro y hy
  rcases List.mem_append.1 hy with hy | hy
  ·exact ⟨row y (h.rows y hy).1, (h.rows y hy).2⟩
  ·obtain rfl := List.mem_singleton.1 hy
   exact ⟨row y hx.1, hx.2.1⟩
 ·refine h.low.trans ⟨st.os, st.tape, st.output, st.size, fun k hk => st.block k (by have := h.low.size; omega) (by omega) (fun e => ?_)⟩
  have := (zdz h.own k e).1
  omega
theorem Stp.keeps {B n₀ L0 M : Nat} {w X Y : World} {pre : List (Value × List Int)} {U : Nat → Prop} {v : Value} (h : Ro B n₀ L0 M w pre U v X) (hw : n₀ ≤ w.heap.size) (hn : n₀ ≤ L0) (hB : n₀ ≤ B) (st : Stp B v.ownBlock X Y) (Ls : List Nat) (hL : ∀ b ∈ Ls, b < L0 ∧ b ≠ B) (K : Nat) : KeepsFrom K X Y ∧ zdg n₀ Ls U X Y := by
 have hne : ∀ k, k < L0 → v.ownBlock ≠ some k := fun k hk e => by have := (zdz h.own k e).1; omega
 refine ⟨⟨st.size, fun k o _ hk ho => (st.block k (zbj hk) (fun e => ?_) (fun e => ?_)).trans hk⟩, ⟨⟨st.os, st.tape, st.output, st.size, fun k hk => st.block k (by have := h.low.size; omega) (by omega) (hne k (by omega))⟩, fun b hb hlt => st.block b hlt (hL b hb).2 (hne b (hL b hb).1)⟩, st.size, fun k hk hlt => st.block k hlt (fun e => h.far (by rw [← e]; exact hk)) (fun e => h.vfar k e hk)⟩
 ·rw [e, h.box] at hk
  injection hk with hk
  rw [← hk] at ho
  cases ho
 ·obtain ⟨_, _, c, fr, hc⟩ := zdz h.own k e
  rw [hc] at hk
  injection hk with hk
  rw [← hk] at ho
  cases ho
theorem paths_calls (A : Option Addr) (c : Nat) (xs : List Nd) (node n : Int) (w : World) (hC : Kd.C kN w A xs.length xs) (hf : FitG xs) :
  Calls Try.prog 10 #[.agg #[.slice A xs.length c], .int .i64 node, .int .i64 n] w fun e w' =>
   ∃ v ys ec, e = .returned (.tuple #[v, .int .i64 ec]) ∧ w'.ownsRow w.heap.size TR 1 v ys.length (ys.map Prod.fst) ∧ (∀ y ∈ ys, zcu w.heap.size w' y.1 y.2) ∧ Below w.heap.size w w' ∧ ys.length ≤ 4000 ∧
    (ec = 0 ∧ ys.map (·.2) = zd9 xs node n ∨ ec = 15 ∧ ys = [] ∧ 4000 < (zd9 xs node n).length) := by
 obtain ⟨W1, hW1⟩ : ∃ X, w.alloc (.cells #[.slice A xs.length c] TG) = X := ⟨_, rfl⟩
 have b1 : W1.heap[w.heap.size]? = some (.cells #[.slice A xs.length c] TG (0, 0)) := by rw [← hW1]; exact zbp _ _
 have e1 : Below w.heap.size w W1 := by rw [← hW1]; exact (Below.refl _ _).alloc (Nat.le_refl _) _
 have c1 : W1.cell? ⟨w.heap.size, 0, none⟩ = some (.slice A xs.length c) := zaf b1 0
 have hcan := can_calls A c xs.length node n W1 hf.len
 refine (callsIn_wide (n := 3)).1 ?_
 refine callsIn_of_wp_marks Try.func10 rfl trivial ?_ rfl
 simp only [Try.ntmps10, List.size_toArray, List.length_cons, List.length_nil, Nat.reduceAdd, Nat.reduceSub, Array.replicate_succ, Array.replicate_zero, List.push_toArray, List.append_toArray, List.nil_append, List.cons_append]
 by_cases hcn : 0 ≤ node ∧ node < (xs.length : Int) ∧ 0 ≤ n ∧ n ≤ 64
 ·have ecn : decide (0 ≤ node ∧ node < (xs.length : Int) ∧ 0 ≤ n ∧ n ≤ 64) = true := decide_eq_true hcn
  rw [ecn] at hcan
  obtain ⟨n0, n1, n2, n3⟩ := hcn
  obtain ⟨m, rfl⟩ : ∃ m : Nat, n = (m : Int) := ⟨n.toNat, by omega⟩
  have hm : m ≤ 64 := by omega
  have HP : Hid (zd9 xs node (m : Int) = zco xs m [node]) := Lib.hid (by
   unfold zd9
   rw [if_pos ⟨n0, n1, n2, n3⟩, Int.toNat_natCast])
  have HLn : Hid (((zco xs m [node]).length : Int) = wR xs m node) := Lib.hid (by rw [walkR_len]; rfl)
  clear ecn
  gi_wp2
  refine ⟨trivial, (callsIn_wide.2 hcan).mono ?_⟩
  rintro e W2 ⟨rfl, hb2⟩
  have b2 := zax b1 hb2
  have e2 : Below w.heap.size w W2 := e1.trans (hb2.mono e1.size)
  have c2 : W2.cell? ⟨w.heap.size, 0, none⟩ = some (.slice A xs.length c) := zaf b2 0
  have hcnt := count_calls A c xs node m W2 (Kd.za4 hC e2) hf n0 n1 hm
  clear b1 e1 c1 hb2 hW1 hcan
  gi_wp2
  refine ⟨trivial, (callsIn_wide.2 hcnt).mono ?_⟩
  rintro e W3 ⟨r, rfl, r0, rz, rd, rl, hb3⟩
  have b3 := zax b2 hb3
  have e3 : Below w.heap.size w W3 := e2.trans (hb3.mono e2.size)
  clear b2 e2 c2 hb3 hcnt
  by_cases h4 : 4000 < r
  ·have HDD : Hid (4000 < (zd9 xs node (m : Int)).length) := Lib.hid (by rw [HP.out]; have h1 := HLn.out; omega)
   clear rd
   gi_wp2
   exact ⟨_, results_tmp2 rfl _ _ _, _, [], 15, rfl, World.ownsRow_nil _ _ _ _, (fun y hy => nomatch hy), e3, by decide, .inr ⟨rfl, rfl, HDD.out⟩⟩
  ·clear rd
   by_cases hz : r = 0
   ·have HZ : Hid ([] = zco xs m [node]) := Lib.hid (by
     have h1 := HLn.out
     have h2 := rl (by omega)
     have h3 := zea xs m node
     exact (List.eq_nil_of_length_eq_zero (by omega)).symm)
    subst hz;clear rl rz
    gi_wp2
    exact ⟨_, results_tmp2 rfl _ _ _, _, [], 0, rfl, World.ownsRow_nil _ _ _ _, (fun y hy => nomatch hy), e3, by decide, .inl ⟨rfl, by rw [HP.out, ← HZ.out]; rfl⟩⟩
   ·have HM : Hid ((zco xs m [node]).length ≤ 4000) := Lib.hid (by
     have h1 := HLn.out
     have h2 := rl (by omega)
     omega)
    clear rl rz
    have c3 : W3.cell? ⟨w.heap.size, 0, none⟩ = some (.slice A xs.length c) := zaf b3 0
    obtain ⟨W4, hW4⟩ : ∃ X, W3.alloc (.cells #[.slice none 0 0] TRR) = X := ⟨_, rfl⟩
    have b4 : W4.heap[w.heap.size]? = some (.cells #[.slice A xs.length c] TG (0, 0)) := by rw [← hW4]; exact zad b3 _
    have c4 : W4.cell? ⟨w.heap.size, 0, none⟩ = some (.slice A xs.length c) := zaf b4 0
    have hway := ways_calls A xs.length c m node W4
    have e4 : Below w.heap.size w W4 := by rw [← hW4]; exact e3.alloc e3.size _
    have B4 : W4.heap[W3.heap.size]? = some (.cells #[.slice none 0 0] TRR (0, 0)) := by rw [← hW4]; exact zbp _ _
    have hB : w.heap.size ≤ W3.heap.size := e3.size
    obtain ⟨B, hBd⟩ : ∃ B, W3.heap.size = B := ⟨_, rfl⟩
    have z4 : W4.heap.size = B + 1 := by rw [← hW4, World.size_alloc, hBd]
    rw [hBd] at B4 hB
    have H4 := Lib.hid h4
    have HZ0 := Lib.hid hz
    have E3 := Lib.hid e3
    clear b3 e3
    gi_wp2
    clear hW4 hBd c3 c4 E3
    refine ⟨trivial, (callsIn_wide.2 hway).mono ?_⟩
    rintro e W5 ⟨bn, bg, bo, rfl, f1, f2, f3, hb5⟩
    have e5 : Below w.heap.size w W5 := e4.trans (hb5.mono e4.size)
    have B5 := zax B4 hb5
    have hseq : SeqU 2 Try.prog 52 #[.pointer (some ⟨bn, 0, none⟩), .pointer (some ⟨bg, 0, none⟩), .pointer (some ⟨bo, 0, none⟩)] encR w.heap.size [bn, bg] (Out w.heap.size) (fun ys => ys.map (·.2) = zco xs m [node]) 4000 W5 := ways_seq rfl hC hf hm n0 n1 e5 f1 f2 f3 HM.out
    have heg : ∀ args w, (callFunc 52 args).run Try.prog w = .ok (.enter 52 args) w := enters_of Try.func52 (by kernel_rfl) rfl
    have HS := Lib.hid hseq
    have HE := Lib.hid heg
    have hL : ∀ b ∈ [bn, bg], b < W5.heap.size ∧ b ≠ B := fun b hb => by
     rcases List.mem_cons.1 hb with rfl | hb
     ·refine ⟨zbj f1, fun e => ?_⟩
      rw [e, B5] at f1
      injection f1 with f1
      injection f1 with _ f1 _
      exact absurd f1 (by decide)
     ·obtain rfl := List.mem_singleton.1 hb
      refine ⟨zbj f2, fun e => ?_⟩
      rw [e, B5] at f2
      injection f2 with f2
      injection f2 with _ f2 _
      exact absurd f2 (by decide)
    have HL := Lib.hid hL
    have hR0 : Ro B w.heap.size W5.heap.size 4000 w [] (fun _ => False) (.slice none 0 0) W5 := ⟨B5, id, World.ownsRow_nil _ _ _ _, fun _ _ => id, (fun y hy => nomatch hy), by decide, Nat.le_refl _, e5, fun _ h => h.elim⟩
    have hn5 := e5.size
    obtain ⟨i0, hi, hzz⟩ := Option.map_eq_some_iff.1 infoR
    simp only [Prod.mk.injEq] at hzz
    obtain ⟨hz0, hz1, hz2⟩ := hzz
    clear hseq heg hway b4 e4 B4 hb5 f1 f2 f3 hL
    gi_wp2
    refine rangeU (gf := 52) (lb := #[.pointer (some ⟨bn, 0, none⟩), .pointer (some ⟨bg, 0, none⟩), .pointer (some ⟨bo, 0, none⟩)]) rfl HE.out HS.out hn5 (fun b hb => (HL.out b hb).1) (Turn.refl _ _ _) (fun _ => rfl)
     (fun pre U X => ∃ v, Ro B w.heap.size W5.heap.size 4000 w pre U v X) ?hI ⟨_, hR0⟩
     (fun x U a' X => Out w.heap.size x U X ∧ a' = Act.mk #[.agg #[.slice A xs.length c], .int .i64 node, .int .i64 (m : Int), .pointer (some ⟨w.heap.size, 0, none⟩), undef, undef, .slice none 0 0, .int .i64 0, .int .i64 r, .pointer (some ⟨B, 0, none⟩), x.1, .agg #[.slice A xs.length c], .int .i64 node, .int .i64 (m : Int), .bool true, .bool false, .agg #[.slice A xs.length c], .int .i64 node, .int .i64 (m : Int), .int .i64 r, .bool (decide (4000 < r)), .int .i64 r, .bool (decide (4000 < r)), .bool false, .int .i64 r, .bool false, .agg #[.slice A xs.length c], .int .i64 node, .int .i64 (m : Int), .func (.func 52) #[] #[.pointer (some ⟨bn, 0, none⟩), .pointer (some ⟨bg, 0, none⟩), .pointer (some ⟨bo, 0, none⟩)], x.1, undef, undef, undef, undef, undef] []) ?hAx ?assign ?body ?done
    case hI => exact ⟨fun s U X Y ⟨v, h⟩ ht => ⟨v, h.turn ht (Nat.le_refl _) hn5⟩, fun s U V X ⟨v, h⟩ hV => ⟨v, h.more (Nat.le_refl _) hV⟩⟩
    case hAx =>
     rintro x U a' X Y ⟨⟨h1, h2, h3⟩, h4⟩ ht
     exact ⟨⟨zh6 h1 ht (fun _ _ h => h), h2, fun k hk => Nat.lt_of_lt_of_le (h3 k hk) ht.size⟩, h4⟩
    case assign =>
     rintro l pre x U X K ⟨v, h⟩ hD hK
     simp only [encR]
     gi_wp2
     exact hK _ _ (KeepsFrom.refl _ _) (zdg.refl _ _ _ _) ⟨v, h⟩ ⟨hD, rfl⟩
    case body =>
     rintro l pre x U a' X hl hr ⟨v, h⟩ ⟨hD, rfl⟩ hpre
     have hbx : Boxed X B TRR v := h.box
     have cv := hbx.cell
     have H1 : Hid (∀ u ∈ [x.1], u.oneCell' = true) := Lib.hid (fun u hu => by rw [List.mem_singleton.1 hu]; exact row_one hD.1)
     have HM2 : Hid (maxLen = 9223372036854775807) := Lib.hid rfl
     have hsz := h.size
     have HR := Lib.hid h
     have HD := Lib.hid hD
     have HX : Hid (∀ j u, [x.1][j]? = some u → (X.alloc (.cells #[x.1] TR)).cell? ((⟨X.heap.size, 0, none⟩ : Addr).add j) = some u) := Lib.hid (cell_one_new _ _ _)
     have hown : (X.alloc (.cells #[x.1] TR)).ownsRow W5.heap.size TR 1 v pre.length (pre.map (·.1)) := h.own.alloc _
     obtain ⟨x1, x2⟩ := x
     obtain ⟨xa, xk, xc, hx1⟩ : ∃ xa xk xc, x1 = .slice xa xk xc := by
      rcases hD.1.2 with ⟨hv, _⟩ | ⟨g, cap, cur, hv, _⟩
      ·exact ⟨_, _, _, hv⟩
      ·exact ⟨_, _, _, hv⟩
     subst hx1;clear hr hD h
     gi_wp2_with (gi_at_builtin; refine zhc _ rfl _ _ 27 rfl W5.heap.size TR i0 (.slice none 0 0) 1 24 Try.underlying27 hi hz0 hz1 hz2 rfl (by decide) _ _ _ rfl hown ⟨X.heap.size, 0, none⟩ 1 1 [.slice xa xk xc] rfl rfl HX.out H1.out (by have := HM2.out; omega) (by omega) (by rw [World.size_alloc]; omega) ?_; intro v' w1 hown' hgrow hat; obtain ⟨g', cap', rfl⟩ := ownsRow_succ hown'; have hB1 : Boxed w1 B TRR v := (hbx.alloc _).kept hgrow ((hbx.alloc _).not_row (by decide) hown); have hc1 := hB1.cell; have hf1 := hB1.frozen)
     have hk := Stp.keeps HR.out (Nat.le_refl _) hn5 hB (Stp.of (v' := .slice (some ⟨g', 0, none⟩) (pre.length + 1) cap') rfl hgrow) [bn, bg] HL.out W5.heap.size
     exact ⟨hk.1, hk.2, _, HR.out.step (Nat.le_refl _) hn5 hB HD.out rfl hgrow hown' hat hB1 hpre⟩
    case done =>
     rintro D ys U X hD hS ⟨v, h⟩ hK'
     have cv := Boxed.cell h.box
     have HS2 := Lib.hid hS
     clear hS
     gi_wp2
     refine ⟨by simp, .inl ⟨_, _, rfl, run_takeDeferred hK', ?_⟩⟩
     exact ⟨_, results_tmp2 rfl _ _ _, v, ys, 0, rfl, zgp (ownsRow_putObj h.own _ hK' rfl) hn5, fun y hy => ownsRow_putObj (h.rows y hy).1 _ hK' rfl, h.low.trans (belowK_b (w := w) (Nat.le_refl _) X D _ _ (by omega) hK' rfl rfl), h.few, .inl ⟨rfl, by rw [HP.out]; exact HS2.out⟩⟩
 ·have ecn : decide (0 ≤ node ∧ node < (xs.length : Int) ∧ 0 ≤ n ∧ n ≤ 64) = false := decide_eq_false hcn
  rw [ecn] at hcan
  have HP : Hid ([] = zd9 xs node n) := Lib.hid (by
   unfold zd9
   rw [if_neg hcn])
  clear ecn hcn
  gi_wp2
  refine ⟨trivial, (callsIn_wide.2 hcan).mono ?_⟩
  rintro e W2 ⟨rfl, hb2⟩
  have e2 : Below w.heap.size w W2 := e1.trans (hb2.mono e1.size)
  clear b1 e1 c1 hb2 hW1 hcan
  gi_wp2
  exact ⟨_, results_tmp2 rfl _ _ _, _, [], 0, rfl, World.ownsRow_nil _ _ _ _, (fun y hy => nomatch hy), e2, by decide, .inl ⟨rfl, HP.out⟩⟩
end Go.Proofs.ZZ.GPaths
end
section
namespace Go.Proofs.ZZ.PNew
open Go.RowKit Go.Proofs.ZW.PrintWords Go.Proofs.ZW.PrintLast Go.Proofs.ZW.PrintMore
attribute [local go_sem] zch zct
structure S38 where
 f0 : Int
 f1 : Int
 f2 : (List Int)
def z38 : S38 := ⟨(0 : Int), (0 : Int), ([] : List Int)⟩
def k38 : Kd S38 := Kd.iso (Kd.pair (Kd.int .i64) (Kd.pair (Kd.int .i64) (Kd.slice 3 (Kd.int .i64)))) (fun x : S38 => (x.f0, x.f1, x.f2))
theorem zhi (w : World) (base : Nat) (ok : Nat → Prop) (x : S38) {v2 : Value} (g2 : (Kd.int .i64).R 3 w base ok v2 x.f2) : k38.M w base ok x [.int .i64 x.f0, .int .i64 x.f1, v2] := ⟨[.int .i64 x.f0], [.int .i64 x.f1, v2], rfl, rfl, ⟨[.int .i64 x.f1], [v2], rfl, rfl, ⟨v2, rfl, g2⟩⟩⟩
def zaa (xs : List S38) (i : Int) : S38 := xs.getD i.toNat z38
theorem Yb_PNewx1_0 {n : Nat} {w w' : World} (h : Below n w w' := by repeat (first | (with_reducible first | exact HB.out | apply za8 | apply za2 | apply zav | refine zau ?_ GE101.out) | exact HB.out)) : Below n w w' := h
def zcg.f (a0 : Int) : Option (Bool) := if a0 ≥ 0 then (some (decide (a0 ≤ 65535))) else (some false)
theorem zcg.calls (a0 : Int) (r : Bool) (w : World) (h : zcg.f a0 = some r) :
  Calls Try.prog 37 #[.int .i64 a0] w fun e w' => e = .returned (.bool r) ∧ zbc w w' := by
 have H : (if a0 ≥ 0 then (some (decide (a0 ≤ 65535))) else (some false)) = some r := h
 clear h
 by_cases c2 : a0 ≥ 0
 ·rw [if_pos c2] at H
  have c2b0 := decide_eq_true c2
  clear c2;obtain rfl := Option.some.inj H
  go_enter Try.func37, Try.ntmps37
  go_wp2;go_ret
  exact ⟨Yfs, by repeat (first | exact zbc.refl _ | apply zbc.step)⟩
 ·rw [if_neg c2] at H
  have c2b0 := decide_eq_false c2
  clear c2;obtain rfl := Option.some.inj H
  go_enter Try.func37, Try.ntmps37
  go_wp2;go_ret
  exact ⟨Yfs, by repeat (first | exact zbc.refl _ | apply zbc.step)⟩
def zhh.f (a0 : Int) : Option ((List (S38))) := (zcg.f a0).bind fun t102 => (if t102 = true then (some (([(⟨a0, 0, ([] : List Int)⟩ : S38)] : List (S38)))) else (some ([] : List (S38))))
theorem zhh.calls (a0 : Int) (r : List (S38)) (w : World) (h : zhh.f a0 = some r) :
  Calls Try.prog 21 #[.int .i64 a0] w fun e w' => ∃ v0_ : Value, e = .returned (.agg #[v0_]) ∧ Kd.R k38 38 w' w.heap.size (fun _ => True) v0_ r ∧ Below w.heap.size w w' := by
 have hu24 := Try.underlying24
 have hu38 := Try.underlying38
 have HB := zab.mk (Below.refl w.heap.size w)
 have H : ((zcg.f a0).bind fun t102 => (if t102 = true then (some (([(⟨a0, 0, ([] : List Int)⟩ : S38)] : List (S38)))) else (some ([] : List (S38))))) = some r := h
 clear h;replace H := Option.bind_eq_some_iff.mp H
 obtain ⟨t102, A20, H⟩ := H
 replace H : (if t102 = true then (some (([(⟨a0, 0, ([] : List Int)⟩ : S38)] : List (S38)))) else (some ([] : List (S38)))) = some r := H
 have A2 := zab.mk A20;clear A20
 by_cases c3 : t102 = true
 ·subst c3
  have H1 : (some (([(⟨a0, 0, ([] : List Int)⟩ : S38)] : List (S38)))) = some r := by rw [if_pos rfl] at H; exact H
  clear H;have H := H1;clear H1
  obtain ⟨y103, hy103⟩ : ∃ y_ : List (S38), y_ = (([(⟨a0, 0, ([] : List Int)⟩ : S38)] : List (S38))) := ⟨_, rfl⟩
  replace H : (some y103) = some r := by first | (rw [hy103]; with_reducible exact H) | (have H2_ := (Option.bind_some _ _).symm.trans H; rw [hy103]; with_reducible exact H2_) | (have H2_ := (Option.bind_some _ _).symm.trans H; with_reducible exact H2_) | with_reducible exact H | (rw [hy103]; exact H) | exact H
  have Ny103 := zab.mk hy103;clear hy103;obtain rfl := Option.some.inj H
  go_enter Try.func21, Try.ntmps21
  go_wp2_with (first | ((with_reducible refine zbb (N := 2) rfl ?_); refine Ybx 2 #[.slice none 0 0] 24 ?_; intro gb101 hg w4 hbox hb; obtain ⟨BK101, GW101, GE101, HB⟩ := Yb4 hbox hg hb Ybe; clear hb hbox hg) | ((with_reducible refine za6 (f := 37) rfl ?_); refine Ygl (some 4) Try.func37 #[.int .i64 a0] ?_; (with_reducible refine (zcg.calls a0 true _ A2.out).mono ?_); rintro e w' ⟨rfl, ⟨nd, rfl⟩⟩; refine ⟨_, rfl, ?_⟩; (try (rw [zia w4]; generalize hq_ : World.drewN w4 _ = w4; have n0_ : zab (w4.heap[gb101]? = some (.cells #[.slice none 0 0] 24 (0, 0))) := ⟨by rw [← hq_]; exact (Yg BK101)⟩; have n1_ : zab (Below w.heap.size w w4) := ⟨by rw [← hq_]; exact Yb_PNewx1_0⟩; clear BK101 HB hq_; have BK101 := n0_; have HB := n1_; clear n0_ n1_))) | ((with_reducible refine zbb (N := 9) rfl ?_); refine Kd.R_lit k38 _ 38 ?hg (N := 9) ?hd (xs := ([(⟨a0, 0, ([] : List Int)⟩ : S38)] : List (S38))) (inner := [.int .i64 a0, .int .i64 0, .slice none 0 0]) (ok := fun _ => True) (okp := fun _ => True) ?hr ?hp (fun _ hk => hk) trivial (Below.refl _ _) (Nat.le_refl _) (by simp) ?_; (case hd => rfl); (case hg => rfl); (case hr => first | (go_simp; done) | (go_simp; rfl)); (case hp => exact (Reps.c3 (show Kd.M k38 _ _ _ (⟨a0, 0, ([] : List Int)⟩ : S38) [.int .i64 a0, .int .i64 0, .slice none 0 0] from (zhi _ _ _ (⟨a0, 0, ([] : List Int)⟩ : S38) (Kd.zef _ _ _ _ _))) (Reps.none _ _))); intro v104 w5 ho6 hb hg_ hnew_; clear hg_ hnew_; (first | rw [← Ny103.out] at ho6 | (simp only [Int.reduceToNat] at ho6; rw [← Ny103.out] at ho6)); have HO105 := zab.mk (Kd.zde ho6 (za7 Yb_PNewx1_0)); replace BK101 := Ykb BK101 hb; replace HB := zab.mk (za1 Yb_PNewx1_0 hb); clear hb ho6; obtain ⟨Ao7, co7, eo7⟩ := Kd.zcf HO105.out; subst eo7; obtain ⟨hcz8_0, hfz8_0⟩ := Yc1 BK101.out))
  refine bodyPost_ret (results_cell_row rfl _ _ gb101 24 #[.slice Ao7 y103.length co7] (0, 0) _ rfl (by (with_reducible repeat (first | refine zae ?_ _ | refine zac ?_ | refine zad ?_ _)); refine zas (cs := #[.slice none 0 0]) ?_ 0 _ rfl; (with_reducible repeat (first | refine zae ?_ _ | refine zac ?_ | refine zad ?_ _)); exact BK101.out) Try.underlying24 rfl (by kernel_rfl)) rfl ?_
  exact ⟨_, by first | rfl | (simp [errW_none, errW_some] <;> rfl) | (simp [*, errW_none, errW_some] <;> rfl), by (with_reducible repeat (first | apply Kd.zc1 | apply Kd.R_drewN | apply Kd.zdj)); exact Kd.zbw (Kd.zeb (p := ⟨gb101, 0, none⟩) (Kd.zdn HO105.out BK101.out (by decide)) (fun _ hk => hk.2) (.slice Ao7 y103.length co7)) (fun _ hk => trivial), Yb_PNewx1_0⟩
 ·replace c3 := Bool.eq_false_iff.mpr c3
  subst c3
  have H1 : (some ([] : List (S38))) = some r := by rw [if_neg (show ¬ (false = true) by decide)] at H; exact H
  clear H;have H := H1;clear H1;obtain rfl := Option.some.inj H
  go_enter Try.func21, Try.ntmps21
  go_wp2_with (first | ((with_reducible refine zbb (N := 2) rfl ?_); refine Ybx 2 #[.slice none 0 0] 24 ?_; intro gb101 hg w9 hbox hb; obtain ⟨BK101, GW101, GE101, HB⟩ := Yb4 hbox hg hb Ybe; clear hb hbox hg) | ((with_reducible refine za6 (f := 37) rfl ?_); refine Ygl (some 4) Try.func37 #[.int .i64 a0] ?_; (with_reducible refine (zcg.calls a0 false _ A2.out).mono ?_); rintro e w' ⟨rfl, ⟨nd, rfl⟩⟩; refine ⟨_, rfl, ?_⟩; (try (rw [zia w9]; generalize hq_ : World.drewN w9 _ = w9; have n0_ : zab (w9.heap[gb101]? = some (.cells #[.slice none 0 0] 24 (0, 0))) := ⟨by rw [← hq_]; exact (Yg BK101)⟩; have n1_ : zab (Below w.heap.size w w9) := ⟨by rw [← hq_]; exact Yb_PNewx1_0⟩; clear BK101 HB hq_; have BK101 := n0_; have HB := n1_; clear n0_ n1_)); obtain ⟨hcz10_0, hfz10_0⟩ := Yc1 BK101.out))
  refine bodyPost_ret (results_cell_row rfl _ _ gb101 24 #[.slice none 0 0] (0, 0) _ rfl (by (with_reducible repeat (first | refine zae ?_ _ | refine zac ?_ | refine zad ?_ _)); refine zas (cs := #[.slice none 0 0]) ?_ 0 _ rfl; (with_reducible repeat (first | refine zae ?_ _ | refine zac ?_ | refine zad ?_ _)); exact BK101.out) Try.underlying24 rfl (by kernel_rfl)) rfl ?_
  exact ⟨_, by first | rfl | (simp [errW_none, errW_some] <;> rfl) | (simp [*, errW_none, errW_some] <;> rfl), by first | exact Kd.zef _ _ _ _ _ | exact Kd.N_nil _ _ _ _ _ | exact Kd.V_nil _ _ _ _ _ | exact Kd.Q_nil _ _ _ _ _ | exact Kd.S_nil _ _ _ _ _, Yb_PNewx1_0⟩
end Go.Proofs.ZZ.PNew
end
