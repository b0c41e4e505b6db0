import Derived.RangeFuncNested
import Derived.RangeFuncBound
import Derived.RangeFuncCalls
import Derived.RangeFuncLeaves
import Derived.RangeFuncBox
import Derived.Deep.LoopGhost
import Derived.Maps.AppendAt
import Derived.TacticsInMore
import Derived.LoopNIn
import Derived.LoopIn
import Derived.OwnWalkIn
import Derived.Laws.EntriesVeiled
import Derived.Test.YtkfjhkkbbcpjjaaProg
import Derived.Below
import Derived.Deep.Draws
import Derived.Deep.AppendLies
import Derived.OwnWalk
import Derived.Laws.BytesArg
import Derived.Laws.MakeOwn
import Derived.Laws.OwnMore
import Derived.Deep.OwnRows
import Derived.Tactics
import Derived.Lib.ConvBytes
import Derived.Laws.Slices
import Derived.WalkKit
import Derived.KernelRfl
import Derived.RowKit3
import Derived.Deep.QuietTactic
import Derived.BigQuiet
import Derived.WideLaws
import Derived.Deep.DeepCutAuto
import Derived.Deep.CutBlock
import Derived.Deep.RegionHeld3
import Derived.Laws.Rows
import Derived.Lib.AppendStr
import Derived.ArgAppend
import Derived.Laws.IdiomCopy
import Derived.OrdersHeld
import Derived.Laws.BitsLemmas
import Derived.RowKit
import Derived.Lib.Strings
import Derived.Lib.Bytealg
import Derived.Lib.Slices
import Derived.Lib.Walk
import Derived.Test.YtkfjhkkbbcpjjaaPackGssKeeps1
set_option linter.unusedVariables false
set_option linter.unusedSimpArgs false
set_option maxRecDepth 100000
set_option maxHeartbeats 8000000
section
namespace Go.Proofs.ZZ.GFind
open Go Go.RowKit Go.Shelf Go.Maps Go.Proofs.ZW.PrintWords Go.Proofs.ZW.PrintLast Go.Proofs.ZZ.GMap Go.Proofs.ZZ.GK Go.Proofs.ZZ.G16 Go.Proofs.ZZ.GGr Go.Proofs.ZZ.GAdd Go.Proofs.ZZ.GTop
def zdn (s a : Int) : Nat → List Nd → Int
 | _, [] => -1
 | i, x :: t => if x.1 = s ∧ x.2.1 = a then (i : Int) else zdn s a (i + 1) t
def zb2 (xs : List Nd) (s a : Int) : Int := zdn s a 0 xs
theorem findF_hit {s a : Int} {xs : List Nd} {j : Nat} {x : Nd} (hj : xs[j]? = some x) (hx : x.1 = s ∧ x.2.1 = a) (hn : ∀ (t : Nat) y, t < j → xs[t]? = some y → ¬ (y.1 = s ∧ y.2.1 = a)) : ∀ i, zdn s a i xs = ((i + j : Nat) : Int) := by
 induction xs generalizing j with
 | nil => simp at hj
 | cons y t ih =>
  intro i
  cases j with
  | zero =>
   obtain rfl : y = x := by simpa using hj
   simp only [zdn]
   rw [if_pos hx]
   rfl
  | succ j =>
   simp only [zdn]
   rw [if_neg (hn 0 y (Nat.succ_pos _) rfl), ih (j := j) (by simpa using hj) (fun q z hq hz => hn (q + 1) z (by omega) (by simpa using hz))]
   congr 1
   omega
theorem zev {s a : Int} : ∀ {xs : List Nd} (i : Nat), (∀ (t : Nat) y, xs[t]? = some y → ¬ (y.1 = s ∧ y.2.1 = a)) → zdn s a i xs = -1
 | [], _, _ => rfl
 | x :: t, i, h => by
  simp only [zdn]
  rw [if_neg (h 0 x rfl)]
  exact zev (i + 1) (fun q y hq => h (q + 1) y (by simpa using hq))
theorem zei (xs : List Nd) (s a : Int) : zb2 xs s a = if (a, s) ∈ marks xs then idx (marks xs) (a, s) else -1 := by
 unfold zb2
 split
 ·rename_i hm
  have hl : (marks xs).findIdx (· == (a, s)) < (marks xs).length := List.findIdx_lt_length_of_exists ⟨_, hm, by simp⟩
  obtain ⟨j, hj⟩ : ∃ j, (marks xs).findIdx (· == (a, s)) = j := ⟨_, rfl⟩
  rw [hj] at hl
  have hlx : j < xs.length := by rwa [zcf] at hl
  have h1 : (marks xs)[j] = (a, s) := by
   have := List.findIdx_getElem (w := by rw [hj]; exact hl) (xs := marks xs) (p := (· == (a, s)))
   simp only [hj] at this
   simpa using this
  have h2 : mrk xs[j] = (a, s) := by rw [← h1]; simp [marks]
  have h3 := Prod.mk.inj (show ((xs[j]).2.1, (xs[j]).1) = (a, s) from h2)
  rw [findF_hit (List.getElem?_eq_getElem hlx) ⟨h3.2, h3.1⟩ (fun t y ht hy hyy => ?_) 0]
  ·unfold idx
   rw [hj, Nat.zero_add]
  ·have hn := List.not_of_lt_findIdx (xs := marks xs) (p := (· == (a, s))) (i := t) (by rw [hj]; exact ht)
   have htl : t < xs.length := (List.getElem?_eq_some_iff.1 hy).1
   have e : (marks xs)[t]'(by rw [zcf]; exact htl) = (a, s) := by
    have := (List.getElem?_eq_some_iff.1 hy).2
    simp only [marks, List.getElem_map, this, mrk, hyy.1, hyy.2]
   rw [e] at hn
   simp at hn
 ·rename_i hm
  refine zev 0 (fun t y hy hyy => hm ?_)
  exact List.mem_map.2 ⟨y, List.mem_of_getElem? hy, by simp [mrk, hyy.1, hyy.2]⟩
theorem find1_calls (bs ba : Nat) (s a : Int) (x : Nd) (A2 : Option Addr) (n2 c2 : Nat) (W : World) (hs : W.heap[bs]? = some (.cells #[.int .i64 s] TI (0, 0))) (ha : W.heap[ba]? = some (.cells #[.int .i64 a] TI (0, 0))) :
  Calls Try.prog 51 #[.agg #[.int .i64 x.1, .int .i64 x.2.1, .slice A2 n2 c2], .pointer (some ⟨bs, 0, none⟩), .pointer (some ⟨ba, 0, none⟩)] W fun e W' => e = .returned (.bool (decide (x.1 = s ∧ x.2.1 = a))) ∧ Below W.heap.size W W' := by
 obtain ⟨W1, hW1⟩ : ∃ X, W.alloc (.cells #[.int .i64 x.1, .int .i64 x.2.1, .slice A2 n2 c2] TN) = X := ⟨_, rfl⟩
 have bx : W1.heap[W.heap.size]? = some (.cells #[.int .i64 x.1, .int .i64 x.2.1, .slice A2 n2 c2] TN (0, 0)) := by rw [← hW1]; exact za3 _ _
 have x0 : W1.cell? ⟨W.heap.size, 0, none⟩ = some (.int .i64 x.1) := zae bx 0
 have x1 : W1.cell? ⟨W.heap.size, 1, none⟩ = some (.int .i64 x.2.1) := zae bx 1
 have cs : W1.cell? ⟨bs, 0, none⟩ = some (.int .i64 s) := by rw [← hW1]; exact zae (zai hs _) 0
 have ca : W1.cell? ⟨ba, 0, none⟩ = some (.int .i64 a) := by rw [← hW1]; exact zae (zai ha _) 0
 have hb : Below W.heap.size W W1 := by rw [← hW1]; exact (Below.refl _ _).alloc (Nat.le_refl _) _
 clear hs ha bx
 by_cases h1 : x.1 = s
 ·have q1 : (x.1 == s) = true := by simpa using h1
  by_cases h2 : x.2.1 = a
  ·have q2 : (x.2.1 == a) = true := by simpa using h2
   have e : decide (x.1 = s ∧ x.2.1 = a) = true := decide_eq_true ⟨h1, h2⟩
   rw [e]
   clear h1 h2 e
   go_enter Try.func51, Try.ntmps51
   go_wp2;go_ret
   exact ⟨rfl, hb⟩
  ·have q2 : (x.2.1 == a) = false := by simpa using h2
   have e : decide (x.1 = s ∧ x.2.1 = a) = false := decide_eq_false (fun h => h2 h.2)
   rw [e]
   clear h1 h2 e
   go_enter Try.func51, Try.ntmps51
   go_wp2;go_ret
   exact ⟨rfl, hb⟩
 ·have q1 : (x.1 == s) = false := by simpa using h1
  have e : decide (x.1 = s ∧ x.2.1 = a) = false := decide_eq_false (fun h => h1 h.1)
  rw [e]
  clear h1 e
  go_enter Try.func51, Try.ntmps51
  go_wp2;go_ret
  exact ⟨rfl, hb⟩
theorem index_calls (bs ba : Nat) (s a : Int) (A : Option Addr) (c : Nat) (xs : List Nd) (w : World) (hC : Kd.C kN w A xs.length xs) (hs : w.heap[bs]? = some (.cells #[.int .i64 s] TI (0, 0))) (ha : w.heap[ba]? = some (.cells #[.int .i64 a] TI (0, 0))) :
  Calls Try.prog 50 #[.slice A xs.length c, .func (.func 51) #[] #[.pointer (some ⟨bs, 0, none⟩), .pointer (some ⟨ba, 0, none⟩)]] w fun e w' => e = .returned (.int .i64 (zb2 xs s a)) ∧ Below w.heap.size w w' := by
 have hn : xs.length ≤ 9223372036854775807 := hC.2.1
 have HS := Lib.hid hs
 have HA := Lib.hid ha
 clear hs ha
 go_enter Try.func50, Try.ntmps50
 go_wp2
 go_loopw [8] (fun i wr => ∃ j : Nat, i = .int .i64 (j : Int) ∧ j ≤ xs.length ∧ Hid (∀ (t : Nat) y, t < j → xs[t]? = some y → ¬ (y.1 = s ∧ y.2.1 = a)) ∧ Below w.heap.size w wr) (fun i _ => xs.length - (Go.RowKit.intOf i).toNat)
 case atStart => exact ⟨0, rfl, Nat.zero_le _, Lib.hid (fun t y h => absurd h (Nat.not_lt_zero _)), Below.refl _ _⟩
 case round =>
  obtain ⟨j, rfl, hj, HN, hb⟩ := hrel
  by_cases hlt : j < xs.length
  ·obtain ⟨x, hx⟩ : ∃ x, xs[j]? = some x := ⟨xs[j], List.getElem?_eq_getElem hlt⟩
   obtain ⟨ad, A2, c2, hA2, f0, f1, f2, _, _⟩ := zc2 (Kd.zaz hC hb) hx
   subst hA2
   have hcall := find1_calls bs ba s a x A2 x.2.2.length c2 wr (zaq HS.out hb) (zaq HA.out hb)
   have HX := Lib.hid hx
   clear hx
   by_cases hq : x.1 = s ∧ x.2.1 = a
   ·rw [decide_eq_true hq] at hcall
    have HQ := Lib.hid hq
    clear hq
    go_wp2_with (first
     | (go_at_call 51; refine hcall.mono ?_; rintro e W' ⟨rfl, hb2⟩)
     | go_in)
    go_ret
    refine ⟨?_, hb.trans (hb2.mono hb.size)⟩
    unfold zb2
    rw [findF_hit HX.out HQ.out HN.out 0, Nat.zero_add]
    rfl
   ·rw [decide_eq_false hq] at hcall
    have HQ := Lib.hid hq
    clear hq
    go_wp2_with (first
     | (go_at_call 51; refine hcall.mono ?_; rintro e W' ⟨rfl, hb2⟩)
     | go_in)
    go_roundw
    case rel =>
     refine ⟨j + 1, by first | rfl | go_num, by omega, Lib.hid (fun t y ht hy => ?_), hb.trans (hb2.mono hb.size)⟩
     by_cases et : t = j
     ·subst et
      rw [HX.out] at hy
      cases hy
      exact HQ.out
     ·exact HN.out t y (by omega) hy
    case measure => simp [Go.RowKit.intOf]; omega
  ·obtain rfl : j = xs.length := by omega
   go_wp2;go_ret
   refine ⟨?_, hb⟩
   unfold zb2
   rw [zev 0 (fun t y hy => HN.out t y ((List.getElem?_eq_some_iff.1 hy).1) hy)]
   rfl
theorem zdy (s a : Int) (A : Option Addr) (c : Nat) (xs : List Nd) (w : World) (hC : Kd.C kN w A xs.length xs) :
  Calls Try.prog 29 #[.agg #[.slice A xs.length c], .int .i64 s, .int .i64 a] w fun e w' => e = .returned (.int .i64 (zb2 xs s a)) ∧ Below w.heap.size w w' := by
 obtain ⟨W1, hW1⟩ : ∃ X, w.alloc (.cells #[.slice A xs.length c] TG) = X := ⟨_, rfl⟩
 obtain ⟨W2, hW2⟩ : ∃ X, W1.alloc (.cells #[.int .i64 s] TI) = X := ⟨_, rfl⟩
 obtain ⟨W3, hW3⟩ : ∃ X, W2.alloc (.cells #[.int .i64 a] TI) = X := ⟨_, rfl⟩
 have e1 : Below w.heap.size w W1 := by rw [← hW1]; exact (Below.refl _ _).alloc (Nat.le_refl _) _
 have e2 : Below w.heap.size w W2 := by rw [← hW2]; exact e1.alloc e1.size _
 have e3 : Below w.heap.size w W3 := by rw [← hW3]; exact e2.alloc e2.size _
 have b1 : W3.heap[w.heap.size]? = some (.cells #[.slice A xs.length c] TG (0, 0)) := by rw [← hW3, ← hW2, ← hW1]; exact zai (zai (za3 _ _) _) _
 have b2 : W3.heap[W1.heap.size]? = some (.cells #[.int .i64 s] TI (0, 0)) := by rw [← hW3, ← hW2]; exact zai (za3 _ _) _
 have b3 : W3.heap[W2.heap.size]? = some (.cells #[.int .i64 a] TI (0, 0)) := by rw [← hW3]; exact za3 _ _
 have c1 : W3.cell? ⟨w.heap.size, 0, none⟩ = some (.slice A xs.length c) := zae b1 0
 have hix := index_calls W1.heap.size W2.heap.size s a A c xs W3 (Kd.zaz hC e3) b2 b3
 clear b1 b2 b3 e1 e2 hC
 go_enter Try.func29, Try.ntmps29
 go_wp2_with (first
  | (go_at_call 50; go_loud (refine hix.mono ?_; rintro e W' ⟨rfl, hb⟩))
  | go_in)
 go_ret
 exact ⟨rfl, e3.trans (hb.mono e3.size)⟩
end Go.Proofs.ZZ.GFind
end
section
namespace Go.Proofs.ZZ.GPush
open Go Go.RowKit Go.Shelf Go.Maps Go.Proofs.ZW.PrintWords Go.Proofs.ZW.PrintLast Go.Proofs.ZZ.GMap Go.Proofs.ZZ.GK Go.Proofs.ZZ.G16 Go.Proofs.ZZ.GGr Go.Proofs.ZZ.GAdd Go.Proofs.ZZ.GTop Go.Proofs.ZZ.GStk Go.Proofs.ZZ.GFind
theorem num_calls (n : Int) (W : World) : Calls Try.prog 37 #[.int .i64 n] W fun e w' => e = .returned (.bool (decide (0 ≤ n ∧ n ≤ 65535))) ∧ w' = W := by
  by_cases h1 : 0 ≤ n
  · by_cases h2 : n ≤ 65535
    · have e : decide (0 ≤ n ∧ n ≤ 65535) = true := decide_eq_true ⟨h1, h2⟩
      rw [e]
      clear e
      go_enter Try.func37, Try.ntmps37
      go_wp2;go_ret
      exact ⟨by simp [h1, h2], rfl⟩
    · have e : decide (0 ≤ n ∧ n ≤ 65535) = false := decide_eq_false (fun h => h2 h.2)
      rw [e]
      clear e
      go_enter Try.func37, Try.ntmps37
      go_wp2;go_ret
      exact ⟨by simp [h1, h2], rfl⟩
  · have e : decide (0 ≤ n ∧ n ≤ 65535) = false := decide_eq_false (fun h => h1 h.1)
    rw [e]
    clear e
    go_enter Try.func37, Try.ntmps37
    go_wp2;go_ret
    exact ⟨by simp [h1], rfl⟩
theorem atI {w : World} {A : Option Addr} {n : Nat} {l : List Int} (h : Kd.C (Kd.int .i64) w A n l) {k : Nat} {x : Int} (hk : l[k]? = some x) : ∃ ad, A = some ad ∧ w.cell? (ad.add k) = some (.int .i64 x) := by
  obtain ⟨h1, h2, h3⟩ := h
  have hk' := (List.getElem?_eq_some_iff.1 hk).1
  obtain ⟨ad, e, hc⟩ := h3 (by omega)
  obtain ⟨cs, _, hR, hcell⟩ := hc k x hk
  obtain rfl : cs = [.int .i64 x] := hR
  have := hcell 0 _ rfl
  rw [show k * (Kd.int .i64).sz + 0 = k from by show k * 1 + 0 = k; omega] at this
  exact ⟨ad, e, this⟩
theorem zeq (A : Option Addr) (c : Nat) (l : List Int) (x : Int) (w : World) (hC : Kd.C (Kd.int .i64) w A l.length l) :
    Calls Try.prog 38 #[.slice A l.length c, .int .i64 x] w fun e w' => e = .returned (.bool (decide (x ∈ l))) ∧ w' = w := by
  have hn : l.length ≤ 9223372036854775807 := hC.2.1
  have hix : Calls Try.prog 57 #[.slice A l.length c, .int .i64 x] w fun e w' => (∃ r : Int, e = .returned (.int .i64 r) ∧ decide (0 ≤ r) = decide (x ∈ l)) ∧ w' = w := by
    go_enter Try.func57, Try.ntmps57
    go_wp2
    go_loopw [8] (fun i wr => ∃ j : Nat, i = .int .i64 (j : Int) ∧ j ≤ l.length ∧ Hid (x ∉ l.take j) ∧ wr = w) (fun i _ => l.length - (Go.RowKit.intOf i).toNat)
    case atStart => exact ⟨0, rfl, Nat.zero_le _, Lib.hid (by simp), rfl⟩
    case round =>
      obtain ⟨j, rfl, hj, HN, rfl⟩ := hrel
      by_cases hlt : j < l.length
      · obtain ⟨y, hy⟩ : ∃ y, l[j]? = some y := ⟨l[j], List.getElem?_eq_getElem hlt⟩
        obtain ⟨ad, hA, f0⟩ := atI hC hy
        subst hA
        have HY := Lib.hid hy
        clear hy
        by_cases hq : x = y
        · subst hq
          go_wp2;go_ret
          refine ⟨⟨j, rfl, ?_⟩, rfl⟩
          rw [decide_eq_true (List.mem_of_getElem? HY.out), decide_eq_true (by omega)]
        · have hqb : (x == y) = false := by simpa using hq
          go_wp2
          go_roundw
          case rel =>
            refine ⟨j + 1, by first | rfl | go_num, by omega, Lib.hid ?_, trivial⟩
            rw [GAdd.zcd HY.out, List.mem_append]
            rintro (h | h)
            · exact HN.out h
            · exact hq (by simpa using h)
          case measure => simp [Go.RowKit.intOf]; omega
      · obtain rfl : j = l.length := by omega
        rw [List.take_length] at HN
        go_wp2;go_ret
        exact ⟨⟨-1, rfl, by rw [decide_eq_false HN.out]; rfl⟩, rfl⟩
  go_enter Try.func38, Try.ntmps38
  go_wp2_with (first | (go_at_call 57; refine hix.mono ?_; rintro e W' ⟨⟨r, rfl, hr⟩, rfl⟩) | go_in)
  go_ret
  exact ⟨by rw [← hr]; rfl, rfl⟩
def za6 (xs : List Nd) (from_ st at_ : Int) : List Nd × Int × Bool :=
  if h : 0 ≤ from_ ∧ from_ < (xs.length : Int) then
    let x := xs.getD from_.toNat (0, 0, [])
    if x.2.1 ≤ at_ ∧ (0 ≤ st ∧ st ≤ 65535) ∧ 0 ≤ at_ ∧ at_ ≤ 65535 then
      if 0 ≤ zb2 xs st at_ ∧ from_ ∈ (xs.getD (zb2 xs st at_).toNat (0, 0, [])).2.2 then (xs, zb2 xs st at_, false)
      else if zb2 xs st at_ < 0 ∧ 4096 ≤ xs.length then (xs, -1, false)
      else (zd1 xs (mrk x) (at_, st), zb2 (zd1 xs (mrk x) (at_, st)) st at_, true)
    else (xs, -1, false)
  else (xs, -1, false)
theorem zfv (A : Option Addr) (c : Nat) (xs : List Nd) (from_ st at_ : Int) (w : World) (hC : Kd.C kN w A xs.length xs) (hcc : xs.length ≤ c) (hf : FitG xs) (hB : cntG xs ≤ 100000000) :
    Calls Try.prog 13 #[.agg #[.slice A xs.length c], .int .i64 from_, .int .i64 st, .int .i64 at_] w fun e w' =>
      ∃ A' c', e = .returned (.tuple #[.agg #[.slice A' (za6 xs from_ st at_).1.length c'], .int .i64 (za6 xs from_ st at_).2.1, .bool (za6 xs from_ st at_).2.2]) ∧ (za6 xs from_ st at_).1.length ≤ c' ∧ Kd.C kN w' A' (za6 xs from_ st at_).1.length (za6 xs from_ st at_).1 ∧ Below w.heap.size w w' ∧ (A' = A ∧ c' = c ∧ (za6 xs from_ st at_).1 = xs ∨ Kd.R kN TN w' w.heap.size (fun _ => True) (.slice A' (za6 xs from_ st at_).1.length c') (za6 xs from_ st at_).1) := by
  obtain ⟨W1, hW1⟩ : ∃ X, w.alloc (.cells #[.slice A xs.length c] TG) = X := ⟨_, rfl⟩
  obtain ⟨W2, hW2⟩ : ∃ X, W1.alloc (.cells #[.slice none 0 0] TG) = X := ⟨_, rfl⟩
  have e1 : Below w.heap.size w W1 := by rw [← hW1]; exact (Below.refl _ _).alloc (Nat.le_refl _) _
  have e2 : Below w.heap.size w W2 := by rw [← hW2]; exact e1.alloc e1.size _
  obtain ⟨b8, hb8⟩ : ∃ b, W1.heap.size = b := ⟨_, rfl⟩
  have b42 : W2.heap[w.heap.size]? = some (.cells #[.slice A xs.length c] TG (0, 0)) := by rw [← hW2, ← hW1]; exact zai (za3 _ _) _
  have b82 : W2.heap[b8]? = some (.cells #[.slice none 0 0] TG (0, 0)) := by rw [← hW2, ← hb8]; exact za3 _ _
  have c42 : W2.cell? ⟨w.heap.size, 0, none⟩ = some (.slice A xs.length c) := zae b42 0
  have f82 : W2.frozen? ⟨b8, 0, none⟩ = false := zbf b82 0
  have c82 : W2.cell? ⟨b8, 0, none⟩ = some (.slice none 0 0) := zae b82 0
  have hb8w : w.heap.size ≤ b8 := by rw [← hb8]; exact e1.size
  obtain ⟨W3, hW3⟩ : ∃ X, W2.setCell ⟨b8, 0, none⟩ (.slice A xs.length c) = X := ⟨_, rfl⟩
  have B3 : Hid (W3.heap[b8]? = some (.cells #[.slice A xs.length c] TG (0, 0))) := Lib.hid (by rw [← hW3]; exact za4 b82 0 _ rfl)
  have hb3 : Below w.heap.size w W3 := by rw [← hW3]; exact e2.setCell (p := ⟨b8, 0, none⟩) hb8w _
  have hC3 := Kd.zaz hC hb3
  have hlen := hf.len
  obtain ⟨bs, hbs⟩ : ∃ b, decide (0 ≤ st ∧ st ≤ 65535) = b := ⟨_, rfl⟩
  obtain ⟨ba, hba⟩ : ∃ b, decide (0 ≤ at_ ∧ at_ ≤ 65535) = b := ⟨_, rfl⟩
  have hns : ∀ W, Calls Try.prog 37 #[.int .i64 st] W fun e w' => e = .returned (.bool bs) ∧ w' = W := fun W => by rw [← hbs]; exact num_calls st W
  have hna : ∀ W, Calls Try.prog 37 #[.int .i64 at_] W fun e w' => e = .returned (.bool ba) ∧ w' = W := fun W => by rw [← hba]; exact num_calls at_ W
  have HFI := Lib.hid hf
  have hfu : True := trivial
  by_cases h1 : from_ < 0
  ·
    have HP := Lib.hid (show za6 xs from_ st at_ = (xs, -1, false) from dif_neg (fun h => by omega))
    clear HFI hfu
    go_enter Try.func13, Try.ntmps13
    go_wp2_with (first
      | (go_at_call 37; first | (with_reducible refine (hns _).mono ?_; rintro e w' ⟨rfl, rfl⟩) | (with_reducible refine (hna _).mono ?_; rintro e w' ⟨rfl, rfl⟩))
      | go_in)
    refine bodyPost_ret (zcb rfl _ _ b8 TG #[.slice A xs.length c] (0, 0) _ rfl B3.out Try.underlying24 rfl (by kernel_rfl)) rfl ?_
    exact ⟨_, _, by rw [HP.out]; rfl, by rw [HP.out]; exact hcc, by rw [HP.out]; exact hC3, hb3, .inl ⟨rfl, rfl, by rw [HP.out]⟩⟩
  by_cases h2 : (xs.length : Int) ≤ from_
  ·
    have HP := Lib.hid (show za6 xs from_ st at_ = (xs, -1, false) from dif_neg (fun h => by omega))
    clear HFI hfu
    go_enter Try.func13, Try.ntmps13
    go_wp2_with (first
      | (go_at_call 37; first | (with_reducible refine (hns _).mono ?_; rintro e w' ⟨rfl, rfl⟩) | (with_reducible refine (hna _).mono ?_; rintro e w' ⟨rfl, rfl⟩))
      | go_in)
    refine bodyPost_ret (zcb rfl _ _ b8 TG #[.slice A xs.length c] (0, 0) _ rfl B3.out Try.underlying24 rfl (by kernel_rfl)) rfl ?_
    exact ⟨_, _, by rw [HP.out]; rfl, by rw [HP.out]; exact hcc, by rw [HP.out]; exact hC3, hb3, .inl ⟨rfl, rfl, by rw [HP.out]⟩⟩
  have hfl : from_.toNat < xs.length := by omega
  obtain ⟨x, hx⟩ : ∃ x, xs[from_.toNat]? = some x := ⟨xs[from_.toNat], List.getElem?_eq_getElem hfl⟩
  have hxd : xs.getD from_.toNat (0, 0, []) = x := by rw [List.getD_eq_getElem?_getD, hx]; rfl
  obtain ⟨ad, A2, c2, hA, n0, n1, _, _, _⟩ := zc2 (Kd.zaz hC e2) hx
  subst hA
  have hg1 : 0 ≤ from_ ∧ from_ < (xs.length : Int) := by omega
  by_cases h3 : at_ < x.2.1
  ·
    have HP := Lib.hid (show za6 xs from_ st at_ = (xs, -1, false) by unfold za6; rw [dif_pos hg1]; simp only [hxd]; rw [if_neg (fun h => by omega)])
    clear HFI hfu
    go_enter Try.func13, Try.ntmps13
    go_wp2_with (first
      | (go_at_call 37; first | (with_reducible refine (hns _).mono ?_; rintro e w' ⟨rfl, rfl⟩) | (with_reducible refine (hna _).mono ?_; rintro e w' ⟨rfl, rfl⟩))
      | go_in)
    refine bodyPost_ret (zcb rfl _ _ b8 TG #[.slice (some ad) xs.length c] (0, 0) _ rfl B3.out Try.underlying24 rfl (by kernel_rfl)) rfl ?_
    exact ⟨_, _, by rw [HP.out]; rfl, by rw [HP.out]; exact hcc, by rw [HP.out]; exact hC3, hb3, .inl ⟨rfl, rfl, by rw [HP.out]⟩⟩
  cases bs with
  | false =>
    have HP := Lib.hid (show za6 xs from_ st at_ = (xs, -1, false) by unfold za6; rw [dif_pos hg1]; simp only [hxd]; rw [if_neg (fun h => (of_decide_eq_false hbs) h.2.1)])
    clear HFI hfu
    go_enter Try.func13, Try.ntmps13
    go_wp2_with (first
      | (go_at_call 37; first | (with_reducible refine (hns _).mono ?_; rintro e w' ⟨rfl, rfl⟩) | (with_reducible refine (hna _).mono ?_; rintro e w' ⟨rfl, rfl⟩))
      | go_in)
    refine bodyPost_ret (zcb rfl _ _ b8 TG #[.slice (some ad) xs.length c] (0, 0) _ rfl B3.out Try.underlying24 rfl (by kernel_rfl)) rfl ?_
    exact ⟨_, _, by rw [HP.out]; rfl, by rw [HP.out]; exact hcc, by rw [HP.out]; exact hC3, hb3, .inl ⟨rfl, rfl, by rw [HP.out]⟩⟩
  | true =>
  cases ba with
  | false =>
    have HP := Lib.hid (show za6 xs from_ st at_ = (xs, -1, false) by unfold za6; rw [dif_pos hg1]; simp only [hxd]; rw [if_neg (fun h => (of_decide_eq_false hba) h.2.2)])
    clear HFI hfu
    go_enter Try.func13, Try.ntmps13
    go_wp2_with (first
      | (go_at_call 37; first | (with_reducible refine (hns _).mono ?_; rintro e w' ⟨rfl, rfl⟩) | (with_reducible refine (hna _).mono ?_; rintro e w' ⟨rfl, rfl⟩))
      | go_in)
    refine bodyPost_ret (zcb rfl _ _ b8 TG #[.slice (some ad) xs.length c] (0, 0) _ rfl B3.out Try.underlying24 rfl (by kernel_rfl)) rfl ?_
    exact ⟨_, _, by rw [HP.out]; rfl, by rw [HP.out]; exact hcc, by rw [HP.out]; exact hC3, hb3, .inl ⟨rfl, rfl, by rw [HP.out]⟩⟩
  | true =>
  have hst := of_decide_eq_true hbs
  have hat := of_decide_eq_true hba
  have HF := Lib.hid hf
  have hmr : 0 ≤ (at_, st).1 ∧ (at_, st).1 ≤ 65535 ∧ 0 ≤ (at_, st).2 ∧ (at_, st).2 ≤ 65535 := ⟨hat.1, hat.2, hst.1, hst.2⟩
  have hmok : mkOk (at_, st) := ⟨zcq hat.1 (Int.le_trans hat.2 (by decide)), zcq hst.1 (Int.le_trans hst.2 (by decide))⟩
  have hxm := List.mem_of_getElem? hx
  have hxok := fit_wf hf hxm
  have hbm : mrk x ∈ marks xs := List.mem_map.2 ⟨x, hxm, rfl⟩
  have hle0 : (mrk x).1 ≤ (at_, st).1 := Int.not_lt.1 h3
  have HG : Hid (za6 xs from_ st at_ = if 0 ≤ zb2 xs st at_ ∧ from_ ∈ (xs.getD (zb2 xs st at_).toNat (0, 0, [])).2.2 then (xs, zb2 xs st at_, false) else if zb2 xs st at_ < 0 ∧ 4096 ≤ xs.length then (xs, -1, false) else (zd1 xs (mrk x) (at_, st), zb2 (zd1 xs (mrk x) (at_, st)) st at_, true)) := Lib.hid (by
    unfold za6
    rw [dif_pos hg1]
    simp only [hxd]
    rw [if_pos ⟨Int.not_lt.1 h3, hst, hat⟩])
  have HMR := Lib.hid hmr
  have HST := Lib.hid hst
  have HBM := Lib.hid hbm
  have HLE := Lib.hid hle0
  clear hst hat hmr hbm hle0 HFI hfu hf hx hxd hxm B3 hb3 hC3 hW3 hbs hba
  by_cases hm : (at_, st) ∈ marks xs
  · obtain ⟨i1, i2, i3⟩ := zdh hm
    obtain ⟨i, hi⟩ : ∃ i : Nat, idx (marks xs) (at_, st) = (i : Int) := ⟨(idx (marks xs) (at_, st)).toNat, by omega⟩
    have hk : zb2 xs st at_ = (i : Int) := by rw [zei, if_pos hm, hi]
    rw [hi, Int.toNat_natCast] at i1
    rw [hi, zcf] at i3
    have hil : i < xs.length := by omega
    obtain ⟨y, hy⟩ : ∃ y, xs[i]? = some y := ⟨xs[i], List.getElem?_eq_getElem hil⟩
    have hyd : xs.getD i (0, 0, []) = y := by rw [List.getD_eq_getElem?_getD, hy]; rfl
    have hfind := zdy st at_ (some ad) c xs W2 (Kd.zaz hC e2)
    rw [hk] at hfind
    clear i1 i2 i3
    by_cases hfr : from_ ∈ y.2.2
    · have hcd : decide (from_ ∈ y.2.2) = true := decide_eq_true hfr
      have hmm := @run_makeMap Try.prog
      go_enter Try.func13, Try.ntmps13
      go_wp2_with (first
        | (go_at_call 37; first | (with_reducible refine (hns _).mono ?_; rintro e w' ⟨rfl, rfl⟩) | (with_reducible refine (hna _).mono ?_; rintro e w' ⟨rfl, rfl⟩))
        | (go_at_call 29
           refine hfind.mono ?_
           rintro e W5 ⟨rfl, hB5⟩
           have hb5 := e2.trans (hB5.mono e2.size)
           have c45 := zaf hB5 c42
           have n05 := zaf hB5 n0
           have n15 := zaf hB5 n1
           have b85 := zaq b82 hB5
           have c85 : W5.cell? ⟨b8, 0, none⟩ = some (.slice none 0 0) := zae b85 0
           have f85 : W5.frozen? ⟨b8, 0, none⟩ = false := zbf b85 0
           obtain ⟨ad', A3, c3, hA3, y0, y1, y2, hc3, hI3⟩ := zc2 (Kd.zaz hC hb5) hy
           injection hA3 with hA3
           subst hA3
           have hcon := zeq A3 c3 y.2.2 from_ W5 hI3
           rw [hcd] at hcon
           obtain ⟨W9, hW9⟩ : ∃ X, W5.setCell ⟨b8, 0, none⟩ (.slice (some ad) xs.length c) = X := ⟨_, rfl⟩)
        | (go_at_call 38; refine hcon.mono ?_; rintro e w' ⟨rfl, rfl⟩)
        | go_in)
      have B9 : W9.heap[b8]? = some (.cells #[.slice (some ad) xs.length c] TG (0, 0)) := by rw [← hW9]; exact za4 b85 0 _ rfl
      have hb9 : Below w.heap.size w W9 := by rw [← hW9]; exact hb5.setCell (p := ⟨b8, 0, none⟩) hb8w _
      have hfin : za6 xs from_ st at_ = (xs, (i : Int), false) := by
        rw [HG.out, hk, Int.toNat_natCast, hyd, if_pos ⟨Int.natCast_nonneg _, hfr⟩]
      refine bodyPost_ret (zcb rfl _ _ b8 TG #[.slice (some ad) xs.length c] (0, 0) _ rfl B9 Try.underlying24 rfl (by kernel_rfl)) rfl ?_
      exact ⟨_, _, by rw [hfin]; rfl, by rw [hfin]; exact hcc, by rw [hfin]; exact Kd.zaz hC hb9, hb9, .inl ⟨rfl, rfl, by rw [hfin]⟩⟩
    · have hcd : decide (from_ ∈ y.2.2) = false := decide_eq_false hfr
      have hlen0 : Hid ((at_, st) ∈ marks xs ∨ xs.length < 4096) := Lib.hid (.inl hm)
      have HNO := Lib.hid hfr
      clear hfr hm
      have hmm := @run_makeMap Try.prog
      go_enter Try.func13, Try.ntmps13
      go_wp2_with (first
        | (go_at_call 37; first | (with_reducible refine (hns _).mono ?_; rintro e w' ⟨rfl, rfl⟩) | (with_reducible refine (hna _).mono ?_; rintro e w' ⟨rfl, rfl⟩))
        | (go_at_call 29
           refine hfind.mono ?_
           rintro e W5 ⟨rfl, hB5⟩
           have hb5 := e2.trans (hB5.mono e2.size)
           have c45 := zaf hB5 c42
           have n05 := zaf hB5 n0
           have n15 := zaf hB5 n1
           have b85 := zaq b82 hB5
           have c85 : W5.cell? ⟨b8, 0, none⟩ = some (.slice none 0 0) := zae b85 0
           have f85 : W5.frozen? ⟨b8, 0, none⟩ = false := zbf b85 0
           obtain ⟨ad', A3, c3, hA3, y0, y1, y2, hc3, hI3⟩ := zc2 (Kd.zaz hC hb5) hy
           injection hA3 with hA3
           subst hA3
           have hcon := zeq A3 c3 y.2.2 from_ W5 hI3
           rw [hcd] at hcon
           obtain ⟨gb, hgb⟩ : ∃ b, W5.heap.size = b := ⟨_, rfl⟩
           obtain ⟨W6, hW6⟩ : ∃ X, W5.alloc (.map #[] 0) = X := ⟨_, rfl⟩
           have hb6 : Below w.heap.size w W6 := by { rw [← hW6]; exact hb5.alloc hb5.size _ }
           have hg6 : zat gb w.heap.size 0 [] W6 := by { rw [← hW6, ← hgb]; exact ⟨MapAt.new _, (fun _ h => nomatch h), by simp, ⟨Nat.le_refl _, fun _ h => nomatch h⟩, hb5.size⟩ }
           have k56 : zak W5 W6 := by { rw [← hW6]; exact zak.alloc _ _ }
           have c46 : W6.cell? ⟨w.heap.size, 0, none⟩ = some (.slice (some ad) xs.length c) := k56.cell c45
           have hadd := add_calls hg6 (some ad) c xs (zer (Kd.zaz hC hb5) k56) HF.out hb6.size (by omega))
        | (go_at_call 38; refine hcon.mono ?_; rintro e w' ⟨rfl, rfl⟩)
        | (go_at_call 39
           refine hadd.mono ?_
           rintro e W7 ⟨L1, rfl, hg7, he7, hb7, hk7⟩)
        | go_in)
      rename_i K10 hK10
      have hb7w : Below w.heap.size w W7 := hb6.trans hb7
      have k57 := k56.trans hk7
      obtain ⟨y0, y1, y2⟩ : W7.cell? ⟨w.heap.size, 0, none⟩ = some (.slice (some ad) xs.length c) ∧ W7.cell? (ad.add (from_.toNat * 3)) = some (.int .i64 x.1) ∧ W7.cell? ⟨(ad.add (from_.toNat * 3)).block, (ad.add (from_.toNat * 3)).off + 1, none⟩ = some (.int .i64 x.2.1) := ⟨k57.cell c45, k57.cell n05, k57.cell n15⟩
      have b87 := k57 _ _ _ _ b85
      have HB87 := Lib.hid b87
      obtain ⟨Wd, hWd⟩ : ∃ X, W7.drew = X := ⟨_, rfl⟩
      have hHeld : (fun X => X.cell? ⟨w.heap.size, 0, none⟩ = some (.slice (some ad) xs.length c) ∧ X.cell? (ad.add (from_.toNat * 3)) = some (.int .i64 x.1) ∧ X.cell? ⟨(ad.add (from_.toNat * 3)).block, (ad.add (from_.toNat * 3)).off + 1, none⟩ = some (.int .i64 x.2.1)) W7.drew := ⟨y0, y1, y2⟩
      rw [hWd] at hHeld
      have hgd : zat gb w.heap.size (0 + cntG xs) L1 Wd := by rw [← hWd]; exact hg7.kept (zar.drew _)
      have hbd : Below w.heap.size w Wd := by rw [← hWd]; exact zbs hb7w
      have hsd : w.heap.size ≤ Wd.heap.size := hbd.size
      have kd : zak W7 Wd := by rw [← hWd]; exact zak.drew _
      clear hg7 hb7 hk7 y0 y1 y2 hadd hg6 b87
      refine wp_qz (zbd (S := (fun X => X.cell? ⟨w.heap.size, 0, none⟩ = some (.slice (some ad) xs.length c) ∧ X.cell? (ad.add (from_.toNat * 3)) = some (.int .i64 x.1) ∧ X.cell? ⟨(ad.add (from_.toNat * 3)).block, (ad.add (from_.toNat * 3)).off + 1, none⟩ = some (.int .i64 x.2.1))) (ds := [18]) (Ymk 19 0) (by kernel_rfl) rfl rfl (by rw [hWd]; exact hHeld) (fun h0_ => ?_))
      rw [hWd]
      clear h0_
      refine Ypk 0 75 19 1 ?_
      refine Ypk 1 76 19 3 ?_
      refine Ypk 2 77 19 7 ?_
      refine Ypk 3 78 19 15 ?_
      refine Ypk 5 80 19 47 ?_
      refine Ytk 6 81 19 111 hHeld ?_
      refine Ypk 7 82 19 239 ?_
      refine Ypk 8 83 19 495 ?_
      refine Ypk 9 84 19 1007 ?_
      refine Ytk 10 85 19 2031 hHeld ?_
      refine Ypk 11 86 19 4079 ?_
      refine Ytk 12 87 19 8175 hHeld ?_
      refine Ypk 13 88 19 16367 ?_
      refine Ypk 14 89 19 32751 ?_
      refine Ypk 15 90 19 65519 ?_
      refine Ytk 16 91 19 131055 hHeld ?_
      refine Ypk 17 92 19 262127 ?_
      refine Yok 4 79 19 262143 (fun K hK => ?_)
      refine Ygh Try.func40 #[.map (some gb), .agg #[.int .i64 at_, .int .i64 st]] ?_
      refine (ze0 hgd (at_, st) hmok hsd (by omega)).mono ?_
      rintro e W9 ⟨L2, b, ls, rfl, hg9, hm9, he9, hgr9⟩
      have hk9 : zak Wd W9 := zak.map hgr9 hgd.top.block
      have hh9 : (fun X => X.cell? ⟨w.heap.size, 0, none⟩ = some (.slice (some ad) xs.length c) ∧ X.cell? (ad.add (from_.toNat * 3)) = some (.int .i64 x.1) ∧ X.cell? ⟨(ad.add (from_.toNat * 3)).block, (ad.add (from_.toNat * 3)).off + 1, none⟩ = some (.int .i64 x.2.1)) W9 := ⟨hk9.cell hHeld.1, hk9.cell hHeld.2.1, hk9.cell hHeld.2.2⟩
      obtain ⟨W10, hup, hg10, hb0, L3, ls3, hG10, hm10, he10⟩ := hg9.link hm9 hxok (by omega)
      have hup' : (Instr.mapUpdate 61 (.map (some b)) (.agg #[.int .i64 x.2.1, .int .i64 x.1]) (.bool true)).run Try.prog W9 = .ok () W10 := hup
      have hk10 : zak W9 W10 := zak.map hg10 ((hg9.own _ hm9).2.block)
      have hb9 : Below w.heap.size w W9 := hbd.grown hgr9 hbd.size (fun k e => by cases e; exact hgd.gbase)
      have hb10 : Below w.heap.size w W10 := hb9.grown hg10 hb9.size (fun k e => by cases e; exact hb0)
      clear hup
      refine ⟨_, rfl, ?_⟩
      refine hK.out _ _ hh9 (fun h0_ => ?_)
      clear hK K h0_
      refine last_ (i := 18) (N := none) (Ymk 19 524287) rfl rfl (by kernel_rfl) (by decide) (fun K hK => ?_)
      refine skip_ (w1 := W10) (by rfl) rfl ?_ ?_
      · go_simp
      refine hK.out _ _ ?_
      clear hK K
      refine zbo (by kernel_rfl) ?_
      refine hK10 _ _ ?_
      clear hK10
      have hG3 : toG L3 = zbt (zbk (gadd [] xs) (at_, st)) (at_, st) (mrk x) := by rw [he10, he9, he7]; rfl
      have hgo := push_ok HF.out HBM.out HLE.out HMR.out hlen0.out
      have hst := zfy hG10 (by rw [hG3]; exact hgo) (fun m hm => by
        rw [hG3] at hm
        obtain ⟨r1, r2, r3, r4⟩ := hgo.rng m hm
        exact ⟨zcq r1 (Int.le_trans r2 (by decide)), zcq r3 (Int.le_trans r4 (by decide))⟩) (by omega)
      have hps : ofGr (toG L3) = zd1 xs (mrk x) (at_, st) := by rw [hG3]; rfl
      rw [hps] at hst
      obtain ⟨out, hout⟩ : ∃ o, zd1 xs (mrk x) (at_, st) = o := ⟨_, rfl⟩
      rw [hout] at hst
      have b8t : W10.heap[b8]? = some (.cells #[.slice none 0 0] TG (0, 0)) := hk10 _ _ _ _ (hk9 _ _ _ _ (kd _ _ _ _ HB87.out))
      clear hgd hg9 hm9 hg10 hG10 hm10 hHeld hh9 hmm
      go_wp2_with (first
        | (go_at_call 41
           refine hst.mono ?_
           rintro e W11 ⟨v, rfl, R11, hB11⟩
           obtain ⟨Ao, co, rfl⟩ := Kd.zb6 R11
           obtain ⟨b13, hb13⟩ : ∃ b, W11.heap.size = b := ⟨_, rfl⟩
           obtain ⟨W12, hW12⟩ : ∃ X, W11.alloc (.cells #[.slice Ao out.length co] TG) = X := ⟨_, rfl⟩)
        | go_in)
      rename_i K12 hK12
      obtain ⟨_, _, he_, hco, hCo_⟩ := Kd.zcl R11
      obtain ⟨rfl, rfl⟩ : Ao = _ ∧ co = _ := by injection he_ with e1 _ e2; exact ⟨e1, e2⟩
      obtain ⟨We, hWe⟩ : ∃ X, W12.drew = X := ⟨_, rfl⟩
      have hB12 : Below W11.heap.size W11 We := by rw [← hWe, ← hW12]; exact zbs ((Below.refl _ _).alloc (Nat.le_refl _) _)
      have hCo : Kd.C kN W11 Ao out.length out := hCo_
      have b13e : We.heap[b13]? = some (.cells #[.slice Ao out.length co] TG (0, 0)) := by rw [← hWe, ← hW12, ← hb13]; exact za3 _ _
      have b8e : We.heap[b8]? = some (.cells #[.slice none 0 0] TG (0, 0)) := zaq (zaq b8t hB11) hB12
      have hHeld12 : (fun X => X.cell? ⟨b13, 0, none⟩ = some (.slice Ao out.length co) ∧ X.cell? ⟨b8, 0, none⟩ = some (.slice none 0 0)) We := ⟨zae b13e 0, zae b8e 0⟩
      refine wp_qz (zbd (S := (fun X => X.cell? ⟨b13, 0, none⟩ = some (.slice Ao out.length co) ∧ X.cell? ⟨b8, 0, none⟩ = some (.slice none 0 0))) (ds := [5]) (Ymk 8 0) (by kernel_rfl) rfl rfl (by rw [hWe]; exact hHeld12) (fun h0_ => ?_))
      rw [hWe]
      clear h0_
      refine Ytk 0 95 8 1 hHeld12 ?_
      refine Ytk 1 96 8 3 hHeld12 ?_
      refine Ypk 2 97 8 7 ?_
      refine Ypk 3 98 8 15 ?_
      refine Yok 4 99 8 31 (fun K hK => ?_)
      refine Ygh Try.func29 #[.agg #[.slice Ao out.length co], .int .i64 st, .int .i64 at_] ?_
      refine (zdy st at_ Ao co out We (Kd.zaz hCo hB12)).mono ?_
      rintro e W13 ⟨rfl, hB13⟩
      have hh13 : (fun X => X.cell? ⟨b13, 0, none⟩ = some (.slice Ao out.length co) ∧ X.cell? ⟨b8, 0, none⟩ = some (.slice none 0 0)) W13 := ⟨zaf hB13 hHeld12.1, zaf hB13 hHeld12.2⟩
      obtain ⟨W14, hW14⟩ : ∃ X, W13.setCell ⟨b8, 0, none⟩ (.slice Ao out.length co) = X := ⟨_, rfl⟩
      have f13 := zbf (zaq b8e hB13) 0
      have hfd : Nat → True := fun _ => trivial
      refine ⟨_, rfl, ?_⟩
      refine hK.out _ _ hh13 (fun h0_ => ?_)
      clear hK K h0_
      refine last_ (i := 5) (N := none) (Ymk 8 63) rfl rfl (by kernel_rfl) (by decide) (fun K hK => ?_)
      refine skip_ (w1 := W14) (by rfl) rfl ?_ ?_
      · go_simp
      refine hK.out _ _ ?_
      clear hK K
      refine Ypk 6 9 8 127 ?_
      refine Ypk 7 10 8 255 ?_
      refine zbo (by kernel_rfl) ?_
      refine hK12 _ _ ?_
      have hBe : Below w.heap.size w We := (hb10.trans (hB11.mono hb10.size)).trans (hB12.mono (Nat.le_trans hb10.size hB11.size))
      have hBf : Below w.heap.size w W14 := by rw [← hW14]; exact (hBe.trans (hB13.mono hBe.size)).setCell (p := ⟨b8, 0, none⟩) hb8w _
      have b814 : W14.heap[b8]? = some (.cells #[.slice Ao out.length co] TG (0, 0)) := by rw [← hW14]; exact za4 (zaq b8e hB13) 0 _ rfl
      have R14 : Kd.R kN TN W14 W10.heap.size (fun _ => True) (.slice Ao out.length co) out := by rw [← hW14]; exact Kd.R_set (Kd.zbi (Kd.zbi R11 hB12) hB13) (zaq b8e hB13) (by decide) _ _
      obtain ⟨_, _, he2, _, hC14⟩ := Kd.zcl R14
      obtain ⟨rfl, rfl⟩ : Ao = _ ∧ co = _ := by injection he2 with e1 _ e2; exact ⟨e1, e2⟩
      have HC := Lib.hid hC14
      have HB := Lib.hid b814
      have HR := Lib.hid (Kd.zck R14 hb10.size)
      clear hK12 hHeld12 hh13 R14 hC14 R11 hCo hCo_ he2 he_ b814;go_wp2
      refine bodyPost_ret (zcb rfl _ _ b8 TG #[.slice Ao out.length co] (0, 0) _ rfl HB.out Try.underlying24 rfl (by kernel_rfl)) rfl ?_
      have hfin : za6 xs from_ st at_ = (out, zb2 out st at_, true) := by
        rw [HG.out, hk, Int.toNat_natCast, hyd, if_neg (fun h => HNO.out h.2), if_neg (fun h => by omega), hout]
      exact ⟨_, _, by rw [hfin]; rfl, by rw [hfin]; exact hco, by rw [hfin]; exact HC.out, hBf, .inr (by rw [hfin]; exact HR.out)⟩
  · have hk : zb2 xs st at_ = -1 := by rw [zei, if_neg hm]
    have hfind := zdy st at_ (some ad) c xs W2 (Kd.zaz hC e2)
    rw [hk] at hfind
    by_cases h4 : 4096 ≤ xs.length
    · have H4 := Lib.hid h4
      have hmm := @run_makeMap Try.prog
      go_enter Try.func13, Try.ntmps13
      go_wp2_with (first
        | (go_at_call 37; first | (with_reducible refine (hns _).mono ?_; rintro e w' ⟨rfl, rfl⟩) | (with_reducible refine (hna _).mono ?_; rintro e w' ⟨rfl, rfl⟩))
        | (go_at_call 29
           refine hfind.mono ?_
           rintro e W5 ⟨rfl, hB5⟩
           have hb5 := e2.trans (hB5.mono e2.size)
           have c45 := zaf hB5 c42
           have n05 := zaf hB5 n0
           have n15 := zaf hB5 n1
           have b85 := zaq b82 hB5
           have c85 : W5.cell? ⟨b8, 0, none⟩ = some (.slice none 0 0) := zae b85 0
           have f85 : W5.frozen? ⟨b8, 0, none⟩ = false := zbf b85 0
           obtain ⟨W9, hW9⟩ : ∃ X, W5.setCell ⟨b8, 0, none⟩ (.slice (some ad) xs.length c) = X := ⟨_, rfl⟩)
        | go_in)
      have B9 : W9.heap[b8]? = some (.cells #[.slice (some ad) xs.length c] TG (0, 0)) := by rw [← hW9]; exact za4 b85 0 _ rfl
      have hb9 : Below w.heap.size w W9 := by rw [← hW9]; exact hb5.setCell (p := ⟨b8, 0, none⟩) hb8w _
      have hfin : za6 xs from_ st at_ = (xs, -1, false) := by
        rw [HG.out, hk, if_neg (fun h => by omega), if_pos ⟨by decide, H4.out⟩]
      refine bodyPost_ret (zcb rfl _ _ b8 TG #[.slice (some ad) xs.length c] (0, 0) _ rfl B9 Try.underlying24 rfl (by kernel_rfl)) rfl ?_
      exact ⟨_, _, by rw [hfin]; rfl, by rw [hfin]; exact hcc, by rw [hfin]; exact Kd.zaz hC hb9, hb9, .inl ⟨rfl, rfl, by rw [hfin]⟩⟩
    · have hlen0 : Hid ((at_, st) ∈ marks xs ∨ xs.length < 4096) := Lib.hid (.inr (by omega))
      have hmm := @run_makeMap Try.prog
      go_enter Try.func13, Try.ntmps13
      go_wp2_with (first
        | (go_at_call 37; first | (with_reducible refine (hns _).mono ?_; rintro e w' ⟨rfl, rfl⟩) | (with_reducible refine (hna _).mono ?_; rintro e w' ⟨rfl, rfl⟩))
        | (go_at_call 29
           refine hfind.mono ?_
           rintro e W5 ⟨rfl, hB5⟩
           have hb5 := e2.trans (hB5.mono e2.size)
           have c45 := zaf hB5 c42
           have n05 := zaf hB5 n0
           have n15 := zaf hB5 n1
           have b85 := zaq b82 hB5
           have c85 : W5.cell? ⟨b8, 0, none⟩ = some (.slice none 0 0) := zae b85 0
           have f85 : W5.frozen? ⟨b8, 0, none⟩ = false := zbf b85 0
           obtain ⟨gb, hgb⟩ : ∃ b, W5.heap.size = b := ⟨_, rfl⟩
           obtain ⟨W6, hW6⟩ : ∃ X, W5.alloc (.map #[] 0) = X := ⟨_, rfl⟩
           have hb6 : Below w.heap.size w W6 := by { rw [← hW6]; exact hb5.alloc hb5.size _ }
           have hg6 : zat gb w.heap.size 0 [] W6 := by { rw [← hW6, ← hgb]; exact ⟨MapAt.new _, (fun _ h => nomatch h), by simp, ⟨Nat.le_refl _, fun _ h => nomatch h⟩, hb5.size⟩ }
           have k56 : zak W5 W6 := by { rw [← hW6]; exact zak.alloc _ _ }
           have c46 : W6.cell? ⟨w.heap.size, 0, none⟩ = some (.slice (some ad) xs.length c) := k56.cell c45
           have hadd := add_calls hg6 (some ad) c xs (zer (Kd.zaz hC hb5) k56) HF.out hb6.size (by omega))
        | (go_at_call 39
           refine hadd.mono ?_
           rintro e W7 ⟨L1, rfl, hg7, he7, hb7, hk7⟩)
        | go_in)
      rename_i K10 hK10
      have hb7w : Below w.heap.size w W7 := hb6.trans hb7
      have k57 := k56.trans hk7
      obtain ⟨y0, y1, y2⟩ : W7.cell? ⟨w.heap.size, 0, none⟩ = some (.slice (some ad) xs.length c) ∧ W7.cell? (ad.add (from_.toNat * 3)) = some (.int .i64 x.1) ∧ W7.cell? ⟨(ad.add (from_.toNat * 3)).block, (ad.add (from_.toNat * 3)).off + 1, none⟩ = some (.int .i64 x.2.1) := ⟨k57.cell c45, k57.cell n05, k57.cell n15⟩
      have b87 := k57 _ _ _ _ b85
      have HB87 := Lib.hid b87
      obtain ⟨Wd, hWd⟩ : ∃ X, W7.drew = X := ⟨_, rfl⟩
      have hHeld : (fun X => X.cell? ⟨w.heap.size, 0, none⟩ = some (.slice (some ad) xs.length c) ∧ X.cell? (ad.add (from_.toNat * 3)) = some (.int .i64 x.1) ∧ X.cell? ⟨(ad.add (from_.toNat * 3)).block, (ad.add (from_.toNat * 3)).off + 1, none⟩ = some (.int .i64 x.2.1)) W7.drew := ⟨y0, y1, y2⟩
      rw [hWd] at hHeld
      have hgd : zat gb w.heap.size (0 + cntG xs) L1 Wd := by rw [← hWd]; exact hg7.kept (zar.drew _)
      have hbd : Below w.heap.size w Wd := by rw [← hWd]; exact zbs hb7w
      have hsd : w.heap.size ≤ Wd.heap.size := hbd.size
      have kd : zak W7 Wd := by rw [← hWd]; exact zak.drew _
      clear hg7 hb7 hk7 y0 y1 y2 hadd hg6 b87
      refine wp_qz (zbd (S := (fun X => X.cell? ⟨w.heap.size, 0, none⟩ = some (.slice (some ad) xs.length c) ∧ X.cell? (ad.add (from_.toNat * 3)) = some (.int .i64 x.1) ∧ X.cell? ⟨(ad.add (from_.toNat * 3)).block, (ad.add (from_.toNat * 3)).off + 1, none⟩ = some (.int .i64 x.2.1))) (ds := [18]) (Ymk 19 0) (by kernel_rfl) rfl rfl (by rw [hWd]; exact hHeld) (fun h0_ => ?_))
      rw [hWd]
      clear h0_
      refine Ypk 0 75 19 1 ?_
      refine Ypk 1 76 19 3 ?_
      refine Ypk 2 77 19 7 ?_
      refine Ypk 3 78 19 15 ?_
      refine Ypk 5 80 19 47 ?_
      refine Ytk 6 81 19 111 hHeld ?_
      refine Ypk 7 82 19 239 ?_
      refine Ypk 8 83 19 495 ?_
      refine Ypk 9 84 19 1007 ?_
      refine Ytk 10 85 19 2031 hHeld ?_
      refine Ypk 11 86 19 4079 ?_
      refine Ytk 12 87 19 8175 hHeld ?_
      refine Ypk 13 88 19 16367 ?_
      refine Ypk 14 89 19 32751 ?_
      refine Ypk 15 90 19 65519 ?_
      refine Ytk 16 91 19 131055 hHeld ?_
      refine Ypk 17 92 19 262127 ?_
      refine Yok 4 79 19 262143 (fun K hK => ?_)
      refine Ygh Try.func40 #[.map (some gb), .agg #[.int .i64 at_, .int .i64 st]] ?_
      refine (ze0 hgd (at_, st) hmok hsd (by omega)).mono ?_
      rintro e W9 ⟨L2, b, ls, rfl, hg9, hm9, he9, hgr9⟩
      have hk9 : zak Wd W9 := zak.map hgr9 hgd.top.block
      have hh9 : (fun X => X.cell? ⟨w.heap.size, 0, none⟩ = some (.slice (some ad) xs.length c) ∧ X.cell? (ad.add (from_.toNat * 3)) = some (.int .i64 x.1) ∧ X.cell? ⟨(ad.add (from_.toNat * 3)).block, (ad.add (from_.toNat * 3)).off + 1, none⟩ = some (.int .i64 x.2.1)) W9 := ⟨hk9.cell hHeld.1, hk9.cell hHeld.2.1, hk9.cell hHeld.2.2⟩
      obtain ⟨W10, hup, hg10, hb0, L3, ls3, hG10, hm10, he10⟩ := hg9.link hm9 hxok (by omega)
      have hup' : (Instr.mapUpdate 61 (.map (some b)) (.agg #[.int .i64 x.2.1, .int .i64 x.1]) (.bool true)).run Try.prog W9 = .ok () W10 := hup
      have hk10 : zak W9 W10 := zak.map hg10 ((hg9.own _ hm9).2.block)
      have hb9 : Below w.heap.size w W9 := hbd.grown hgr9 hbd.size (fun k e => by cases e; exact hgd.gbase)
      have hb10 : Below w.heap.size w W10 := hb9.grown hg10 hb9.size (fun k e => by cases e; exact hb0)
      clear hup
      refine ⟨_, rfl, ?_⟩
      refine hK.out _ _ hh9 (fun h0_ => ?_)
      clear hK K h0_
      refine last_ (i := 18) (N := none) (Ymk 19 524287) rfl rfl (by kernel_rfl) (by decide) (fun K hK => ?_)
      refine skip_ (w1 := W10) (by rfl) rfl ?_ ?_
      · go_simp
      refine hK.out _ _ ?_
      clear hK K
      refine zbo (by kernel_rfl) ?_
      refine hK10 _ _ ?_
      clear hK10
      have hG3 : toG L3 = zbt (zbk (gadd [] xs) (at_, st)) (at_, st) (mrk x) := by rw [he10, he9, he7]; rfl
      have hgo := push_ok HF.out HBM.out HLE.out HMR.out hlen0.out
      have hst := zfy hG10 (by rw [hG3]; exact hgo) (fun m hm => by
        rw [hG3] at hm
        obtain ⟨r1, r2, r3, r4⟩ := hgo.rng m hm
        exact ⟨zcq r1 (Int.le_trans r2 (by decide)), zcq r3 (Int.le_trans r4 (by decide))⟩) (by omega)
      have hps : ofGr (toG L3) = zd1 xs (mrk x) (at_, st) := by rw [hG3]; rfl
      rw [hps] at hst
      obtain ⟨out, hout⟩ : ∃ o, zd1 xs (mrk x) (at_, st) = o := ⟨_, rfl⟩
      rw [hout] at hst
      have b8t : W10.heap[b8]? = some (.cells #[.slice none 0 0] TG (0, 0)) := hk10 _ _ _ _ (hk9 _ _ _ _ (kd _ _ _ _ HB87.out))
      clear hgd hg9 hm9 hg10 hG10 hm10 hHeld hh9 hmm
      go_wp2_with (first
        | (go_at_call 41
           refine hst.mono ?_
           rintro e W11 ⟨v, rfl, R11, hB11⟩
           obtain ⟨Ao, co, rfl⟩ := Kd.zb6 R11
           obtain ⟨b13, hb13⟩ : ∃ b, W11.heap.size = b := ⟨_, rfl⟩
           obtain ⟨W12, hW12⟩ : ∃ X, W11.alloc (.cells #[.slice Ao out.length co] TG) = X := ⟨_, rfl⟩)
        | go_in)
      rename_i K12 hK12
      obtain ⟨_, _, he_, hco, hCo_⟩ := Kd.zcl R11
      obtain ⟨rfl, rfl⟩ : Ao = _ ∧ co = _ := by injection he_ with e1 _ e2; exact ⟨e1, e2⟩
      obtain ⟨We, hWe⟩ : ∃ X, W12.drew = X := ⟨_, rfl⟩
      have hB12 : Below W11.heap.size W11 We := by rw [← hWe, ← hW12]; exact zbs ((Below.refl _ _).alloc (Nat.le_refl _) _)
      have hCo : Kd.C kN W11 Ao out.length out := hCo_
      have b13e : We.heap[b13]? = some (.cells #[.slice Ao out.length co] TG (0, 0)) := by rw [← hWe, ← hW12, ← hb13]; exact za3 _ _
      have b8e : We.heap[b8]? = some (.cells #[.slice none 0 0] TG (0, 0)) := zaq (zaq b8t hB11) hB12
      have hHeld12 : (fun X => X.cell? ⟨b13, 0, none⟩ = some (.slice Ao out.length co) ∧ X.cell? ⟨b8, 0, none⟩ = some (.slice none 0 0)) We := ⟨zae b13e 0, zae b8e 0⟩
      refine wp_qz (zbd (S := (fun X => X.cell? ⟨b13, 0, none⟩ = some (.slice Ao out.length co) ∧ X.cell? ⟨b8, 0, none⟩ = some (.slice none 0 0))) (ds := [5]) (Ymk 8 0) (by kernel_rfl) rfl rfl (by rw [hWe]; exact hHeld12) (fun h0_ => ?_))
      rw [hWe]
      clear h0_
      refine Ytk 0 95 8 1 hHeld12 ?_
      refine Ytk 1 96 8 3 hHeld12 ?_
      refine Ypk 2 97 8 7 ?_
      refine Ypk 3 98 8 15 ?_
      refine Yok 4 99 8 31 (fun K hK => ?_)
      refine Ygh Try.func29 #[.agg #[.slice Ao out.length co], .int .i64 st, .int .i64 at_] ?_
      refine (zdy st at_ Ao co out We (Kd.zaz hCo hB12)).mono ?_
      rintro e W13 ⟨rfl, hB13⟩
      have hh13 : (fun X => X.cell? ⟨b13, 0, none⟩ = some (.slice Ao out.length co) ∧ X.cell? ⟨b8, 0, none⟩ = some (.slice none 0 0)) W13 := ⟨zaf hB13 hHeld12.1, zaf hB13 hHeld12.2⟩
      obtain ⟨W14, hW14⟩ : ∃ X, W13.setCell ⟨b8, 0, none⟩ (.slice Ao out.length co) = X := ⟨_, rfl⟩
      have f13 := zbf (zaq b8e hB13) 0
      have hfd : Nat → True := fun _ => trivial
      refine ⟨_, rfl, ?_⟩
      refine hK.out _ _ hh13 (fun h0_ => ?_)
      clear hK K h0_
      refine last_ (i := 5) (N := none) (Ymk 8 63) rfl rfl (by kernel_rfl) (by decide) (fun K hK => ?_)
      refine skip_ (w1 := W14) (by rfl) rfl ?_ ?_
      · go_simp
      refine hK.out _ _ ?_
      clear hK K
      refine Ypk 6 9 8 127 ?_
      refine Ypk 7 10 8 255 ?_
      refine zbo (by kernel_rfl) ?_
      refine hK12 _ _ ?_
      have hBe : Below w.heap.size w We := (hb10.trans (hB11.mono hb10.size)).trans (hB12.mono (Nat.le_trans hb10.size hB11.size))
      have hBf : Below w.heap.size w W14 := by rw [← hW14]; exact (hBe.trans (hB13.mono hBe.size)).setCell (p := ⟨b8, 0, none⟩) hb8w _
      have b814 : W14.heap[b8]? = some (.cells #[.slice Ao out.length co] TG (0, 0)) := by rw [← hW14]; exact za4 (zaq b8e hB13) 0 _ rfl
      have R14 : Kd.R kN TN W14 W10.heap.size (fun _ => True) (.slice Ao out.length co) out := by rw [← hW14]; exact Kd.R_set (Kd.zbi (Kd.zbi R11 hB12) hB13) (zaq b8e hB13) (by decide) _ _
      obtain ⟨_, _, he2, _, hC14⟩ := Kd.zcl R14
      obtain ⟨rfl, rfl⟩ : Ao = _ ∧ co = _ := by injection he2 with e1 _ e2; exact ⟨e1, e2⟩
      have HC := Lib.hid hC14
      have HB := Lib.hid b814
      have HR := Lib.hid (Kd.zck R14 hb10.size)
      clear hK12 hHeld12 hh13 R14 hC14 R11 hCo hCo_ he2 he_ b814;go_wp2
      refine bodyPost_ret (zcb rfl _ _ b8 TG #[.slice Ao out.length co] (0, 0) _ rfl HB.out Try.underlying24 rfl (by kernel_rfl)) rfl ?_
      have hfin : za6 xs from_ st at_ = (out, zb2 out st at_, true) := by
        rw [HG.out, hk, if_neg (fun h => by omega), if_neg (fun h => h4 h.2), hout]
      exact ⟨_, _, by rw [hfin]; rfl, by rw [hfin]; exact hco, by rw [hfin]; exact HC.out, hBf, .inr (by rw [hfin]; exact HR.out)⟩
theorem zd2 (A : Option Addr) (c : Nat) (xs : List Nd) (from_ st at_ : Int) (w : World) (hC : Kd.C kN w A xs.length xs) (hcc : xs.length ≤ c) (hf : FitG xs) (hB : cntG xs ≤ 100000000) :
    Calls Try.prog 13 #[.agg #[.slice A xs.length c], .int .i64 from_, .int .i64 st, .int .i64 at_] w fun e w' =>
      ∃ A' c', e = .returned (.tuple #[.agg #[.slice A' (za6 xs from_ st at_).1.length c'], .int .i64 (za6 xs from_ st at_).2.1, .bool (za6 xs from_ st at_).2.2]) ∧ (za6 xs from_ st at_).1.length ≤ c' ∧ Kd.C kN w' A' (za6 xs from_ st at_).1.length (za6 xs from_ st at_).1 ∧ Below w.heap.size w w' := by
  refine (zfv A c xs from_ st at_ w hC hcc hf hB).mono ?_
  rintro e w' ⟨A', c', he, h1, h2, h3, _⟩
  exact ⟨A', c', he, h1, h2, h3⟩
end Go.Proofs.ZZ.GPush
end
section
namespace Go.Proofs.ZZ.G16
def lnk (g : List (Int × Int × List Int)) (k : Int) : List Int := ((g[k.toNat]?).map (·.2.2)).getD []
def zbn (g : List (Int × Int × List Int)) : Nat → List Int → List (List Int)
 | 0, row => [row]
 | n + 1, row => (lnk g (row.getLast?.getD 0)).flatMap fun k => zbn g n (row ++ [k])
def Bk (g : List (Int × Int × List Int)) : Nat → Int → Int → Prop
 | 0, a, b => a = b
 | n + 1, a, b => ∃ c, c ∈ lnk g a ∧ Bk g n c b
theorem zfi (g : List (Int × Int × List Int)) : ∀ (n : Nat) (pre : List Int) (a : Int) (row : List Int), row ∈ zbn g n (pre ++ [a]) → ∃ tl, row = pre ++ a :: tl ∧ tl.length = n ∧ Bk g n a ((a :: tl).getLast?.getD 0)
 | 0, pre, a, row, h => by
  obtain rfl : row = pre ++ [a] := by simpa [zbn] using h
  exact ⟨[], rfl, rfl, rfl⟩
 | n + 1, pre, a, row, h => by
  simp only [zbn, List.mem_flatMap] at h
  obtain ⟨k, hk, h⟩ := h
  rw [List.getLast?_append, List.getLast?_singleton] at hk
  obtain ⟨tl, rfl, hl, hb⟩ := zfi g n (pre ++ [a]) k row h
  refine ⟨k :: tl, by simp, by simp [hl], k, hk, ?_⟩
  rw [List.getLast?_cons_cons]
  exact hb
theorem walkR_all (g : List (Int × Int × List Int)) : ∀ (n : Nat) (pre : List Int) (a b : Int), Bk g n a b → ∃ tl, pre ++ a :: tl ∈ zbn g n (pre ++ [a]) ∧ (a :: tl).getLast?.getD 0 = b
 | 0, pre, a, b, h => ⟨[], by simp [zbn], h⟩
 | n + 1, pre, a, b, ⟨c, hc, h⟩ => by
  obtain ⟨tl, h1, h2⟩ := walkR_all g n (pre ++ [a]) c b h
  refine ⟨c :: tl, ?_, by rw [List.getLast?_cons_cons]; exact h2⟩
  simp only [zbn, List.mem_flatMap]
  refine ⟨c, by rw [List.getLast?_append, List.getLast?_singleton]; exact hc, ?_⟩
  simpa using h1
theorem Bk.snoc {g : List (Int × Int × List Int)} : ∀ {n : Nat} {a b c : Int}, Bk g n a b → c ∈ lnk g b → Bk g (n + 1) a c
 | 0, a, b, c, h, hc => by cases h; exact ⟨c, hc, rfl⟩
 | n + 1, a, b, c, ⟨d, hd, h⟩, hc => ⟨d, hd, Bk.snoc h hc⟩
theorem Bk.unsnoc {g : List (Int × Int × List Int)} : ∀ {n : Nat} {a c : Int}, Bk g (n + 1) a c → ∃ b, Bk g n a b ∧ c ∈ lnk g b
 | 0, a, c, ⟨d, hd, h⟩ => by cases h; exact ⟨a, rfl, hd⟩
 | n + 1, a, c, ⟨d, hd, h⟩ => by
  obtain ⟨b, h1, h2⟩ := Bk.unsnoc h
  exact ⟨b, ⟨d, hd, h1⟩, h2⟩
end Go.Proofs.ZZ.G16
end
section
namespace Go.Proofs.ZZ.GBack
open Go Go.RowKit Go.Shelf Go.Maps Go.Proofs.ZW.PrintWords Go.Proofs.ZW.PrintLast Go.Proofs.ZZ.GMap Go.Proofs.ZZ.GK Go.Proofs.ZZ.G16 Go.Proofs.ZZ.GGr Go.Proofs.ZZ.GAdd Go.Proofs.ZZ.GTop Go.Proofs.ZZ.GStk Go.Proofs.ZZ.GPush
theorem can_calls (A : Option Addr) (c : Nat) (m : Nat) (node n : Int) (w : World) (hm : m ≤ 4096) :
    Calls Try.prog 32 #[.agg #[.slice A m c], .int .i64 node, .int .i64 n] w fun e w' => e = .returned (.bool (decide (0 ≤ node ∧ node < (m : Int) ∧ 0 ≤ n ∧ n ≤ 64))) ∧ Below w.heap.size w w' := by
  obtain ⟨W1, hW1⟩ : ∃ X, w.alloc (.cells #[.slice A m c] TG) = X := ⟨_, rfl⟩
  have e1 : Below w.heap.size w W1 := by rw [← hW1]; exact (Below.refl _ _).alloc (Nat.le_refl _) _
  have b1 : W1.heap[w.heap.size]? = some (.cells #[.slice A m c] TG (0, 0)) := by rw [← hW1]; exact za3 _ _
  have c1 : W1.cell? ⟨w.heap.size, 0, none⟩ = some (.slice A m c) := zae b1 0
  clear b1
  obtain ⟨b, hb⟩ : ∃ b, decide (0 ≤ node ∧ node < (m : Int) ∧ 0 ≤ n ∧ n ≤ 64) = b := ⟨_, rfl⟩
  rw [hb]
  by_cases h1 : 0 ≤ node
  · by_cases h2 : node < (m : Int)
    · by_cases h3 : 0 ≤ n
      · by_cases h4 : n ≤ 64
        · have e : b = true := by rw [← hb]; exact decide_eq_true ⟨h1, h2, h3, h4⟩
          subst e;clear hb
          go_enter Try.func32, Try.ntmps32
          go_wp2;go_ret
          exact ⟨rfl, e1⟩
        · have e : b = false := by rw [← hb]; exact decide_eq_false (fun h => h4 h.2.2.2)
          subst e;clear hb
          go_enter Try.func32, Try.ntmps32
          go_wp2;go_ret
          exact ⟨rfl, e1⟩
      · have e : b = false := by rw [← hb]; exact decide_eq_false (fun h => h3 h.2.2.1)
        subst e;clear hb
        go_enter Try.func32, Try.ntmps32
        go_wp2;go_ret
        exact ⟨rfl, e1⟩
    · have e : b = false := by rw [← hb]; exact decide_eq_false (fun h => h2 h.2.1)
      subst e;clear hb
      go_enter Try.func32, Try.ntmps32
      go_wp2;go_ret
      exact ⟨rfl, e1⟩
  · have e : b = false := by rw [← hb]; exact decide_eq_false (fun h => h1 h.1)
    subst e;clear hb
    go_enter Try.func32, Try.ntmps32
    go_wp2;go_ret
    exact ⟨rfl, e1⟩
def backS (xs : List Nd) (l : List Int) : List Int := Lib.compact (GSrt.sorted (l.flatMap (lnk xs)))
def zb3 (xs : List Nd) (node : Int) : Nat → List Int
  | 0 => [node]
  | k + 1 => backS xs (zb3 xs node k)
def zb4 (xs : List Nd) (node n : Int) : List Int := if 0 ≤ node ∧ node < (xs.length : Int) ∧ 0 ≤ n ∧ n ≤ 64 then zb3 xs node n.toNat else []
theorem zed {xs : List Nd} {k : Int} {x : Nd} (h : xs[k.toNat]? = some x) : lnk xs k = x.2.2 := by unfold lnk; rw [h]; rfl
theorem rise_few {l : List Int} (hr : l.Pairwise (· < ·)) {n : Nat} (h : ∀ k ∈ l, 0 ≤ k ∧ k < (n : Int)) : l.length ≤ n := by
  have h1 := zcx (l.map Int.toNat) (List.range n) (List.pairwise_map.2 (hr.imp_of_mem fun {a b} ha hb hab e => by
    have := h a ha
    have := h b hb
    omega)) (fun x hx => by
    obtain ⟨k, hk, rfl⟩ := List.mem_map.1 hx
    have := h k hk
    exact List.mem_range.2 (by omega))
  rw [List.length_map, List.length_range] at h1
  exact h1
theorem zd6 {xs : List Nd} (hf : FitG xs) (k : Int) : (lnk xs k).length ≤ 4096 ∧ ∀ j ∈ lnk xs k, 0 ≤ j ∧ j < (xs.length : Int) := by
  unfold lnk
  cases h : xs[k.toNat]? with
  | none => exact ⟨Nat.zero_le _, fun _ h => nomatch h⟩
  | some x =>
    have ok := hf.ok x (List.mem_of_getElem? h)
    exact ⟨Nat.le_trans (rise_few ok.up ok.inn) hf.len, ok.inn⟩
theorem zf4 {xs : List Nd} (hf : FitG xs) : ∀ l : List Int, (l.flatMap (lnk xs)).length ≤ l.length * 4096
  | [] => Nat.zero_le _
  | a :: t => by
    have h1 := zf4 hf t
    have h2 := (zd6 hf a).1
    rw [List.flatMap_cons, List.length_append, List.length_cons]
    omega
theorem zdl {xs : List Nd} (hf : FitG xs) {node : Int} (h0 : 0 ≤ node) (h1 : node < (xs.length : Int)) : ∀ i, (zb3 xs node i).Pairwise (· < ·) ∧ ∀ k ∈ zb3 xs node i, 0 ≤ k ∧ k < (xs.length : Int)
  | 0 => ⟨List.pairwise_singleton _ _, fun k hk => by
      obtain rfl : k = node := by simpa [zb3] using hk
      exact ⟨h0, h1⟩⟩
  | i + 1 => by
    obtain ⟨r1, r2⟩ := GSrt.zep ((zb3 xs node i).flatMap (lnk xs))
    refine ⟨r1, fun k hk => ?_⟩
    obtain ⟨j, _, hj⟩ := List.mem_flatMap.1 ((r2 k).1 hk)
    exact (zd6 hf j).2 k hj
theorem backN_len {xs : List Nd} (hf : FitG xs) {node : Int} (h0 : 0 ≤ node) (h1 : node < (xs.length : Int)) (i : Nat) : (zb3 xs node i).length ≤ 4096 := by
  obtain ⟨r1, r2⟩ := zdl hf h0 h1 i
  exact Nat.le_trans (rise_few r1 r2) hf.len
theorem zcp {xs : List Nd} {node : Int} : ∀ (i : Nat) (k : Int), k ∈ zb3 xs node i ↔ Bk xs i node k
  | 0, k => by simp only [zb3, List.mem_singleton, Bk]; exact eq_comm
  | i + 1, k => by
    obtain ⟨_, r2⟩ := GSrt.zep ((zb3 xs node i).flatMap (lnk xs))
    have e : k ∈ zb3 xs node (i + 1) ↔ ∃ j ∈ zb3 xs node i, k ∈ lnk xs j := by
      show k ∈ Lib.compact (GSrt.sorted ((zb3 xs node i).flatMap (lnk xs))) ↔ _
      rw [r2, List.mem_flatMap]
    rw [e]
    constructor
    · rintro ⟨j, hj, hk⟩
      exact ((zcp i j).1 hj).snoc hk
    · intro h
      obtain ⟨j, hj, hk⟩ := h.unsnoc
      exact ⟨j, (zcp i j).2 hj, hk⟩
def flq (xs : List Nd) (l : List Int) (q : Nat) : List Int := (l.take q).flatMap (lnk xs)
theorem flq_snoc {xs : List Nd} {l : List Int} {q : Nat} {k : Int} (h : l[q]? = some k) : flq xs l (q + 1) = flq xs l q ++ lnk xs k := by
  unfold flq
  rw [zcd h, List.flatMap_append]
  simp
theorem flq_all (xs : List Nd) (l : List Int) : flq xs l l.length = l.flatMap (lnk xs) := by unfold flq; rw [List.take_length]
theorem flq_few {xs : List Nd} (hf : FitG xs) (l : List Int) (q : Nat) : (flq xs l q).length ≤ l.length * 4096 := by
  have := zf4 hf (l.take q)
  have h2 : (l.take q).length ≤ l.length := by rw [List.length_take]; omega
  exact Nat.le_trans this (Nat.mul_le_mul_right _ h2)
theorem zgd (A : Option Addr) (c : Nat) (xs : List Nd) (node n : Int) (w : World) (hC : Kd.C kN w A xs.length xs) (hf : FitG xs) :
    Calls Try.prog 11 #[.agg #[.slice A xs.length c], .int .i64 node, .int .i64 n] w fun e w' => ∃ v, e = .returned v ∧ Kd.R (Kd.int .i64) TI w' w.heap.size (fun _ => True) v (zb4 xs node n) ∧ Below w.heap.size w w' := by
  obtain ⟨W1, hW1⟩ : ∃ X, w.alloc (.cells #[.slice A xs.length c] TG) = X := ⟨_, rfl⟩
  have e1 : Below w.heap.size w W1 := by rw [← hW1]; exact (Below.refl _ _).alloc (Nat.le_refl _) _
  have b1 : W1.heap[w.heap.size]? = some (.cells #[.slice A xs.length c] TG (0, 0)) := by rw [← hW1]; exact za3 _ _
  have c1 : W1.cell? ⟨w.heap.size, 0, none⟩ = some (.slice A xs.length c) := zae b1 0
  have hcan := can_calls A c xs.length node n W1 hf.len
  have hlen := hf.len
  have HF := Lib.hid hf
  have B1 := Lib.hid b1
  clear hf b1
  by_cases hok : 0 ≤ node ∧ node < (xs.length : Int) ∧ 0 ≤ n ∧ n ≤ 64
  · rw [decide_eq_true hok] at hcan
    have hV : Hid (zb4 xs node n = zb3 xs node n.toNat) := Lib.hid (if_pos hok)
    obtain ⟨h1, h2, h3, h4⟩ := hok
    obtain ⟨N, hN⟩ : ∃ N : Nat, n = (N : Int) := ⟨n.toNat, by omega⟩
    subst hN
    go_enter Try.func11, Try.ntmps11
    go_wp2_with (first
      | (go_at_call 32
         refine hcan.mono ?_
         rintro e W2 ⟨rfl, hB2⟩
         obtain ⟨W3, hW3⟩ : ∃ X, W2.alloc (.cells #[.int .i64 node] TI) = X := ⟨_, rfl⟩)
      | go_in)
    have hb2 := e1.trans (hB2.mono e1.size)
    have hb3 : Below w.heap.size w W3 := by rw [← hW3]; exact hb2.alloc hb2.size _
    have b13 : W3.heap[w.heap.size]? = some (.cells #[.slice A xs.length c] TG (0, 0)) := by rw [← hW3]; exact zai (zaq B1.out hB2) _
    have R3 : Kd.R (Kd.int .i64) TI W3 w.heap.size (fun _ => True) (.slice (some ⟨W2.heap.size, 0, none⟩) 1 1) (zb3 xs node 0) := by
      rw [← hW3]
      exact Kd.zck (GSrt.own_R (l := [node]) (by simpa [GSrt.nums] using World.ownsRow_lit (base := W2.heap.size) (e := TI) (size := 1) W2 #[.int .i64 node] 1 (Nat.le_refl _) (by simp [maxLen]) rfl)) hb2.size
    go_loopw [19, 7] (fun i l wr => ∃ (j : Nat) (A7 : Option Addr) (c7 : Nat), i = .int .i64 (j : Int) ∧ j ≤ N ∧ l = .slice A7 (zb3 xs node j).length c7 ∧ Kd.R (Kd.int .i64) TI wr w.heap.size (fun _ => True) (.slice A7 (zb3 xs node j).length c7) (zb3 xs node j) ∧ Below w.heap.size w wr ∧ Hid (wr.heap[w.heap.size]? = some (.cells #[.slice A xs.length c] TG (0, 0)))) (fun i _ _ => N - (Go.RowKit.intOf i).toNat)
    case atStart => exact ⟨0, _, _, rfl, Nat.zero_le _, rfl, R3, hb3, Lib.hid b13⟩
    case round =>
      clear R3 hb3 b13 hcan
      obtain ⟨j, A7, c7, rfl, hj, rfl, hR, hb, hbx⟩ := hrel
      by_cases hlt : j < N
      · have hlb := backN_len HF.out h1 h2 j
        obtain ⟨r1, r2⟩ := zdl HF.out h1 h2 j
        have HR2 := Lib.hid r2
        have hnext : Hid (zb3 xs node (j + 1) = Lib.compact (GSrt.sorted ((zb3 xs node j).flatMap (lnk xs)))) := Lib.hid rfl
        obtain ⟨l, hl⟩ : ∃ l, zb3 xs node j = l := ⟨_, rfl⟩
        rw [hl] at hR hlb HR2 hnext ⊢
        clear r1 r2
        have hflat := zf4 HF.out l
        obtain ⟨s, hs⟩ : ∃ s, wr.heap.size = s := ⟨_, rfl⟩
        have hRs : Kd.R (Kd.int .i64) TI wr w.heap.size (fun k => k < s) (.slice A7 l.length c7) l := by rw [← hs]; exact Kd.zbr (Kd.zcs hR) (fun k hk => hk.2.2.1)
        have hws : w.heap.size ≤ s := by rw [← hs]; exact hb.size
        have hwss : w.heap.size < s := by rw [← hs]; exact zbc hbx.out
        have hn0 : Kd.R (Kd.int .i64) TI wr s (fun _ => True) (.slice none 0 0) (flq xs l 0) := by exact Kd.R_nil _ _ _ _ _
        have hs0 : s ≤ wr.heap.size := by omega
        clear hR hs;go_wp2
        go_loopw [23, 8] (fun i v wr => ∃ (q : Nat) (A8 : Option Addr) (c8 : Nat), i = .int .i64 (q : Int) ∧ q ≤ l.length ∧ v = .slice A8 (flq xs l q).length c8 ∧ Kd.R (Kd.int .i64) TI wr s (fun _ => True) (.slice A8 (flq xs l q).length c8) (flq xs l q) ∧ Hid (Kd.R (Kd.int .i64) TI wr w.heap.size (fun k => k < s) (.slice A7 l.length c7) l) ∧ Below w.heap.size w wr ∧ Hid (wr.heap[w.heap.size]? = some (.cells #[.slice A xs.length c] TG (0, 0))) ∧ s ≤ wr.heap.size) (fun i _ _ => l.length - (Go.RowKit.intOf i).toNat)
        case atStart => exact ⟨0, none, 0, rfl, Nat.zero_le _, rfl, hn0, Lib.hid hRs, hb, hbx, hs0⟩
        case round =>
          clear hn0 hRs hb hbx hs0
          obtain ⟨q, A8, c8, rfl, hq, rfl, hR, hL, hb, hbx, hsw⟩ := hrel
          by_cases hql : q < l.length
          · obtain ⟨k, hk⟩ : ∃ k, l[q]? = some k := ⟨l[q], List.getElem?_eq_getElem hql⟩
            obtain ⟨k0, k1⟩ := HR2.out k (List.mem_of_getElem? hk)
            obtain ⟨_, _, he7, _, hC7⟩ := Kd.zcl hL.out
            obtain ⟨rfl, rfl⟩ : A7 = _ ∧ c7 = _ := by injection he7 with e1 _ e2; exact ⟨e1, e2⟩
            obtain ⟨a7, hA7, f7⟩ := atI hC7 hk
            subst hA7
            have hkl : k.toNat < xs.length := by omega
            obtain ⟨x, hx⟩ : ∃ x, xs[k.toNat]? = some x := ⟨xs[k.toNat], List.getElem?_eq_getElem hkl⟩
            obtain ⟨ad, A2, c2, hA, f0, f1, f2, hc2, hI⟩ := zc2 (Kd.zaz hC hb) hx
            have cx : wr.cell? ⟨w.heap.size, 0, none⟩ = some (.slice A xs.length c) := zae hbx.out 0
            subst hA
            have hft := flq_few HF.out l q
            have hlk := (zd6 HF.out k).1
            rw [zed hx] at hlk
            have HSN : Hid (flq xs l (q + 1) = flq xs l q ++ x.2.2) := Lib.hid (by rw [flq_snoc hk, zed hx])
            have HI : zbq (fun (y : Int) cs => cs = [Value.int .i64 y]) (Kd.int .i64).sz wr A2 x.2.2.length x.2.2 := hI
            obtain ⟨m8, hm8⟩ : ∃ m, flq xs l q = m := ⟨_, rfl⟩
            rw [hm8] at hR HSN hft ⊢
            have hLo := Lib.hid (Kd.zdv hL.out)
            clear hI hx hk hm8
            go_wp2_with (first
              | (at_builtin
                 refine Kd.ze3 (Kd.int .i64) (Rr := fun y cs => cs = [Value.int .i64 y]) (w0 := w) (W := wr) w.heap.size rfl (.tmp 27) (.tmp 33) 31 TI (.int .i64 0) 8 rfl Try.underlying31 infoI rfl (by decide) (by decide) (.slice A8 m8.length c8) m8 x.2.2 A2 x.2.2.length c2 (fun _ => True) (fun _ => False) rfl rfl (Kd.zck hR hws) HI (fun y cs h => h) (fun _ h => h.elim) (fun _ _ => trivial) hb hb.size (by omega) ?_
                 intro v1 W5 R5 hB5 hg5 hat5
                 obtain ⟨A9, c9, rfl⟩ := Kd.zb6 R5)
              | go_in)
            obtain ⟨_, ho⟩ := Kd.zdv hR
            have R5s : Kd.R (Kd.int .i64) TI W5 s (fun _ => True) (.slice A9 (m8 ++ x.2.2).length c9) (m8 ++ x.2.2) := by
              obtain ⟨_, inner, ⟨hil, h5⟩, hr5⟩ := R5
              refine ⟨fun _ _ => trivial, inner, ⟨hil, ?_⟩, hr5.imp_ (fun _ _ h => h)⟩
              rcases h5 with h5 | ⟨g, cap, cur, hv, hg, rest⟩
              · exact .inl h5
              · refine .inr ⟨g, cap, cur, hv, ?_, rest⟩
                injection hv with hv _ _
                rcases hat5 with h | ⟨b, h, hb'⟩
                · rw [hv] at h
                  exact zbz ho g h.symm
                · rw [hv] at h
                  injection h with h
                  rw [show g = b from h]
                  omega
            have hL5 : Kd.R (Kd.int .i64) TI W5 w.heap.size (fun k => k < s) (.slice (some a7) l.length c7) l := Kd.R_grown hL.out hg5 (fun k hk e => by have := zbz ho k e.symm; omega)
            have hbx5 := zeh hbx.out hg5 (own_ne ho hbx.out (by decide))
            have hs5 : s ≤ W5.heap.size := by have := hg5.size; omega
            rw [← HSN.out] at R5s
            have hsl : (flq xs l (q + 1)).length = m8.length + x.2.2.length := by rw [HSN.out, List.length_append]
            clear hR hL hb hbx hLo HI cx f7 f0 f1 f2 R5
            go_roundw
            case rel => exact ⟨q + 1, A9, c9, by first | rfl | go_num, by omega, by rw [hsl], R5s, Lib.hid hL5, hB5, Lib.hid hbx5, hs5⟩
            case measure => simp [Go.RowKit.intOf]; omega
          · obtain rfl : q = l.length := by omega
            rw [flq_all] at hR ⊢
            obtain ⟨m8, hm8⟩ : ∃ m, l.flatMap (lnk xs) = m := ⟨_, rfl⟩
            rw [hm8] at hR hflat hnext ⊢
            have hst := GSrt.sort_own s (.slice A8 m8.length c8) m8 wr (GSrt.R_ownI hR) (by omega)
            have hsl : (GSrt.sorted m8).length = m8.length := List.length_mergeSort _
            have hcp := fun W h => GSrt.compact_own s (.slice A8 m8.length c8) (GSrt.sorted m8) W h
            obtain ⟨_, ho⟩ := Kd.zdv hR
            clear hm8
            go_wp2_with (first
              | (go_at_call 35
                 refine hst.mono ?_
                 rintro e W6 ⟨rfl, ho6, hg6⟩
                 have hcp6 := hcp W6 (by { rw [hsl]; exact ho6 }))
              | (go_at_call 36
                 refine hcp6.mono ?_
                 rintro e W7 ⟨v7, rfl, ho7, hg7, hk7⟩
                 obtain ⟨A9, c9, rfl⟩ : ∃ A c, v7 = .slice A (Lib.compact (GSrt.sorted m8)).length c := own_slice ho7)
              | go_in)
            have R7 := Kd.zck (GSrt.own_R ho7) hws
            have g67 : ∀ k, k < s → k < wr.heap.size → W7.heap[k]? = wr.heap[k]? := fun k hk hlt => by
              rw [hg7.block k (Nat.lt_of_lt_of_le hlt hg6.size) (fun e => by have := zbz ho k e.symm; omega)]
              exact hg6.block k hlt (fun e => by have := zbz ho k e.symm; omega)
            have hb7 : Below w.heap.size w W7 := (hb.grown hg6 hb.size (fun k e => by have := zbz ho k e; omega)).grown hg7 (Nat.le_trans hb.size hg6.size) (fun k e => by have := zbz ho k e; omega)
            have hbx7 := (g67 w.heap.size hwss (zbc hbx.out)).trans hbx.out
            rw [← hnext.out] at R7 ⊢
            clear hR hL hb hbx hst hcp ho6 ho7 hg6 hg7 g67 ho;go_wp2
            go_roundw
            case rel => exact ⟨j + 1, A9, c9, by first | rfl | go_num, by omega, rfl, R7, hb7, Lib.hid hbx7⟩
            case measure => simp [Go.RowKit.intOf]; omega
      · obtain rfl : j = N := by omega
        go_wp2;go_ret
        rw [Int.toNat_natCast] at hV
        exact ⟨_, rfl, by rw [hV.out]; exact hR, hb⟩
  · rw [decide_eq_false hok] at hcan
    have hV : Hid (zb4 xs node n = []) := Lib.hid (if_neg hok)
    clear hok
    go_enter Try.func11, Try.ntmps11
    go_wp2_with (first
      | (go_at_call 32
         refine hcan.mono ?_
         rintro e W2 ⟨rfl, hB2⟩)
      | go_in)
    go_ret
    exact ⟨_, rfl, by rw [hV.out]; exact Kd.R_nil _ _ _ _ _, e1.trans (hB2.mono e1.size)⟩
end Go.Proofs.ZZ.GBack
end
section
namespace Go.Proofs.ZZ.GCount
open Go Go.RowKit Go.Shelf Go.Maps Go.Proofs.ZW.PrintWords Go.Proofs.ZW.PrintLast Go.Proofs.ZW.PrintMore Go.Proofs.ZZ.GMap Go.Proofs.ZZ.GK Go.Proofs.ZZ.G16 Go.Proofs.ZZ.GGr Go.Proofs.ZZ.GAdd Go.Proofs.ZZ.GTop Go.Proofs.ZZ.GStk Go.Proofs.ZZ.GPush Go.Proofs.ZZ.GBack
attribute [local go_sem] zca zcg
abbrev TMm : TypeId := 72
def encC (C : List (Int × Int)) : List (Int × Value) := C.map fun p => (p.1, .int .i64 p.2)
def putC : List (Int × Int) → Int → Int → List (Int × Int)
 | [], x, v => [(x, v)]
 | p :: t, x, v => if p.1 = x then (x, v) :: t else p :: putC t x v
def getC : List (Int × Int) → Int → Int
 | [], _ => 0
 | p :: t, x => if p.1 = x then p.2 else getC t x
def sumC (C : List (Int × Int)) : Int := (C.map (·.2)).sum
theorem enc_put (x v : Int) : ∀ C, putM (encC C) x (.int .i64 v) = encC (putC C x v)
 | [] => rfl
 | p :: t => by
  have ih := enc_put x v t
  unfold encC at ih ⊢
  simp only [List.map_cons, putM, putC]
  split
  ·simp
  ·simp [ih]
theorem enc_look (x : Int) : ∀ C, (GMap.look (encC C) x).getD (.int .i64 0) = .int .i64 (getC C x)
 | [] => rfl
 | p :: t => by
  have ih := enc_look x t
  unfold encC at ih ⊢
  simp only [List.map_cons, GMap.look, getC]
  split
  ·rfl
  ·exact ih
theorem zdr (C : List (Int × Int)) : (encC C).map (·.1) = C.map (·.1) := by unfold encC; rw [List.map_map]; rfl
theorem putC_keys (x v y : Int) : ∀ C, y ∈ (putC C x v).map (·.1) ↔ y = x ∨ y ∈ C.map (·.1)
 | [] => by simp [putC]
 | p :: t => by
  have ih := putC_keys x v y t
  simp only [putC]
  split
  ·rename_i e
   simp only [List.map_cons, List.mem_cons, e]
   constructor
   ·rintro (h | h)
    ·exact .inl h
    ·exact .inr (.inr h)
   ·rintro (h | h | h)
    ·exact .inl h
    ·exact .inl h
    ·exact .inr h
  ·simp only [List.map_cons, List.mem_cons, ih]
   constructor
   ·rintro (h | h | h)
    ·exact .inr (.inl h)
    ·exact .inl h
    ·exact .inr (.inr h)
   ·rintro (h | h | h)
    ·exact .inr (.inl h)
    ·exact .inl h
    ·exact .inr (.inr h)
theorem putC_pos {x v : Int} (hv : 1 ≤ v ∧ v ≤ 4001) : ∀ {C : List (Int × Int)}, (∀ p ∈ C, 1 ≤ p.2 ∧ p.2 ≤ 4001) → ∀ p ∈ putC C x v, 1 ≤ p.2 ∧ p.2 ≤ 4001
 | [], _, p, hp => by
  obtain rfl : p = (x, v) := by simpa [putC] using hp
  exact hv
 | q :: t, h, p, hp => by
  simp only [putC] at hp
  split at hp
  ·rcases List.mem_cons.1 hp with rfl | hp
   ·exact hv
   ·exact h p (List.mem_cons_of_mem _ hp)
  ·rcases List.mem_cons.1 hp with rfl | hp
   ·exact h p List.mem_cons_self
   ·exact putC_pos hv (fun p hp => h p (List.mem_cons_of_mem _ hp)) p hp
theorem zf5 (x : Int) : ∀ {C : List (Int × Int)}, (∀ p ∈ C, 1 ≤ p.2 ∧ p.2 ≤ 4001) → 0 ≤ getC C x ∧ getC C x ≤ 4001
 | [], _ => by simp [getC]
 | p :: t, h => by
  have ih := zf5 x (C := t) (fun p hp => h p (List.mem_cons_of_mem _ hp))
  have := h p List.mem_cons_self
  simp only [getC]
  split
  ·omega
  ·exact ih
def zd0 (C : List (Int × Int)) (done : List Int) : Int := sumC (C.filter fun p => decide (p.1 ∈ done))
theorem ze5 (C : List (Int × Int)) (hn : (C.map (·.1)).Nodup) (done : List Int) {x v : Int} (hx : (x, v) ∈ C) (hd : x ∉ done) : zd0 C (done ++ [x]) = zd0 C done + v := by
 unfold zd0
 induction C with
 | nil => cases hx
 | cons p t ih =>
  obtain ⟨h1, h2⟩ := List.nodup_cons.1 (show (p.1 :: t.map (·.1)).Nodup from hn)
  rcases List.mem_cons.1 hx with rfl | hx
  ·have e1 : (t.filter fun p => decide (p.1 ∈ done ++ [x])) = t.filter fun p => decide (p.1 ∈ done) := by
    refine List.filter_congr fun q hq => ?_
    have : q.1 ≠ x := fun e => h1 (by rw [← e]; exact List.mem_map.2 ⟨q, hq, rfl⟩)
    simp [this]
   rw [List.filter_cons_of_pos (by simp), List.filter_cons_of_neg (by simpa using hd), e1]
   unfold sumC
   simp only [List.map_cons, List.sum_cons]
   omega
  ·have hpx : p.1 ≠ x := fun e => h1 (by rw [e]; exact List.mem_map.2 ⟨_, hx, rfl⟩)
   have := ih h2 hx
   by_cases hp : p.1 ∈ done
   ·rw [List.filter_cons_of_pos (by simp [hp]), List.filter_cons_of_pos (by simp [hp])]
    unfold sumC at this ⊢
    simp only [List.map_cons, List.sum_cons]
    omega
   ·rw [List.filter_cons_of_neg (by simp [hp, hpx]), List.filter_cons_of_neg (by simpa using hp)]
    exact this
theorem part_all {C : List (Int × Int)} {done : List Int} (h : ∀ x, x ∈ C.map (·.1) → x ∈ done) : zd0 C done = sumC C := by
 unfold zd0
 rw [List.filter_eq_self.2 (fun p hp => decide_eq_true (h p.1 (List.mem_map.2 ⟨p, hp, rfl⟩)))]
theorem part_nil (C : List (Int × Int)) : zd0 C [] = 0 := by
 unfold zd0
 have : C.filter (fun p => decide (p.1 ∈ ([] : List Int))) = [] := List.filter_eq_nil_iff.2 (fun p _ => by simp)
 rw [this]
 rfl
def wR (xs : List Nd) : Nat → Int → Int
 | 0, _ => 1
 | n + 1, a => ((lnk xs a).map (wR xs n)).sum
theorem zd4 : ∀ {l : List Int}, (∀ x ∈ l, 0 ≤ x) → 0 ≤ l.sum
 | [], _ => by simp
 | a :: t, h => by
  have h1 := zd4 (l := t) (fun x hx => h x (List.mem_cons_of_mem _ hx))
  have h2 := h a List.mem_cons_self
  rw [List.sum_cons]
  omega
theorem zc5 (xs : List Nd) : ∀ (n : Nat) (a : Int), 0 ≤ wR xs n a
 | 0, _ => by unfold wR; decide
 | n + 1, a => zd4 (fun x hx => by
  obtain ⟨k, _, rfl⟩ := List.mem_map.1 hx
  exact zc5 xs n k)
theorem walkR_len (xs : List Nd) : ∀ (n : Nat) (row : List Int), ((zbn xs n row).length : Int) = wR xs n (row.getLast?.getD 0)
 | 0, row => by simp [zbn, wR]
 | n + 1, row => by
  simp only [zbn, wR]
  generalize lnk xs (row.getLast?.getD 0) = l
  induction l with
  | nil => simp
  | cons k t ih =>
   have h1 := walkR_len xs n (row ++ [k])
   simp only [List.getLast?_append, List.getLast?_singleton, Option.some_or, Option.getD_some] at h1
   simp only [List.flatMap_cons, List.length_append, List.map_cons, List.sum_cons]
   omega
def sumW (w : Int → Int) (C : List (Int × Int)) : Int := (C.map fun p => p.2 * w p.1).sum
theorem zcu (w : Int → Int) (p : Int × Int) (C : List (Int × Int)) : sumW w (p :: C) = p.2 * w p.1 + sumW w C := by unfold sumW; rw [List.map_cons, List.sum_cons]
theorem zfz {w : Int → Int} (hw : ∀ k, 0 ≤ w k) {C : List (Int × Int)} (h : ∀ p ∈ C, 0 ≤ p.2) : 0 ≤ sumW w C := zd4 (fun x hx => by
 obtain ⟨p, hp, rfl⟩ := List.mem_map.1 hx
 exact Int.mul_nonneg (h p hp) (hw _))
theorem zej (w : Int → Int) (x v : Int) : ∀ C, sumW w (putC C x v) = sumW w C - getC C x * w x + v * w x
 | [] => by simp [putC, sumW, getC]
 | p :: t => by
  have ih := zej w x v t
  simp only [putC, getC]
  split
  ·rename_i e
   rw [zcu, zcu, e]
   show v * w x + sumW w t = _
   omega
  ·rw [zcu, zcu, ih]
   omega
theorem zfw {x v : Int} (hv : 0 ≤ v) : ∀ {C : List (Int × Int)}, (∀ p ∈ C, 0 ≤ p.2) → ∀ p ∈ putC C x v, 0 ≤ p.2
 | [], _, p, hp => by
  obtain rfl : p = (x, v) := by simpa [putC] using hp
  exact hv
 | q :: t, h, p, hp => by
  simp only [putC] at hp
  split at hp
  ·rcases List.mem_cons.1 hp with rfl | hp
   ·exact hv
   ·exact h p (List.mem_cons_of_mem _ hp)
  ·rcases List.mem_cons.1 hp with rfl | hp
   ·exact h p List.mem_cons_self
   ·exact zfw hv (fun p hp => h p (List.mem_cons_of_mem _ hp)) p hp
theorem put_low {w : Int → Int} (hw : ∀ k, 0 ≤ w k) {C : List (Int × Int)} (hp : ∀ p ∈ C, 0 ≤ p.2) {T R x v : Int} (hT : T ≤ 4001) (hR : 0 ≤ R) (h : T ≤ sumW w C + (R + v * w x)) (v' : Int) (hv' : v' = getC C x + v ∨ v' = 4001) : T ≤ sumW w (putC C x v') + R := by
 have h1 := zej w x v' C
 have h0 := zej w x 0 C
 have h2 := zfz hw (zfw (x := x) (Int.le_refl 0) hp)
 rw [Int.zero_mul] at h0
 rcases hv' with e | e
 ·rw [e, Int.add_mul] at h1
  rw [e]
  omega
 ·rcases Int.lt_or_le 0 (w x) with h3 | h3
  ·have : (4001 : Int) * 1 ≤ 4001 * w x := Int.mul_le_mul_of_nonneg_left (by omega) (by decide)
   rw [e] at h1 ⊢
   omega
  ·have e0 : w x = 0 := by have := hw x; omega
   rw [e0, Int.mul_zero] at h1 h
   rw [Int.mul_zero] at h1
   omega
def zce (w : Int → Int) (C : List (Int × Int)) (done : List Int) : Int := sumW w (C.filter fun p => decide (p.1 ∉ done))
theorem zfe (w : Int → Int) (C : List (Int × Int)) : zce w C [] = sumW w C := by
 unfold zce
 rw [List.filter_eq_self.2 (fun p hp => by simp)]
theorem zfd {w : Int → Int} {C : List (Int × Int)} {done : List Int} (h : ∀ x, x ∈ C.map (·.1) → x ∈ done) : zce w C done = 0 := by
 unfold zce
 have : C.filter (fun p => decide (p.1 ∉ done)) = [] := List.filter_eq_nil_iff.2 (fun p hp => by simpa using h p.1 (List.mem_map.2 ⟨p, hp, rfl⟩))
 rw [this]
 rfl
theorem zff {w : Int → Int} (hw : ∀ k, 0 ≤ w k) {C : List (Int × Int)} (h : ∀ p ∈ C, 1 ≤ p.2 ∧ p.2 ≤ 4001) (done : List Int) : 0 ≤ zce w C done := zfz hw (fun p hp => by have := h p (List.mem_filter.1 hp).1; omega)
theorem zgl (w : Int → Int) (C : List (Int × Int)) (hn : (C.map (·.1)).Nodup) (done : List Int) {x v : Int} (hx : (x, v) ∈ C) (hd : x ∉ done) : zce w C done = zce w C (done ++ [x]) + v * w x := by
 unfold zce
 induction C with
 | nil => cases hx
 | cons p t ih =>
  obtain ⟨h1, h2⟩ := List.nodup_cons.1 (show (p.1 :: t.map (·.1)).Nodup from hn)
  rcases List.mem_cons.1 hx with rfl | hx
  ·have e1 : (t.filter fun p => decide (p.1 ∉ done ++ [x])) = t.filter fun p => decide (p.1 ∉ done) := by
    refine List.filter_congr fun q hq => ?_
    have : q.1 ≠ x := fun e => h1 (by rw [← e]; exact List.mem_map.2 ⟨q, hq, rfl⟩)
    simp [this]
   rw [List.filter_cons_of_pos (by simpa using hd), List.filter_cons_of_neg (by simp), e1, zcu]
   show v * w x + _ = _
   omega
  ·have hpx : p.1 ≠ x := fun e => h1 (by rw [e]; exact List.mem_map.2 ⟨_, hx, rfl⟩)
   have := ih h2 hx
   by_cases hp : p.1 ∈ done
   ·rw [List.filter_cons_of_neg (by simp [hp]), List.filter_cons_of_neg (by simp [hp])]
    exact this
   ·rw [List.filter_cons_of_pos (by simp [hp]), List.filter_cons_of_pos (by simp [hp, hpx]), zcu, zcu]
    omega
theorem sum_drop {f : Int → Int} {l : List Int} {q : Nat} {k : Int} (h : l[q]? = some k) : ((l.drop q).map f).sum = f k + ((l.drop (q + 1)).map f).sum := by
 obtain ⟨hq, rfl⟩ := List.getElem?_eq_some_iff.1 h
 rw [List.drop_eq_getElem_cons hq, List.map_cons, List.sum_cons]
structure LevAt (xs : List Nd) (node U : Int) (i mb : Nat) (T : Int) (n : Nat) (C : List (Int × Int)) (W : World) : Prop where
 map : MapAt keyI mb (encC C) W
 pos : ∀ p ∈ C, 1 ≤ p.2 ∧ p.2 ≤ 4001
 key : ∀ k, k ∈ C.map (·.1) ↔ Bk xs i node k
 sum : sumW (wR xs n) C ≤ U
 low : T ≤ sumW (wR xs n) C
def Hit (xs : List Nd) (done : List Int) (j : Int) : Prop := ∃ k ∈ done, j ∈ lnk xs k
theorem Bk_in {xs : List Nd} (hf : FitG xs) {node : Int} (h0 : 0 ≤ node) (h1 : node < (xs.length : Int)) {i : Nat} {k : Int} (h : Bk xs i node k) : 0 ≤ k ∧ k < (xs.length : Int) := (zdl hf h0 h1 i).2 k ((zcp i k).2 h)
theorem keys_few {C : List (Int × Int)} (hn : (C.map (·.1)).Nodup) {n : Nat} (h : ∀ k ∈ C.map (·.1), 0 ≤ k ∧ k < (n : Int)) : C.length ≤ n := by
 have h1 := zcx ((C.map (·.1)).map Int.toNat) (List.range n) (List.pairwise_map.2 ((show (C.map (·.1)).Pairwise (· ≠ ·) from hn).imp_of_mem fun {a b} ha hb hab e => hab (by
  have := h a ha
  have := h b hb
  omega))) (fun x hx => by
  obtain ⟨k, hk, rfl⟩ := List.mem_map.1 hx
  have := h k hk
  exact List.mem_range.2 (by omega))
 rw [List.length_map, List.length_map, List.length_range] at h1
 exact h1
theorem Bk_snoc_iff {xs : List Nd} {i : Nat} {node j : Int} : Bk xs (i + 1) node j ↔ ∃ k, Bk xs i node k ∧ j ∈ lnk xs k := ⟨Bk.unsnoc, fun ⟨_, h1, h2⟩ => h1.snoc h2⟩
def mn (a : Int) : Int := if 4001 < a then 4001 else a
structure zcc (xs : List Nd) (U : Int) (nb : Nat) (T : Int) (n : Nat) (R : Int) (P : Int → Prop) (C : List (Int × Int)) (W : World) : Prop where
 map : MapAt keyI nb (encC C) W
 pos : ∀ p ∈ C, 1 ≤ p.2 ∧ p.2 ≤ 4001
 key : ∀ k, k ∈ C.map (·.1) ↔ P k
 sum : sumW (wR xs n) C + R ≤ U
 low : T ≤ sumW (wR xs n) C + R
theorem zcc.keep {xs : List Nd} {U : Int} {nb : Nat} {T : Int} {n : Nat} {R : Int} {P : Int → Prop} {C : List (Int × Int)} {W W' : World} (h : zcc xs U nb T n R P C W) (hb : W'.heap[nb]? = W.heap[nb]?) : zcc xs U nb T n R P C W' := ⟨h.map.keep hb, h.pos, h.key, h.sum, h.low⟩
theorem zcc.put {xs : List Nd} {U : Int} {nb : Nat} {T : Int} {n : Nat} {R : Int} {P : Int → Prop} {C : List (Int × Int)} {W : World} {j v : Int} (h : zcc xs U nb T n (R + v * wR xs n j) P C W) (hT : T ≤ 4001) (hR : 0 ≤ R) (hj : (Lit.int .i64 j).wf = true) (hv : 1 ≤ v ∧ v ≤ 4001) (hl : C.length < 1000000) :
  ∃ W', (Instr.mapUpdate TMm (.map (some nb)) (.int .i64 j) (.int .i64 (mn (getC C j + v)))).run Try.prog W = .ok () W' ∧ W.grownBy W' (some nb) ∧ zcc xs U nb T n R (fun k => P k ∨ k = j) (putC C j (mn (getC C j + v))) W' := by
 have hg := zf5 j h.pos
 have hm : 1 ≤ mn (getC C j + v) ∧ mn (getC C j + v) ≤ 4001 ∧ mn (getC C j + v) ≤ getC C j + v := by unfold mn; split <;> omega
 obtain ⟨W', h1, h2, h3⟩ := h.map.put (t := TMm) (e := 3) Try.underlying72 (by unfold encC; rw [List.length_map]; unfold maxLen; omega) hj (.int .i64 (mn (getC C j + v)))
 rw [enc_put] at h2
 refine ⟨W', h1, h3, h2, putC_pos ⟨hm.1, hm.2.1⟩ h.pos, fun k => ?_, ?_, put_low (zc5 xs n) (fun p hp => by have := h.pos p hp; omega) hT hR h.low _ (by unfold mn; split <;> simp)⟩
 ·rw [putC_keys, h.key]
  exact Or.comm
 ·have h1 := zej (wR xs n) j (mn (getC C j + v)) C
  have h2 := h.sum
  have h3 : mn (getC C j + v) * wR xs n j ≤ (getC C j + v) * wR xs n j := Int.mul_le_mul_of_nonneg_right hm.2.2 (zc5 xs n j)
  rw [Int.add_mul] at h3
  omega
theorem zcc.same {xs : List Nd} {U : Int} {nb : Nat} {T : Int} {n : Nat} {R R' : Int} {P P' : Int → Prop} {C : List (Int × Int)} {W : World} (h : zcc xs U nb T n R P C W) (hP : ∀ k, P k ↔ P' k) (hR : R = R') : zcc xs U nb T n R' P' C W := ⟨h.map, h.pos, fun k => (h.key k).trans (hP k), by rw [← hR]; exact h.sum, by rw [← hR]; exact h.low⟩
theorem sumW_one (xs : List Nd) : ∀ C, sumW (wR xs 0) C = sumC C
 | [] => rfl
 | p :: t => by
  rw [zcu, sumW_one xs t]
  unfold sumC
  rw [List.map_cons, List.sum_cons, show wR xs 0 p.1 = 1 from rfl, Int.mul_one]
theorem look_enc {C : List (Int × Int)} {x : Int} {v : Value} (h : GMap.look (encC C) x = some v) : ∃ cv, v = .int .i64 cv ∧ (x, cv) ∈ C := by
 induction C with
 | nil => cases h
 | cons p t ih =>
  unfold encC at h ih
  simp only [List.map_cons, GMap.look] at h
  split at h
  ·rename_i e
   injection h with h
   subst e
   exact ⟨p.2, h.symm, List.mem_cons_self⟩
  ·obtain ⟨cv, h1, h2⟩ := ih h
   exact ⟨cv, h1, List.mem_cons_of_mem _ h2⟩
theorem count_calls (A : Option Addr) (c : Nat) (xs : List Nd) (node : Int) (N : Nat) (w : World) (hC : Kd.C kN w A xs.length xs) (hf : FitG xs) (h0 : 0 ≤ node) (h1 : node < (xs.length : Int)) (hN : N ≤ 64) :
  Calls Try.prog 33 #[.agg #[.slice A xs.length c], .int .i64 node, .int .i64 (N : Int)] w fun e w' => ∃ r : Int, e = .returned (.int .i64 r) ∧ 0 ≤ r ∧ (r = 0 ↔ ∀ k, ¬ Bk xs N node k) ∧ r ≤ wR xs N node ∧ (r ≤ 4000 → wR xs N node ≤ r) ∧ Below w.heap.size w w' := by
 obtain ⟨T, hTd⟩ : ∃ T, T = mn (wR xs N node) := ⟨_, rfl⟩
 obtain ⟨U, hU⟩ : ∃ U, U = wR xs N node := ⟨_, rfl⟩
 have hT4 : T ≤ 4001 := by rw [hTd]; unfold mn; split <;> omega
 have hTw : T ≤ wR xs N node := by rw [hTd]; unfold mn; split <;> omega
 obtain ⟨W1, hW1⟩ : ∃ X, w.alloc (.cells #[.slice A xs.length c] TG) = X := ⟨_, rfl⟩
 have e1 : Below w.heap.size w W1 := by rw [← hW1]; exact (Below.refl _ _).alloc (Nat.le_refl _) _
 have b1 : W1.heap[w.heap.size]? = some (.cells #[.slice A xs.length c] TG (0, 0)) := by rw [← hW1]; exact za3 _ _
 obtain ⟨mb, hmb⟩ : ∃ b, W1.heap.size = b := ⟨_, rfl⟩
 obtain ⟨W2, hW2⟩ : ∃ X, W1.alloc (.map #[] 0) = X := ⟨_, rfl⟩
 have e2 : Below w.heap.size w W2 := by rw [← hW2]; exact e1.alloc e1.size _
 have b2 : W2.heap[w.heap.size]? = some (.cells #[.slice A xs.length c] TG (0, 0)) := by rw [← hW2]; exact zai b1 _
 have m2 : MapAt keyI mb [] W2 := by rw [← hW2, ← hmb]; exact MapAt.new _
 have hlen := hf.len
 have hnw : (Lit.int .i64 node).wf = true := zcq h0 (by omega)
 obtain ⟨W3, hins, m3, g3⟩ := m2.put (t := TMm) (e := 3) Try.underlying72 (by decide) hnw (.int .i64 1)
 have hins' : (Instr.mapUpdate TMm (.map (some mb)) (.int .i64 node) (.int .i64 1)).run Try.prog W2 = .ok () W3 := hins
 have hmw : w.heap.size ≤ mb := by rw [← hmb]; exact e1.size
 have e3 : Below w.heap.size w W3 := e2.grown g3 e2.size (fun k e => by cases e; exact hmw)
 have b3 : W3.heap[w.heap.size]? = some (.cells #[.slice A xs.length c] TG (0, 0)) := cells_map g3 b2 m2.block
 have l3 : LevAt xs node U 0 mb T (N - 0) [(node, 1)] W3 := ⟨m3, (fun p hp => by
  obtain rfl : p = (node, 1) := by simpa using hp
  exact ⟨Int.le_refl _, by show (1 : Int) ≤ 4001; decide⟩), (fun k => by simp [Bk, eq_comm]), by rw [hU]; simp [sumW], by simpa [sumW] using hTw⟩
 have HTD := Lib.hid hTd
 clear hTd hTw
 have hmm := @run_makeMap Try.prog
 have HF := Lib.hid hf
 have HU := Lib.hid hU
 clear hins m3 g3 m2 b2 b1 e2 e1 hf hU
 go_enter Try.func33, Try.ntmps33
 go_wp2
 go_loopw [20, 7] (fun i mv wr => ∃ (j mb : Nat) (C : List (Int × Int)), i = .int .i64 (j : Int) ∧ mv = .map (some mb) ∧ j ≤ N ∧ LevAt xs node U j mb T (N - j) C wr ∧ Hid (wr.heap[w.heap.size]? = some (.cells #[.slice A xs.length c] TG (0, 0))) ∧ Below w.heap.size w wr ∧ w.heap.size ≤ mb) (fun i _ _ => N - (Go.RowKit.intOf i).toNat)
 case atStart => exact ⟨0, mb, _, rfl, rfl, Nat.zero_le _, l3, Lib.hid b3, e3, hmw⟩
 case round =>
  clear l3 b3 e3 hmw hins' hW2 hmb hW1
  obtain ⟨j, mb, C, rfl, rfl, hj, hl, hbx, hb, hmw⟩ := hrel
  by_cases hlt : j < N
  ·obtain ⟨nb, hnb⟩ : ∃ b, wr.heap.size = b := ⟨_, rfl⟩
   obtain ⟨W4, hW4⟩ : ∃ X, wr.alloc (.map #[] 0) = X := ⟨_, rfl⟩
   obtain ⟨nl, hnl⟩ : ∃ n, n = N - (j + 1) := ⟨_, rfl⟩
   have hNj : N - j = nl + 1 := by omega
   rw [hNj] at hl
   have hn4 : zcc xs U nb T nl (zce (wR xs (nl + 1)) C []) (Hit xs []) [] W4 := ⟨by rw [← hW4, ← hnb]; exact MapAt.new _, (fun _ h => nomatch h), fun k => by simp [Hit], by rw [zfe]; have := hl.sum; simp only [sumW, List.map_nil, List.sum_nil] at this ⊢; omega, by rw [zfe]; have := hl.low; simp only [sumW, List.map_nil, List.sum_nil] at this ⊢; omega⟩
   have HNL := Lib.hid hnl
   clear hnl hNj
   have hm4 : MapAt keyI mb (encC C) W4 := by rw [← hW4]; exact MapAt.kept hl.map (zar.alloc _ _)
   have hb4 : Below w.heap.size w W4 := by rw [← hW4]; exact hb.alloc hb.size _
   have hbx4 : W4.heap[w.heap.size]? = some (.cells #[.slice A xs.length c] TG (0, 0)) := by rw [← hW4]; exact zai hbx.out _
   have hmn : mb < nb := by rw [← hnb]; exact hl.map.lt
   have hnw4 : w.heap.size ≤ nb := by rw [← hnb]; exact hb.size
   have HL := Lib.hid hl
   have hcn : (C.map (·.1)).Nodup := by have := hl.map.1; rwa [zdr] at this
   clear hl hb hbx
   go_wp2_with (first
    | (at_range; go_loud (refine ze2 (K := keyI) _ rfl _ TMm rfl 3 Try.underlying72 rfl hm4 ?_; intro w0 hrg0 hg0 hs0))
    | go_in)
   (try go_frame)
   obtain ⟨r2, hr2⟩ : ∃ r2, W4.heap.size = r2 := ⟨_, rfl⟩
   rw [hr2] at hrg0
   (try rw [hr2])
   have hn0 : zcc xs U nb T nl (zce (wR xs (nl + 1)) C []) (Hit xs []) [] w0 := by
    exact hn4.keep (hg0.block nb hn4.map.lt (by simp))
   have hb0 : Below w.heap.size w w0 := hb4.grown hg0 hb4.size (fun k e => by cases e)
   have hbx0 := zeh hbx4 hg0 (by simp)
   have hnr : nb < r2 := by rw [← hr2]; exact hn4.map.lt
   have HNB := Lib.hid hnb
   clear hn4 hm4 hb4 hbx4 hg0 hs0 hW4 hr2 hnb
   go_loopw [25] (fun _ wr => ∃ (done : List Int) (cnt : Nat) (C' : List (Int × Int)), Ranges keyI mb r2 (encC C) done cnt wr ∧ zcc xs U nb T nl (zce (wR xs (nl + 1)) C done) (Hit xs done) C' wr ∧ Hid (wr.heap[w.heap.size]? = some (.cells #[.slice A xs.length c] TG (0, 0))) ∧ Below w.heap.size w wr) (fun _ wr => wr.rangeLeft mb r2)
   case atStart => exact ⟨[], _, [], hrg0, hn0, Lib.hid hbx0, hb0⟩
   case round =>
    clear hrg0 hn0 hb0 hbx0
    obtain ⟨done, cnt, C', hrg, hnx, hbx, hb⟩ := hrel
    go_wp2_with (first
     | (at_next; go_loud (refine zfp _ rfl _ rfl rfl hrg ?_ ?_))
     | go_in)
    ·intro hdone
     have hall : ∀ x, x ∈ C.map (·.1) ↔ x ∈ done := fun x => by rw [← hdone.all, zdr]
     have hlN : LevAt xs node U (j + 1) nb T (N - (j + 1)) C' wr := by
      rw [← HNL.out]
      refine ⟨hnx.map, hnx.pos, fun k => ?_, ?_, by have h1 := hnx.low; rw [zfd (fun x hx => (hall x).1 hx)] at h1; omega⟩
      ·rw [hnx.key, Bk_snoc_iff]
       unfold Hit
       constructor
       ·rintro ⟨q, hq, hk⟩
        exact ⟨q, (HL.out.key q).1 ((hall q).2 hq), hk⟩
       ·rintro ⟨q, hq, hk⟩
        exact ⟨q, (hall q).1 ((HL.out.key q).2 hq), hk⟩
      ·have hs := hnx.sum
       rw [zfd (fun x hx => (hall x).1 hx)] at hs
       omega
     clear hdone hrg hnx hall;go_wp2
     go_roundw
     case rel => exact ⟨j + 1, nb, C', by first | rfl | go_num, rfl, by omega, hlN, hbx, hb, hnw4⟩
     case measure => simp [Go.RowKit.intOf]; omega
    ·rintro ⟨x⟩ xv w1 cnt1 HX
     obtain ⟨cv, rfl, hcm⟩ := look_enc HX.look
     have hcm : (x, cv) ∈ C := hcm
     have hbk : Bk xs j node x := (HL.out.key x).1 (List.mem_map.2 ⟨_, hcm, rfl⟩)
     obtain ⟨x0, x1⟩ := Bk_in HF.out h0 h1 hbk
     obtain ⟨cv1, cv2⟩ : 1 ≤ cv ∧ cv ≤ 4001 := HL.out.pos _ hcm
     have hxl : x.toNat < xs.length := by omega
     obtain ⟨nd, hnd⟩ : ∃ nd, xs[x.toNat]? = some nd := ⟨xs[x.toNat], List.getElem?_eq_getElem hxl⟩
     have hlnk := zed hnd
     have hrg1 : Ranges keyI mb r2 (encC C) (done ++ [x]) cnt1 w1 := HX.rg
     have hlt1 := HX.lt
     have hg1 := HX.gr
     have hnw1 : x ∉ done := HX.new
     have hen' : (Instr.entry (.pointer (some ⟨r2, 0, none⟩))).run Try.prog w1 = .ok (.tuple #[.int .i64 x, .int .i64 cv]) w1 := HX.en
     have hmeas : cnt1 < wr.rangeLeft mb r2 := by rw [hrg.left]; exact hlt1
     have hrs := zgl (wR xs (nl + 1)) C hcn done hcm hnw1
     have hr0 := zff (zc5 xs (nl + 1)) HL.out.pos (done ++ [x])
     have hwx : wR xs (nl + 1) x = (nd.2.2.map (wR xs nl)).sum := by rw [← hlnk]; rfl
     rw [hwx] at hrs
     have HR0 := Lib.hid hr0
     have hnx1 : zcc xs U nb T nl (zce (wR xs (nl + 1)) C (done ++ [x]) + cv * ((nd.2.2.drop 0).map (wR xs nl)).sum) (fun k => Hit xs done k ∨ k ∈ nd.2.2.take 0) C' w1 := (hnx.keep (hg1.block nb hnx.map.lt (fun e => by injection e with e; omega))).same (fun k => by simp) (by rw [List.drop_zero]; omega)
     have hck := zgh hg1 hrg.iter
     have hbx1 := hck _ _ _ _ hbx.out
     have hb1 : Below w.heap.size w w1 := hb.grown hg1 hb.size (fun k e => by cases e; omega)
     obtain ⟨ad, A2, c2, hA, f0, f1, f2, hc2, hI⟩ := zc2 (Kd.zaz hC hb1) hnd
     have cx : w1.cell? ⟨w.heap.size, 0, none⟩ = some (.slice A xs.length c) := zae hbx1 0
     have hpart := ze5 C hcn done hcm hnw1
     have hIr := (HF.out.ok nd (List.mem_of_getElem? hnd)).inn
     have hn4k : nd.2.2.length ≤ 4096 := by have := (zd6 HF.out x).1; rwa [hlnk] at this
     subst hA
     have HIR := Lib.hid hIr
     have HNK : Hid (lnk xs x = nd.2.2) := Lib.hid hlnk
     clear HX hrg hnx hbx hb hg1 hck hlnk hnd hIr hrs hr0 hwx;go_wp2
     go_loopw [37] (fun i wr => ∃ (q : Nat) (Cq : List (Int × Int)), i = .int .i64 (q : Int) ∧ q ≤ nd.2.2.length ∧ zcc xs U nb T nl (zce (wR xs (nl + 1)) C (done ++ [x]) + cv * ((nd.2.2.drop q).map (wR xs nl)).sum) (fun k => Hit xs done k ∨ k ∈ nd.2.2.take q) Cq wr ∧ Ranges keyI mb r2 (encC C) (done ++ [x]) cnt1 wr ∧ Hid (wr.heap[w.heap.size]? = some (.cells #[.slice (some ad) xs.length c] TG (0, 0))) ∧ Below w.heap.size w wr ∧ Hid (Kd.C (Kd.int .i64) wr A2 nd.2.2.length nd.2.2)) (fun i _ => nd.2.2.length - (Go.RowKit.intOf i).toNat)
     case atStart => exact ⟨0, C', rfl, Nat.zero_le _, hnx1, hrg1, Lib.hid hbx1, hb1, Lib.hid hI⟩
     case round =>
      clear hnx1 hrg1 hbx1 hb1 hI cx f0 f1 f2 hen'
      obtain ⟨q, Cq, rfl, hq, hnx, hrg, hbx, hb, hI⟩ := hrel
      by_cases hql : q < nd.2.2.length
      ·obtain ⟨k, hk⟩ : ∃ k, nd.2.2[q]? = some k := ⟨nd.2.2[q], List.getElem?_eq_getElem hql⟩
       obtain ⟨k0, k1⟩ := HIR.out k (List.mem_of_getElem? hk)
       obtain ⟨a2, hA2, g2⟩ := atI hI.out hk
       subst hA2
       have hkw : (Lit.int .i64 k).wf = true := zcq k0 (by omega)
       have hcl : Cq.length < 1000000 := by
        have hn : (Cq.map (·.1)).Nodup := by have := hnx.map.1; rwa [zdr] at this
        have := keys_few hn (n := xs.length) (fun y hy => by
         rcases (hnx.key y).1 hy with ⟨z, _, hz⟩ | hy
         ·exact (zd6 HF.out z).2 y hz
         ·exact HIR.out y (List.mem_of_mem_take hy))
        omega
       have hgb := zf5 k hnx.pos
       have hlk := hnx.map.look (t := TMm) (e := 3) Try.underlying72 (z := .int .i64 0) rfl hkw
       rw [enc_look] at hlk
       have hlk' : (Instr.lookup TMm (.map (some nb)) (.int .i64 k) false).run Try.prog wr = .ok (.int .i64 (getC Cq k)) wr := hlk
       have hcvs : 0 ≤ cv * ((nd.2.2.drop (q + 1)).map (wR xs nl)).sum := Int.mul_nonneg (by omega) (zd4 (fun y hy => by
        obtain ⟨z, _, rfl⟩ := List.mem_map.1 hy
        exact zc5 xs nl z))
       have hR1 : 0 ≤ zce (wR xs (nl + 1)) C (done ++ [x]) + cv * ((nd.2.2.drop (q + 1)).map (wR xs nl)).sum := by have := HR0.out; omega
       have hnxq : zcc xs U nb T nl (zce (wR xs (nl + 1)) C (done ++ [x]) + cv * ((nd.2.2.drop (q + 1)).map (wR xs nl)).sum + cv * wR xs nl k) (fun k => Hit xs done k ∨ k ∈ nd.2.2.take q) Cq wr := hnx.same (fun _ => Iff.rfl) (by rw [sum_drop hk, Int.mul_add]; omega)
       obtain ⟨W5, hup, hg5, hn5⟩ := hnxq.put hT4 hR1 hkw ⟨cv1, cv2⟩ hcl
       have hwr : IntKind.i64.wrap (getC Cq k + cv) = getC Cq k + cv := by rw [IntKind.wrap_i64]; omega
       have hup' : (Instr.mapUpdate TMm (.map (some nb)) (.int .i64 k) (.int .i64 (if 4001 < getC Cq k + cv then 4001 else getC Cq k + cv))).run Try.prog wr = .ok () W5 := hup
       have hck5 := zak.map hg5 hnx.map.block
       have hrg5 : Ranges keyI mb r2 (encC C) (done ++ [x]) cnt1 W5 := hrg.keep (hg5.block mb hrg.blt (fun e => by injection e with e; omega)) (hg5.block r2 hrg.lt (fun e => by injection e with e; omega))
       have hb5 : Below w.heap.size w W5 := hb.grown hg5 hb.size (fun k e => by cases e; exact hnw4)
       have hn5' : zcc xs U nb T nl (zce (wR xs (nl + 1)) C (done ++ [x]) + cv * ((nd.2.2.drop (q + 1)).map (wR xs nl)).sum) (fun k => Hit xs done k ∨ k ∈ nd.2.2.take (q + 1)) (putC Cq k (mn (getC Cq k + cv))) W5 := hn5.same (fun y => by
        rw [zcd hk, List.mem_append, List.mem_singleton]
        exact or_assoc) rfl
       have hbx5 := hck5 _ _ _ _ hbx.out
       have hI5 := zf7 hI.out hck5
       clear hup hg5 hn5 hlk hnxq hR1 hcvs hnx hrg hbx hb hI hck5 hk;go_wp2
       go_roundw
       case rel => exact ⟨q + 1, _, by first | rfl | go_num, by omega, hn5', hrg5, Lib.hid hbx5, hb5, Lib.hid hI5⟩
       case measure => simp [Go.RowKit.intOf]; omega
      ·obtain rfl : q = nd.2.2.length := by omega
       rw [List.take_length] at hnx
       have hnf : zcc xs U nb T nl (zce (wR xs (nl + 1)) C (done ++ [x])) (Hit xs (done ++ [x])) Cq wr := hnx.same (fun y => by
        unfold Hit
        constructor
        ·rintro (⟨z, hz, hy⟩ | hy)
         ·exact ⟨z, List.mem_append_left _ hz, hy⟩
         ·exact ⟨x, by simp, by rw [HNK.out]; exact hy⟩
        ·rintro ⟨z, hz, hy⟩
         rcases List.mem_append.1 hz with hz | hz
         ·exact .inl ⟨z, hz, hy⟩
         ·obtain rfl := List.mem_singleton.1 hz
          exact .inr (by rw [← HNK.out]; exact hy)) (by rw [List.drop_length]; simp)
       clear hnx hpart;go_wp2
       go_roundw
       case rel => exact ⟨done ++ [x], cnt1, Cq, hrg, hnf, hbx, hb⟩
       case measure => rw [hrg.left]; exact hmeas
  ·obtain rfl : j = N := by omega
   have hm4 := hl.map
   have HL := Lib.hid hl
   have hcn : (C.map (·.1)).Nodup := by have := hl.map.1; rwa [zdr] at this
   clear hl
   go_wp2_with (first
    | (at_range; go_loud (refine ze2 (K := keyI) _ rfl _ TMm rfl 3 Try.underlying72 rfl hm4 ?_; intro w0 hrg0 hg0 hs0))
    | go_in)
   (try go_frame)
   obtain ⟨r2, hr2⟩ : ∃ r2, wr.heap.size = r2 := ⟨_, rfl⟩
   rw [hr2] at hrg0
   (try rw [hr2])
   have hb0 : Below w.heap.size w w0 := hb.grown hg0 hb.size (fun k e => by cases e)
   have hwr2 : w.heap.size ≤ r2 := by rw [← hr2]; exact hb.size
   clear hm4 hb hbx hg0 hs0 hr2
   go_loopw [13] (fun sv wr => ∃ (done : List Int) (cnt : Nat) (s : Int), sv = .int .i64 s ∧ Ranges keyI mb r2 (encC C) done cnt wr ∧ 0 ≤ s ∧ s ≤ zd0 C done ∧ s ≤ 4001 ∧ T ≤ s + zce (wR xs 0) C done ∧ Hid (s = 0 ↔ done = []) ∧ Below w.heap.size w wr) (fun _ wr => wr.rangeLeft mb r2)
   case atStart => exact ⟨[], _, 0, rfl, hrg0, Int.le_refl _, by rw [part_nil]; exact Int.le_refl _, by decide, by rw [zfe]; have := HL.out.low; rw [Nat.sub_self] at this; omega, Lib.hid ⟨fun _ => rfl, fun _ => rfl⟩, hb0⟩
   case round =>
    clear hrg0 hb0
    obtain ⟨done, cnt, s, rfl, hrg, s0, sp, s4, sl, hz, hb⟩ := hrel
    go_wp2_with (first
     | (at_next; go_loud (refine zfp _ rfl _ rfl rfl hrg ?_ ?_))
     | go_in)
    ·intro hdone
     have hall : ∀ x, x ∈ C.map (·.1) ↔ x ∈ done := fun x => by rw [← hdone.all, zdr]
     have HLo : Hid (s ≤ 4000 → wR xs j node ≤ s) := Lib.hid (by
      intro h4
      rw [zfd (fun x hx => (hall x).1 hx), HTD.out] at sl
      unfold mn at sl
      split at sl <;> omega)
     have HZ : Hid ((s = 0 ↔ ∀ k, ¬ Bk xs j node k) ∧ s ≤ wR xs j node) := Lib.hid (by
      refine ⟨hz.out.trans ?_, Int.le_trans sp (by rw [part_all (fun x hx => (hall x).1 hx), ← HU.out, ← sumW_one xs C]; have := HL.out.sum; rwa [Nat.sub_self] at this)⟩
      constructor
      ·rintro rfl k hk
       exact nomatch (hall k).1 ((HL.out.key k).2 hk)
      ·intro h
       refine List.eq_nil_iff_forall_not_mem.2 fun k hk => h k ((HL.out.key k).1 ((hall k).2 hk)))
     clear hdone hrg hall hz sp sl;go_wp2;go_ret
     exact ⟨s, rfl, s0, HZ.out.1, HZ.out.2, HLo.out, hb⟩
    ·rintro ⟨x⟩ xv w1 cnt1 HX
     obtain ⟨cv, rfl, hcm⟩ := look_enc HX.look
     have hcm : (x, cv) ∈ C := hcm
     obtain ⟨cv1, cv2⟩ : 1 ≤ cv ∧ cv ≤ 4001 := HL.out.pos _ hcm
     have hrg1 : Ranges keyI mb r2 (encC C) (done ++ [x]) cnt1 w1 := HX.rg
     have hlt1 := HX.lt
     have hg1 := HX.gr
     have hnw1 : x ∉ done := HX.new
     have hen' : (Instr.entry (.pointer (some ⟨r2, 0, none⟩))).run Try.prog w1 = .ok (.tuple #[.int .i64 x, .int .i64 cv]) w1 := HX.en
     have hmeas : cnt1 < wr.rangeLeft mb r2 := by rw [hrg.left]; exact hlt1
     have hb1 : Below w.heap.size w w1 := hb.grown hg1 hb.size (fun k e => by cases e; omega)
     have hpart := ze5 C hcn done hcm hnw1
     have hwr : IntKind.i64.wrap (s + cv) = s + cv := by rw [IntKind.wrap_i64]; omega
     have hm1 : 1 ≤ mn (s + cv) ∧ mn (s + cv) ≤ 4001 ∧ mn (s + cv) ≤ zd0 C (done ++ [x]) := by unfold mn; split <;> omega
     have hrs := zgl (wR xs 0) C hcn done hcm hnw1
     have hr0 := zff (zc5 xs 0) HL.out.pos (done ++ [x])
     rw [show wR xs 0 x = 1 from rfl, Int.mul_one] at hrs
     have hm4 : T ≤ mn (s + cv) + zce (wR xs 0) C (done ++ [x]) := by unfold mn; split <;> omega
     have hz1 : Hid (mn (s + cv) = 0 ↔ done ++ [x] = []) := Lib.hid ⟨fun h => by omega, fun h => by simp at h⟩
     obtain ⟨m1, m2, m3⟩ := hm1
     clear HX hrg hg1 hb hz hpart sp sl hrs hr0;go_wp2
     go_roundw
     case rel => exact ⟨done ++ [x], cnt1, mn (s + cv), rfl, hrg1, by omega, m3, m2, hm4, hz1, hb1⟩
     case measure => rw [hrg1.left]; exact hmeas
end Go.Proofs.ZZ.GCount
end
section
namespace Go.Proofs.ZZ.RangeG
open Go Go.RowKit
structure Turn (L : Nat) (T : Nat → Prop) (W W' : World) : Prop where
 os : W'.os = W.os
 tape : W'.tape = W.tape
 output : W'.output = W.output
 size : W.heap.size ≤ W'.heap.size
 same : ∀ (k : Nat) (o : Obj), W.heap[k]? = some o → ¬ T k → (k < L ∨ o.isCells = true) → W'.heap[k]? = some o
section
variable {L L' : Nat} {T T' : Nat → Prop} {W W' W'' : World}
theorem Turn.refl (L : Nat) (T : Nat → Prop) (W : World) : Turn L T W W := ⟨rfl, rfl, rfl, Nat.le_refl _, fun _ _ h _ _ => h⟩
theorem Turn.trans (h : Turn L T W W') (k : Turn L T W' W'') : Turn L T W W'' :=
 ⟨k.os.trans h.os, k.tape.trans h.tape, k.output.trans h.output, Nat.le_trans h.size k.size, fun i o hi ht hc => k.same i o (h.same i o hi ht hc) ht hc⟩
theorem Turn.mono (h : Turn L T W W') (hL : L' ≤ L) (hT : ∀ k, T k → T' k) : Turn L' T' W W' :=
 ⟨h.os, h.tape, h.output, h.size, fun k o hk ht hc => h.same k o hk (fun e => ht (hT k e)) (hc.imp (fun h' => by omega) (fun h' => h'))⟩
theorem Turn.grown {row : Option Nat} (hg : W.grownBy W' row) (hr : ∀ k, row = some k → T k ∨ (L ≤ k ∧ ∃ o : Obj, W.heap[k]? = some o ∧ o.isCells = false)) : Turn L T W W' :=
 ⟨hg.os, hg.tape, hg.output, hg.size, fun k o hk ht hc => (hg.block k (Array.getElem?_eq_some_iff.1 hk).1 (fun e => by
  rcases hr k e.symm with h1 | ⟨h1, o', h2, h3⟩
  ·exact ht h1
  ·rw [hk] at h2
   cases h2
   rcases hc with hc | hc
   ·omega
   ·rw [h3] at hc; cases hc)).trans hk⟩
theorem Turn.putObj {l : Nat} {o : Obj} (o' : Obj) (hl : W.heap[l]? = some o) (hL : L ≤ l) (ho : o.isCells = false) : Turn L T W (W.putObj l o') :=
 Turn.grown (grownBy_putObj' W l o') (fun k e => by cases e; exact .inr ⟨hL, o, hl, ho⟩)
theorem Turn.alloc (o : Obj) : Turn L T W (W.alloc o) := Turn.grown (World.grownBy_alloc W o none) (fun k e => by cases e)
theorem Turn.below (h : Below W.heap.size W W') : Turn L T W W' := ⟨h.os, h.tape, h.output, h.size, fun k o hk _ _ => (h.block k (Array.getElem?_eq_some_iff.1 hk).1).trans hk⟩
theorem Turn.drew : Turn L T W W.drew := ⟨rfl, rfl, rfl, Nat.le_refl _, fun _ _ h _ _ => h⟩
theorem zdx {B : Nat} {t : TypeId} {c : Array Value} {fr : Nat × Nat} (h : W.heap[B]? = some (.cells c t fr)) (ht : Turn L T W W') (hB : ¬ T B) : W'.heap[B]? = some (.cells c t fr) := ht.same B _ h hB (.inr rfl)
theorem zge {n₀ : Nat} {w : World} (h : Below n₀ w W) (ht : Turn L T W W') (hw : n₀ ≤ w.heap.size) (hL : n₀ ≤ L) (hT : ∀ k, T k → n₀ ≤ k) : Below n₀ w W' :=
 ⟨ht.os.trans h.os, ht.tape.trans h.tape, ht.output.trans h.output, Nat.le_trans h.size ht.size, fun i hi => by
  have h1 := h.block i hi
  have h2 : i < W.heap.size := by have := h.size; omega
  rw [← h1, Array.getElem?_eq_getElem h2]
  exact ht.same i _ (Array.getElem?_eq_getElem h2) (fun e => by have := hT i e; omega) (.inl (by omega))⟩
theorem zgb {base : Nat} {e : TypeId} {size n : Nat} {v : Value} {xs : List Value} (h : W.ownsRow base e size v n xs) (ht : Turn L T W W') (hT : ∀ k, v.ownBlock = some k → ¬ T k) : W'.ownsRow base e size v n xs := by
 obtain ⟨h1, h2⟩ := h
 refine ⟨h1, ?_⟩
 rcases h2 with h2 | ⟨g, cap, cur, rfl, hg, hh, r⟩
 ·exact .inl h2
 ·exact .inr ⟨g, cap, cur, rfl, hg, ht.same g _ hh (hT g (by simp [Value.ownBlock])) (.inr rfl), r⟩
end
variable {n : Nat} {P : Program}
def KeepL (n₀ : Nat) (L : List Nat) (W W' : World) : Prop := Below n₀ W W' ∧ ∀ b, b ∈ L → b < W.heap.size → W'.heap[b]? = W.heap[b]?
theorem keepL_refl (n₀ : Nat) (L : List Nat) (W : World) : KeepL n₀ L W W := ⟨Below.refl _ _, fun _ _ _ => rfl⟩
theorem keepL_t {n₀ : Nat} {L : List Nat} {A B C : World} (h : KeepL n₀ L A B) (k : KeepL n₀ L B C) : KeepL n₀ L A C := ⟨h.1.trans k.1, fun b hb hlt => by
 rw [← h.2 b hb hlt]
 exact k.2 b hb (by have := h.2 b hb hlt; rw [Array.getElem?_eq_getElem hlt] at this; exact (Array.getElem?_eq_some_iff.1 this).1)⟩
theorem keepL_b {n₀ : Nat} {L : List Nat} {w : World} (hn : n₀ ≤ w.heap.size) (hL : ∀ b, b ∈ L → b < w.heap.size) (W : World) (l : Nat) (o o' : Obj) (hl : w.heap.size ≤ l) (h : W.heap[l]? = some o) (h1 : o.isCells = false) (h2 : o.isWalk = false) : KeepL n₀ L W (W.putObj l o') :=
 ⟨belowK_b hn W l o o' hl h h1 h2, fun b hb _ => World.putObj_heap_other (by have := hL b hb; omega)⟩
end Go.Proofs.ZZ.RangeG
end
section
namespace Go.Proofs.ZZ.GSeq
open Go Go.RowKit Go.Proofs.ZZ.RangeG
structure Bears {β : Type} (L : Nat) (J : β → (Nat → Prop) → World → Prop) : Prop where
  turn : ∀ s U W W', J s U W → Turn L U W W' → J s U W'
  more : ∀ s U V W, J s U W → (∀ k, V k → U k ∨ W.heap.size ≤ k) → J s V W
def zci (n₀ : Nat) (Ls : List Nat) (U : Nat → Prop) (W W' : World) : Prop := KeepL n₀ Ls W W' ∧ W.heap.size ≤ W'.heap.size ∧ ∀ k, U k → k < W.heap.size → W'.heap[k]? = W.heap[k]?
theorem zci.t {n₀ : Nat} {Ls : List Nat} {U : Nat → Prop} {A B C : World} (h : zci n₀ Ls U A B) (k : zci n₀ Ls U B C) : zci n₀ Ls U A C :=
  ⟨keepL_t h.1 k.1, Nat.le_trans h.2.1 k.2.1, fun b hb hlt => by rw [← h.2.2 b hb hlt]; exact k.2.2 b hb (Nat.lt_of_lt_of_le hlt h.2.1)⟩
theorem zci.refl (n₀ : Nat) (Ls : List Nat) (U : Nat → Prop) (W : World) : zci n₀ Ls U W W := ⟨keepL_refl _ _ _, Nat.le_refl _, fun _ _ _ => rfl⟩
theorem zci.obj {n₀ : Nat} {Ls : List Nat} {U : Nat → Prop} {w : World} (hn : n₀ ≤ w.heap.size) (hL : ∀ b, b ∈ Ls → b < w.heap.size) (W : World) (l : Nat) (o o' : Obj) (hl : w.heap.size ≤ l) (h : W.heap[l]? = some o) (h1 : o.isCells = false) (h2 : o.isWalk = false) (hU : ¬ U l) : zci n₀ Ls U W (W.putObj l o') :=
  ⟨keepL_b hn hL W l o o' hl h h1 h2, (grownBy_putObj' W l o').size, fun k hk _ => World.putObj_heap_other (fun e => hU (by rw [← e]; exact hk))⟩
def SeqU {α : Type} (n : Nat) (P : Program) (g : Nat) (lb : Array Value) (encs : α → Array Value) (n₀ : Nat) (Ls : List Nat) (D : α → (Nat → Prop) → World → Prop) (S : List α → Prop) (N : Nat) (w : World) : Prop :=
  ∀ (l : Nat) (J : List α → (Nat → Prop) → World → Prop) (W : World), Turn w.heap.size (fun _ => False) w W → Bears W.heap.size J →
    (∀ pre x U W1, J pre U W1 → D x U W1 → pre.length < N → YieldAt Fence.wide (n - 1) P l (encs x) W1 fun e W' => e = .returned (.bool true) ∧ J (pre ++ [x]) U W' ∧ zci n₀ Ls U W1 W') →
    J [] (fun _ => False) W →
    CallsIn Fence.wide n P g (#[.func (.yield l) #[] #[]] ++ lb) W fun e W' => (∃ v, e = .returned v) ∧ ∃ xs U, S xs ∧ J xs U W'
def postU {α : Type} (B n₀ : Nat) (Ls : List Nat) (I : List α → (Nat → Prop) → World → Prop) (xs : List α) (U : Nat → Prop) (W : World) : Exit → Act → World → Prop
  | .normal, _, W' => KeepsFrom B W W' ∧ zci n₀ Ls U W W' ∧ I xs U W'
  | _, _, _ => False
variable {n : Nat} {P : Program}
theorem rangeU {α : Type} {g : Operand} {ps : Array Tmp} {assign body : Code} {Q : Exit → Act → World → Prop} {a : Act} {w : World}
    {gf : Nat} {lb : Array Value} (hg : a.eval g = .func (.func gf) #[] lb) (eg : ∀ args w, (callFunc gf args).run P w = .ok (.enter gf args) w)
    {encs : α → Array Value} {n₀ : Nat} {Ls : List Nat} {D : α → (Nat → Prop) → World → Prop} {S : List α → Prop} {N : Nat} {w0 : World} (hseq : SeqU (n - 1) P gf lb encs n₀ Ls D S N w0)
    (hn₀ : n₀ ≤ w.heap.size) (hLs : ∀ b, b ∈ Ls → b < w.heap.size)
    (hb0 : Turn w0.heap.size (fun _ => False) w0 w) (hps : ∀ x, (encs x).size = ps.size)
    (I : List α → (Nat → Prop) → World → Prop) (hI : Bears w.heap.size I) (h0 : I [] (fun _ => False) w)
    (Ax : α → (Nat → Prop) → Act → World → Prop) (hAx : ∀ x U a' (W W' : World), Ax x U a' W → Turn w.heap.size (fun _ => False) W W' → Ax x U a' W')
    (hassign : ∀ (l : Nat) (pre : List α) (x : α) (U : Nat → Prop) (W : World) (K : Act → World → Prop), I pre U W → D x U W → (∀ a' W', KeepsFrom w.heap.size W W' → zci n₀ Ls U W W' → I pre U W' → Ax x U a' W' → K a' W') →
      assign.wpIn (Fence.wide.inRound l) (n - 1 - 1) P (Exit.then K (fun _ _ _ => False)) { tmps := (ps.zip (encs x)).foldl (fun t (p, v) => t.setIfInBounds p v) a.tmps, defers := [] } W)
    (hbody : ∀ (l : Nat) (pre : List α) (x : α) (U : Nat → Prop) (a' : Act) (W : World), w.heap.size ≤ l → (∃ r, W.heap[l]? = some (.loop r)) → I pre U W → Ax x U a' W → pre.length < N → body.wpIn (Fence.wide.inRound l) (n - 1 - 1) P (postU w.heap.size n₀ Ls I (pre ++ [x]) U W) a' W)
    (hdone : ∀ (Dd : Nat) (xs : List α) (U : Nat → Prop) (W : World), w.heap.size ≤ Dd → S xs → I xs U W → W.heap[Dd]? = some (.deferred (some [])) → Q .normal { a with defers := { target := .collected Dd, args := #[] } :: a.defers } W) :
    (Code.rangeFunc g ps assign body).wpIn Fence.wide n P Q a w := by
  refine wpIn_rangeFunc ?_
  intro fn hfn
  obtain ⟨rec, hrec⟩ : ∃ rec : LoopState → Option Code → Loop, rec = fun st pe => { state := st, pending := pe, fn, tmps := a.tmps, params := ps, assign, body, defers := w.heap.size } := ⟨_, rfl⟩
  obtain ⟨W1, hW1⟩ : ∃ W1, (w.alloc (.deferred (some []))).alloc (.loop (rec .ready none)) = W1 := ⟨_, rfl⟩
  have sz1 : W1.heap.size = w.heap.size + 2 := by rw [← hW1]; simp
  have rec1 : W1.heap[w.heap.size + 1]? = some (.loop (rec .ready none)) := by
    rw [← hW1]
    have := World.alloc_heap_new (w.alloc (.deferred (some []))) (.loop (rec .ready none))
    rwa [World.size_alloc] at this
  have def1 : W1.heap[w.heap.size]? = some (.deferred (some [])) := by
    rw [← hW1]; exact (Below.heap_alloc _ _ _ (by simp)).trans (World.alloc_heap_new w _)
  have tw : ∀ T', Turn w.heap.size T' w W1 := fun T' => by rw [← hW1]; exact (Turn.alloc _).trans (Turn.alloc _)
  have start : Turn w0.heap.size (fun _ => False) w0 W1 := hb0.trans ((tw _).mono hb0.size (fun _ h => h))
  refine ⟨w.heap.size + 1, [{ target := .collected w.heap.size, args := #[] }], W1, { target := .fn (.func gf) lb, args := #[.func (.yield (w.heap.size + 1)) #[] #[]] }, W1, gf,
    #[.func (.yield (w.heap.size + 1)) #[] #[]] ++ lb, W1, ?_, ?_, fun _ _ => trivial, ?_, (fun h => by cases h), ?_⟩
  · rw [← hW1, hrec]; exact run_enterLoop_outer _ _ _ _ _
  · simp only [resolve, hg]
    simp [go_sem]
  · simp [invoke, go_sem, eg]
  · have loose : ∀ {U : Nat → Prop} {A B : World}, Turn W1.heap.size U A B → Turn w.heap.size U A B := fun h => h.mono (by omega) (fun _ h => h)
    refine (hseq (w.heap.size + 1)
      (fun pre U W => I pre U W ∧ W.heap[w.heap.size + 1]? = some (.loop (rec .ready none)) ∧ W.heap[w.heap.size]? = some (.deferred (some [])) ∧ ¬ U (w.heap.size + 1) ∧ ¬ U w.heap.size)
      W1 start
      ⟨fun s U A B hs ht => ⟨hI.turn s U A B hs.1 (loose ht), ht.same _ _ hs.2.1 hs.2.2.2.1 (.inl (by omega)), ht.same _ _ hs.2.2.1 hs.2.2.2.2 (.inl (by omega)), hs.2.2.2⟩,
       fun s U V A hs hV => ⟨hI.more s U V A hs.1 hV, hs.2.1, hs.2.2.1, fun h => (hV _ h).elim hs.2.2.2.1 (fun h => by have := (Array.getElem?_eq_some_iff.1 hs.2.1).1; omega), fun h => (hV _ h).elim hs.2.2.2.2 (fun h => by have := (Array.getElem?_eq_some_iff.1 hs.2.2.1).1; omega)⟩⟩
      ?_ ⟨hI.turn _ _ _ _ h0 (tw _), rec1, def1, id, id⟩).mono ?_
    · rintro pre x U W ⟨hi, hl, hk, hu1, hu0⟩ hD hlen
      have hy := run_yield (P := P) (args := encs x) hl (by rw [hrec]; exact hps x)
      rw [hrec] at hy
      refine ⟨fn, _, assign, body, hy, roundIn_of_wpIn hfn (hassign _ pre x U W _ hi hD ?_)⟩
      clear hy
      intro a' Wa hfrom hkp hia hax
      have hla := hfrom.same _ _ (by omega) hl rfl
      have hka := hfrom.same _ _ (Nat.le_refl _) hk rfl
      have hlt : w.heap.size + 1 < Wa.heap.size := (Array.getElem?_eq_some_iff.1 hla).1
      obtain ⟨Wb, hWb⟩ : ∃ Wb, Wa.putObj (w.heap.size + 1) (.loop { rec .ready none with state := .busy }) = Wb := ⟨_, rfl⟩
      have tb : ∀ T', Turn w.heap.size T' Wa Wb := fun T' => by rw [← hWb]; exact Turn.putObj _ hla (by omega) rfl
      have lb2 : Wb.heap[w.heap.size + 1]? = some (.loop { rec .ready none with state := .busy }) := by rw [← hWb]; exact World.putObj_heap_same hlt
      have kb2 : Wb.heap[w.heap.size]? = some (.deferred (some [])) := by rw [← hWb]; exact (World.putObj_heap_other (by omega)).trans hka
      have pb : zci n₀ Ls U Wa Wb := by rw [← hWb]; exact zci.obj hn₀ hLs _ _ _ _ (by omega) hla rfl rfl hu1
      refine ⟨Wb, by rw [← hWb]; exact run_beginRound hla (by rw [hrec]), ?_⟩
      refine wpIn_mono (hbody _ pre x U a' Wb (by omega) ⟨_, lb2⟩ (hI.turn _ _ _ _ hia (tb U)) (hAx x U a' _ _ hax (tb _)) hlen) ?_
      have leave : ∀ (jump : Option Code) (W3 : World), KeepsFrom w.heap.size Wb W3 → ∃ W4, (Instr.endRound (w.heap.size + 1) jump).run P W3 = .ok (.bool jump.isNone) W4 ∧ Turn w.heap.size U W3 W4 ∧ zci n₀ Ls U W3 W4 ∧
          W4.heap[w.heap.size + 1]? = some (.loop (rec (if jump.isNone then .ready else .done) jump)) ∧ W4.heap[w.heap.size]? = some (.deferred (some [])) := by
        intro jump W3 h3
        have hl3 := h3.same _ _ (by omega) lb2 rfl
        have he := run_endRound (P := P) jump hl3
        refine ⟨_, he, Turn.putObj _ hl3 (by omega) rfl, zci.obj hn₀ hLs _ _ _ _ (by omega) hl3 rfl rfl hu1, ?_, (World.putObj_heap_other (by omega)).trans (h3.same _ _ (Nat.le_refl _) kb2 rfl)⟩
        rw [World.putObj_heap_same (Array.getElem?_eq_some_iff.1 hl3).1, hrec]
      rintro e a3 W3 hp
      cases e with
      | normal =>
        obtain ⟨h3, p3, i3⟩ := hp
        obtain ⟨W4, he, t4, p4, l4, k4⟩ := leave none W3 h3
        exact ⟨_, _, he, rfl, ⟨hI.turn _ _ _ _ i3 t4, l4, k4, hu1, hu0⟩, hkp.t (pb.t (p3.t p4))⟩
      | ret => exact hp.elim
      | exit id => exact hp.elim
      | goto t => exact hp.elim
      | panic ch => exact hp.elim
      | outgrown => exact hp.elim
    · rintro e W2 ⟨⟨v, rfl⟩, xs, U, hS, hi, hl, hk, hu1, hu0⟩
      have he := run_endLoop (P := P) hl (by rw [hrec]; simp)
      rw [hrec] at he
      exact ⟨none, _, he, hdone _ xs U _ (Nat.le_refl _) hS (hI.turn _ _ _ _ hi (Turn.putObj _ hl (by omega) rfl)) ((World.putObj_heap_other (by omega)).trans hk)⟩
end Go.Proofs.ZZ.GSeq
end
section
namespace Go.Proofs.ZZ.GRow
open Go Go.RowKit Go.Shelf Go.Maps Go.Proofs.ZW.PrintWords Go.Proofs.ZW.PrintLast Go.Proofs.ZZ.RangeG Go.Proofs.ZZ.GMap Go.Proofs.ZZ.GK Go.Proofs.ZZ.G16 Go.Proofs.ZZ.GGr Go.Proofs.ZZ.GAdd Go.Proofs.ZZ.GTop Go.Proofs.ZZ.GStk Go.Proofs.ZZ.GPush Go.Proofs.ZZ.GBack
abbrev ints (l : List Int) : List Value := GSrt.nums l
theorem ints_len (l : List Int) : (ints l).length = l.length := List.length_map _
theorem ints_app (a b : List Int) : ints (a ++ b) = ints a ++ ints b := List.map_append
def zb0 (L : Nat) (W : World) (v : Value) (row : List Int) : Prop := W.ownsRow L TI 1 v row.length (ints row)
theorem zb0.form {L : Nat} {W : World} {v : Value} {row : List Int} (h : zb0 L W v row) (hne : row ≠ []) : ∃ g cap, v = .slice (some ⟨g, 0, none⟩) row.length cap ∧ L ≤ g ∧ g < W.heap.size := by
 rcases h.2 with ⟨_, h0⟩ | ⟨g, cap, cur, hv, hb, hg, _⟩
 ·exact absurd (List.eq_nil_of_length_eq_zero h0) hne
 ·exact ⟨g, cap, hv, hb, zbc hg⟩
def zcy (L : Nat) (U : Nat → Prop) (W W' : World) (row : List Int) : Prop := ∀ v0 row0, row0 <+: row → (∀ k, v0.ownBlock = some k → U k) → zb0 L W v0 row0 → zb0 L W' v0 row0
theorem zcy.trans {L : Nat} {U : Nat → Prop} {A B C : World} {row : List Int} (h : zcy L U A B row) (k : zcy L U B C row) : zcy L U A C row := fun v r hp hu hr => k v r hp hu (h v r hp hu hr)
theorem zb0.keep {L : Nat} {W W' : World} {v : Value} {row : List Int} (h : zb0 L W v row) (hk : ∀ k, v.ownBlock = some k → k < W.heap.size → W'.heap[k]? = W.heap[k]?) : zb0 L W' v row := by
 refine ⟨h.1, ?_⟩
 rcases h.2 with h2 | ⟨g, cap, cur, hv, hb, hg, r⟩
 ·exact .inl h2
 ·exact .inr ⟨g, cap, cur, hv, hb, (hk g (by rw [hv]; rfl) (zbc hg)).trans hg, r⟩
theorem zew {L : Nat} {U : Nat → Prop} {W W' : World} {row : List Int} (h : ∀ k, U k → k < W.heap.size → W'.heap[k]? = W.heap[k]?) : zcy L U W W' row := fun v r _ hu hr => hr.keep (fun k hk hlt => h k (hu k hk) hlt)
section
variable {P : Program}
theorem append_keep {L g cap : Nat} {row : List Int} {W : World} (ty : TypeId) (x : Int) (B : Nat) (h : zb0 L W (.slice (some ⟨g, 0, none⟩) row.length cap) row) (hB : W.heap[B]? = some (.cells #[.int .i64 x] TI (0, 0))) (hL : L ≤ W.heap.size) (hl : row.length ≤ 1000000) :
  ∃ g' cap' W', (Builtin.append_ #[31, 31] ty #[.slice (some ⟨g, 0, none⟩) row.length cap, .slice (some ⟨B, 0, none⟩) 1 1]).run Try.prog W = .ok (.slice (some ⟨g', 0, none⟩) (row.length + 1) cap') W' ∧
   zb0 L W' (.slice (some ⟨g', 0, none⟩) (row.length + 1) cap') (row ++ [x]) ∧ ((g' = g ∧ cap' = cap ∧ W.grownBy W' (some g)) ∨ (g' = W.heap.size ∧ W.grownBy W' none)) ∧ W.heap.size ≤ W'.heap.size := by
 obtain ⟨i0, hi, hzz⟩ := Option.map_eq_some_iff.1 infoI
 simp only [Prod.mk.injEq] at hzz
 obtain ⟨hz0, hz1, hz2⟩ := hzz
 have hnews : ∀ j u, [Value.int .i64 x][j]? = some u → W.cell? ((⟨B, 0, none⟩ : Addr).add j) = some u := fun j u hj => by
  cases j with
  | zero =>
   obtain rfl : Value.int .i64 x = u := by simpa using hj
   exact zae hB 0
  | succ j => simp at hj
 have h1c : ∀ u ∈ [Value.int .i64 x], u.oneCell' = true := fun u hu => by rw [List.mem_singleton.1 hu]; rfl
 obtain ⟨v', W', hr, h2, h3, _, h5⟩ := run_append_own_at (P := Try.prog) W L 31 ty TI i0 (.int .i64 0) 1 8 Try.underlying31 hi hz0 hz1 hz2 rfl (by decide) (.slice (some ⟨g, 0, none⟩) row.length cap) row.length (ints row) h ⟨B, 0, none⟩ 1 1 [.int .i64 x] rfl hnews h1c (by unfold maxLen; omega) (by omega) hL
 have hrow : ints row ++ [Value.int .i64 x] = ints (row ++ [x]) := by rw [ints_app]; rfl
 rw [hrow] at h2
 have hl1 : (row ++ [x]).length = row.length + 1 := by simp
 rcases h.2 with ⟨hv, _⟩ | ⟨g0, cap0, cur, hv, hb, hg, hnc, hcm, hcs, htake⟩
 ·cases hv
 ·injection hv with e1 _ e2
  injection e1 with e1
  injection e1 with e1
  subst e1;subst e2
  by_cases hroom : row.length + 1 ≤ cap
  ·have hr2 := run_append_room (P := Try.prog) W 31 ty TI i0 Try.underlying31 hi g row.length cap cur hg ⟨B, 0, none⟩ 1 1 [.int .i64 x] (by rw [hz1]; rfl) hnews h1c hroom (by rw [hz1]; simp only [List.length_singleton]; omega)
   rw [hr] at hr2
   injection hr2 with e3 e4
   subst e3
   refine ⟨g, cap, W', hr, by unfold zb0; rw [hl1]; exact h2, .inl ⟨rfl, rfl, h3⟩, h3.size⟩
  ·have hr2 := run_append_grow (P := Try.prog) W 31 ty TI i0 (.int .i64 0) Try.underlying31 hi hz0 ⟨g, 0, none⟩ row.length cap (ints row) (by rw [hz1]; exact h.1) (h.cells (g := g) rfl) ⟨B, 0, none⟩ 1 1 [.int .i64 x] (by rw [hz1]; rfl) hnews (by omega) (by omega) (growslice_fits (by omega) (by rw [hz2]; omega))
   rw [hr] at hr2
   injection hr2 with e3 e4
   subst e3
   refine ⟨W.heap.size, _, W', hr, by unfold zb0; rw [hl1]; exact h2, .inr ⟨rfl, ?_⟩, h3.size⟩
   rw [e4]
   exact ⟨rfl, rfl, rfl, by simp, fun k hk _ => Below.heap_alloc W.drew _ k hk⟩
end
theorem frame_append {L g cap g' cap' : Nat} {U : Nat → Prop} {row : List Int} {x : Int} {W W' : World} (hr : zb0 L W (.slice (some ⟨g, 0, none⟩) row.length cap) row) (hr' : zb0 L W' (.slice (some ⟨g', 0, none⟩) (row.length + 1) cap') (row ++ [x]))
  (h : (g' = g ∧ cap' = cap ∧ W.grownBy W' (some g)) ∨ (g' = W.heap.size ∧ W.grownBy W' none)) : zcy L U W W' row := by
 intro v0 row0 hp hu h0
 rcases h with ⟨rfl, rfl, hg⟩ | ⟨_, hg⟩
 ·rcases h0.2 with h2 | ⟨g0, cap0, cur0, hv, hb, hg0, hnc, hcm, hcs, htake⟩
  ·exact ⟨h0.1, .inl h2⟩
  ·by_cases e : g0 = g'
   ·subst e
    rcases hr.2 with ⟨hv1, _⟩ | ⟨g1, cap1, cur1, hv1, _, hg1, _, _, hcs1, _⟩
    ·cases hv1
    ·injection hv1 with e1 _ e2
     injection e1 with e1
     injection e1 with e1
     subst e1;subst e2
     rw [hg0] at hg1
     injection hg1 with hg1
     injection hg1 with hg1
     subst hg1
     rcases hr'.2 with ⟨hv2, _⟩ | ⟨g2, cap2, cur2, hv2, hb2, hg2, hnc2, hcm2, hcs2, htake2⟩
     ·cases hv2
     ·injection hv2 with e3 _ e4
      injection e3 with e3
      injection e3 with e3
      subst e3;subst e4
      have hcap : cap0 = cap' := by omega
      refine ⟨h0.1, .inr ⟨g0, cap0, cur2, hv, hb, hg2, hnc, hcm, by omega, ?_⟩⟩
      obtain ⟨t, ht⟩ := hp
      have hle : row0.length ≤ row.length := by rw [← ht, List.length_append]; omega
      have h5 := congrArg (List.take row0.length) htake2
      rw [List.take_take, Nat.min_eq_left (by simp; omega)] at h5
      rw [Nat.mul_one, h5]
      have : ints (row ++ [x]) = ints row0 ++ ints (t ++ [x]) := by rw [← ht, List.append_assoc, ints_app]
      rw [this, List.take_left' (ints_len row0)]
   ·exact h0.keep (fun k hk hlt => hg.block k hlt (fun e2 => by
     rw [hv] at hk
     simp only [Value.ownBlock, Option.some.injEq] at hk
     injection e2 with e2
     omega))
 ·exact h0.keep (fun k hk hlt => hg.block k hlt (by simp))
theorem clone_calls (g cap : Nat) (l : List Int) (w : World) (hC : Kd.C (Kd.int .i64) w (some ⟨g, 0, none⟩) l.length l) (hn : l.length ≤ 1000000) :
  Calls Try.prog 54 #[.slice (some ⟨g, 0, none⟩) l.length cap] w fun e w' => ∃ v, e = .returned v ∧ Kd.R (Kd.int .i64) TI w' w.heap.size (fun _ => True) v l ∧ Below w.heap.size w w' := by
 obtain ⟨W1, hW1⟩ : ∃ W1, w.alloc (.cells #[] 3) = W1 := ⟨_, rfl⟩
 have hB1 : Below w.heap.size w W1 := by rw [← hW1]; exact (Below.refl _ _).alloc (Nat.le_refl _) _
 have ho : W1.ownsRow w.heap.size TI 1 (.slice (some ⟨w.heap.size, 0, none⟩) 0 0) ([] : List Int).length (ints []) := by
  refine ⟨rfl, .inr ⟨w.heap.size, 0, #[], rfl, Nat.le_refl _, ?_, Nat.le_refl _, by decide, rfl, rfl⟩⟩
  rw [← hW1]
  exact za3 w _
 have hR := GSrt.own_R ho
 have hC1 : zbq (fun (y : Int) cs => cs = [Value.int .i64 y]) (Kd.int .i64).sz W1 (some ⟨g, 0, none⟩) l.length l := Kd.zaz hC hB1
 clear ho hC
 have he : ∀ W : World, (binOp .eql 31 (.slice (some ⟨g, 0, none⟩) l.length cap) (.slice none 0 0)).run Try.prog W = .ok (.bool false) W := fun _ => rfl
 go_enter Try.func54, Try.ntmps54
 go_wp2_with (at_builtin; (refine Kd.ze3 (Kd.int .i64) (Rr := fun y cs => cs = [Value.int .i64 y]) (w0 := w) w.heap.size rfl (.tmp 5) (.tmp 6) 31 TI (.int .i64 0) 8 rfl Try.underlying31 infoI rfl (by decide) (by decide) _ [] l (some ⟨g, 0, none⟩) l.length cap (fun _ => True) (fun _ => False) rfl rfl hR hC1 (fun x cs h => h) (fun _ h => h.elim) (fun _ _ => trivial) hB1 (by have := hB1.size; omega) (by simp; omega) ?_); intro v6 W6 R6 hb6 hg6 _)
 refine bodyPost_ret (results_tmp rfl _ _ _) rfl ?_
 exact ⟨_, rfl, R6, hb6⟩
section
variable {F : Fence} {n : Nat} {P : Program} {md : Region.Mode} {ops : Array Oper} {Q : Exit → Act → World → Prop}
theorem joinIn {σ : Type} {fuel : Nat} {l : Array Bool} {a : Act} {w : World} (fuel' : Nat) (l' : Array Bool) (ns : σ → List (Tmp × Value)) (G : σ → World → Prop)
  (hcont : ∀ s w', G s w' → wpAnyIn F n P md ops Q fuel' l' (zc0 a (ns s)) w')
  (h : (∀ s w', G s w' → wpAnyIn F n P md ops Q fuel' l' (zc0 a (ns s)) w') → wpAnyIn F n P md ops Q fuel l a w) : wpAnyIn F n P md ops Q fuel l a w := h hcont
theorem zdi {fuel : Nat} {l : Array Bool} {a a' : Act} {w : World} (ha : a = a') (h : wpAnyIn F n P md ops Q fuel l a' w) : wpAnyIn F n P md ops Q fuel l a w := by
 subst ha
 exact h
theorem zeb {fuel : Nat} {l l' : Array Bool} {a : Act} {w : World} (hl : l = l') (h : wpAnyIn F n P md ops Q fuel l' a w) : wpAnyIn F n P md ops Q fuel l a w := by
 subst hl
 exact h
theorem takeIn {i : Nat} {N : Option Tmp} {oi : Oper} {v : Value} {fuel : Nat} {l : Array Bool} {a : Act} {w : World} (l' : Array Bool) (hro : F.round = none) (hi : ops[i]? = some oi) (hN : oi.dst = N)
  (hs : Region.noSelect ops = true) (hf : Region.free md ops l i = true) (hr : (Region.ready md ops l).contains i = true)
  (hQ : ∀ c a w, Q (.panic c) (a.put oi.dst v) w → Q (.panic c) a w) (hy : YieldsFenced P ops oi v a) (hl : l.setIfInBounds i true = l') {a' : Act} (ha : a.put N v = a')
  (h : wpAnyIn F n P md ops Q fuel l' a' w) : wpAnyIn F n P md ops Q (fuel + 1) l a w := by
 subst hN;subst hl;subst ha
 exact wpAnyIn_take hro hi hs hf hr hQ hy h
theorem zc3 {oi : Oper} {N : Option Tmp} {a : Act} {w w1 : World} {v : Value} {K : Act → World → Prop} (hw : Region.wanted oi (yielded ops a.tmps) = true) (hN : oi.dst = N) (hrun : (execOp a.eval oi).run P w = .ok (.value v) w1) (h : K (a.put N v) w1) :
  if Region.wanted oi (yielded ops a.tmps) = true then Oper.wpIn Fence.wide n P oi a w K Q else (∀ f, oi.about P w a.eval = some f → Fence.wide.fn f) ∧ K (a.put oi.dst undef) w := by
 subst hN
 rw [if_pos hw]
 refine ⟨fun _ _ => trivial, ?_⟩
 have hs : (oi.semAt Fence.wide.round a.eval) = execOp a.eval oi := by rw [show Fence.wide.round = none from rfl, Oper.semAt_none]
 rw [hs, hrun]
 exact h
theorem enterIn {oi : Oper} {N : Option Tmp} {a : Act} {w w1 : World} {f : FuncId} {args : Array Value} {K : Act → World → Prop} (hw : Region.wanted oi (yielded ops a.tmps) = true) (hN : oi.dst = N) (hrun : (execOp a.eval oi).run P w = .ok (.enter f args) w1)
  (h : CallsIn Fence.wide (n - 1) P f args w1 fun e w' => ∃ v, e = .returned v ∧ K (a.put N v) w') :
  if Region.wanted oi (yielded ops a.tmps) = true then Oper.wpIn Fence.wide n P oi a w K Q else (∀ f, oi.about P w a.eval = some f → Fence.wide.fn f) ∧ K (a.put oi.dst undef) w := by
 subst hN
 rw [if_pos hw]
 refine ⟨fun _ _ => trivial, ?_⟩
 have hs : (oi.semAt Fence.wide.round a.eval) = execOp a.eval oi := by rw [show Fence.wide.round = none from rfl, Oper.semAt_none]
 rw [hs, hrun]
 refine ⟨(fun h => by cases h), CallsIn.mono h ?_⟩
 rintro e w' ⟨v, rfl, hk⟩
 exact hk
theorem goesIn {oi : Oper} {N : Option Tmp} {a : Act} {w : World} {K : Act → World → Prop} {f : FuncId} {fn : Func} {ag : Array Operand} {ts : Array TypeId} (hf : P.funcs[f]? = some fn) (hname : (fn.name == "runtime.NumGoroutine") = false) (hb : fn.body.isSome = true) (args : Array Value)
  (hw : Region.wanted oi (yielded ops a.tmps) = true) (hN : oi.dst = N) (hop : oi.op = .call { callee := .value (.func f), args := ag, argTypes := ts }) (hargs : ag.map a.eval = args)
  (h : CallsIn Fence.wide (n - 1) P f args w fun e w' => ∃ v, e = .returned v ∧ K (a.put N v) w') :
  if Region.wanted oi (yielded ops a.tmps) = true then Oper.wpIn Fence.wide n P oi a w K Q else (∀ f, oi.about P w a.eval = some f → Fence.wide.fn f) ∧ K (a.put oi.dst undef) w := by
 refine enterIn hw hN ?_ h
 have he := enters_ hf hname hb args w
 unfold execOp
 simp [hop, resolve, Deferred.ofValue, invoke, Act.eval, hargs, he]
theorem roundIn {oi : Oper} {N : Option Tmp} {a : Act} {w w1 : World} {l : Nat} {f : FuncId} {tmps : Array Value} {assign body : Code} {K : Act → World → Prop} (hw : Region.wanted oi (yielded ops a.tmps) = true) (hN : oi.dst = N) (hrun : (execOp a.eval oi).run P w = .ok (.round l f tmps assign body) w1)
  (h : RoundIn Fence.wide (n - 1) P l f tmps assign body w1 fun e w' => ∃ v, e = .returned v ∧ K (a.put N v) w') :
  if Region.wanted oi (yielded ops a.tmps) = true then Oper.wpIn Fence.wide n P oi a w K Q else (∀ f, oi.about P w a.eval = some f → Fence.wide.fn f) ∧ K (a.put oi.dst undef) w := by
 subst hN
 rw [if_pos hw]
 refine ⟨fun _ _ => trivial, ?_⟩
 have hs : (oi.semAt Fence.wide.round a.eval) = execOp a.eval oi := by rw [show Fence.wide.round = none from rfl, Oper.semAt_none]
 rw [hs, hrun]
 refine ⟨(fun h => by cases h), RoundIn.mono h ?_⟩
 rintro e w' ⟨v, rfl, hk⟩
 exact hk
end
theorem RoundIn.anyDepth {F : Fence} (hd : F.depth = none) {m m' : Nat} {P : Program} {l : Nat} {f : FuncId} {tmps : Array Value} {assign body : Code} {w : World} {R : Ending → World → Prop}
  (h : RoundIn F m P l f tmps assign body w R) : RoundIn F m' P l f tmps assign body w R := ⟨h.1, fun c cs _ => h.2 c cs (fun d h => by rw [hd] at h; cases h)⟩
end Go.Proofs.ZZ.GRow
end
section
namespace Go.Proofs.ZZ.GWalk
open Go Go.RowKit Go.Shelf Go.Maps Go.Proofs.ZW.PrintWords Go.Proofs.ZW.PrintLast Go.Proofs.ZZ.RangeG Go.Proofs.ZZ.GMap Go.Proofs.ZZ.GK Go.Proofs.ZZ.G16 Go.Proofs.ZZ.GGr Go.Proofs.ZZ.GAdd Go.Proofs.ZZ.GTop Go.Proofs.ZZ.GStk Go.Proofs.ZZ.GPush Go.Proofs.ZZ.GBack Go.Proofs.ZZ.GSeq Go.Proofs.ZZ.GRow
attribute [local go_sem] Oper.semAt_some
abbrev TFn : TypeId := 73
structure BXs (bn yb bg bw l N : Nat) (A : Option Addr) (m c : Nat) (W : World) : Prop where
 n : W.heap[bn]? = some (.cells #[.int .i64 (N : Int)] TI (0, 0))
 y : W.heap[yb]? = some (.cells #[.func (.yield l) #[] #[]] TFn (0, 0))
 g : W.heap[bg]? = some (.cells #[.slice A m c] TG (0, 0))
 k : W.heap[bw]? = some (.cells #[.func (.func 53) #[] #[.pointer (some ⟨bn, 0, none⟩), .pointer (some ⟨yb, 0, none⟩), .pointer (some ⟨bg, 0, none⟩), .pointer (some ⟨bw, 0, none⟩)]] TFn (0, 0))
theorem BXs.keep {bn yb bg bw l N : Nat} {A : Option Addr} {m c : Nat} {W W' : World} (h : BXs bn yb bg bw l N A m c W) (h1 : W'.heap[bn]? = W.heap[bn]?) (h2 : W'.heap[yb]? = W.heap[yb]?) (h3 : W'.heap[bg]? = W.heap[bg]?) (h4 : W'.heap[bw]? = W.heap[bw]?) : BXs bn yb bg bw l N A m c W' := ⟨h1.trans h.n, h2.trans h.y, h3.trans h.g, h4.trans h.k⟩
theorem BXs.below {bn yb bg bw l N : Nat} {A : Option Addr} {m c : Nat} {W W' : World} (h : BXs bn yb bg bw l N A m c W) (hb : Below W.heap.size W W') : BXs bn yb bg bw l N A m c W' := ⟨zaq h.n hb, zaq h.y hb, zaq h.g hb, zaq h.k hb⟩
def Out (n₀ : Nat) (x : Value × List Int) (U : Nat → Prop) (W : World) : Prop := zb0 n₀ W x.1 x.2 ∧ (∀ k, x.1.ownBlock = some k → ¬ U k) ∧ ∀ k, U k → k < W.heap.size
def encR (x : Value × List Int) : Array Value := #[x.1]
def flq (xs : List Nd) (m : Nat) (row : List Int) (l : List Int) : List (List Int) := l.flatMap fun k => zbn xs m (row ++ [k])
theorem flq_succ (xs : List Nd) (m : Nat) (row : List Int) {l : List Int} {q : Nat} {k : Int} (h : l[q]? = some k) : (flq xs m row (l.take q)).length + (zbn xs m (row ++ [k])).length ≤ (flq xs m row l).length ∧ flq xs m row (l.take (q + 1)) = flq xs m row (l.take q) ++ zbn xs m (row ++ [k]) := by
 have e : flq xs m row (l.take (q + 1)) = flq xs m row (l.take q) ++ zbn xs m (row ++ [k]) := by
  unfold flq
  rw [List.take_add_one, h, List.flatMap_append]
  simp
 refine ⟨?_, e⟩
 have e2 : flq xs m row l = flq xs m row (l.take (q + 1)) ++ flq xs m row (l.drop (q + 1)) := by
  unfold flq
  rw [← List.flatMap_append, List.take_append_drop]
 rw [e2, e, List.length_append, List.length_append]
 omega
section
variable {l L n₀ Nm N : Nat} {Ls : List Nat} {J : List (Value × List Int) → (Nat → Prop) → World → Prop} {bn yb bg bw c : Nat} {A : Option Addr} {xs : List Nd} {w0 : World}
def Left (L n₀ : Nat) (J : List (Value × List Int) → (Nat → Prop) → World → Prop) (bn yb bg bw l N : Nat) (A : Option Addr) (c : Nat) (xs : List Nd) (w0 : World) (pre : List (Value × List Int)) (U : Nat → Prop) (W : World) (row : List Int) (rows : List (List Int)) (W' : World) : Prop :=
 ∃ ys U', ys.map (·.2) = rows ∧ J (pre ++ ys) U' W' ∧ (∀ k, U k → U' k) ∧ (∀ k, U' k → k < W'.heap.size) ∧ BXs bn yb bg bw l N A xs.length c W' ∧ Below n₀ w0 W' ∧ zcy L U W W' row ∧ W.heap.size ≤ W'.heap.size
theorem walk_in (hJ : GSeq.Bears L J) (hw0 : w0.heap.size = n₀) (hn₀ : n₀ ≤ L) (hbnL : bn < L) (hbn : bn ∈ Ls) (hbg : bg ∈ Ls) (hC : Kd.C kN w0 A xs.length xs) (hf : FitG xs) (hN : N ≤ 64)
  (hY : ∀ nn pre x U W1, J pre U W1 → Out n₀ x U W1 → pre.length < Nm → YieldAt Fence.wide nn Try.prog l (encR x) W1 fun e W' => e = .returned (.bool true) ∧ J (pre ++ [x]) U W' ∧ zci n₀ Ls U W1 W') :
  ∀ (m : Nat) (row : List Int) (g len1 cap : Nat) (k0 : Int) (pre : List (Value × List Int)) (U : Nat → Prop) (W : World) (nn : Nat),
   row.length = len1 + 1 → len1 + m = N → row[len1]? = some k0 → 0 ≤ k0 → k0 < (xs.length : Int) → zb0 L W (.slice (some ⟨g, 0, none⟩) (len1 + 1) cap) row → U g → U yb → U bw → (∀ k, U k → k < W.heap.size) →
   BXs bn yb bg bw l N A xs.length c W → J pre U W → Below n₀ w0 W → L ≤ W.heap.size → pre.length + (zbn xs m row).length ≤ Nm →
   CallsIn Fence.wide nn Try.prog 53 #[.slice (some ⟨g, 0, none⟩) (len1 + 1) cap, .pointer (some ⟨bn, 0, none⟩), .pointer (some ⟨yb, 0, none⟩), .pointer (some ⟨bg, 0, none⟩), .pointer (some ⟨bw, 0, none⟩)] W
    fun e W' => e = .returned (.bool true) ∧ Left L n₀ J bn yb bg bw l N A c xs w0 pre U W row (zbn xs m row) W' := by
 intro m
 induction m with
 | zero =>
  intro row g len1 cap k0 pre U W nn hrl hm hk0 h0 h1 hrow hUg hUy hUw hUs hbx hj hb hLW hcnt
  have cn : W.cell? ⟨bn, 0, none⟩ = some (.int .i64 (N : Int)) := zae hbx.n 0
  have hlen : (N : Int) < ((len1 + 1 : Nat) : Int) := by omega
  refine callsIn_of_wp Try.func53 rfl trivial ?_ rfl
  simp only [Try.ntmps53, List.size_toArray, List.length_cons, List.length_nil, Nat.reduceAdd, Nat.reduceSub, Array.replicate_succ, Array.replicate_zero, List.push_toArray, List.append_toArray, List.nil_append, List.cons_append]
  gi_wp2
  rename_i K2 hK2
  obtain ⟨Wd, hWd⟩ : ∃ X, W.drew = X := ⟨_, rfl⟩
  have hbxd : BXs bn yb bg bw l N A xs.length c Wd := by rw [← hWd]; exact hbx.below (zbs (Below.refl _ _))
  have hrowd : zb0 L Wd (.slice (some ⟨g, 0, none⟩) (len1 + 1) cap) row := by rw [← hWd]; exact hrow.keep (fun _ _ _ => rfl)
  have hjd : J pre U Wd := by rw [← hWd]; exact hJ.turn _ _ _ _ hj Turn.drew
  have hbd : Below n₀ w0 Wd := by rw [← hWd]; exact zbs hb
  have hsd : W.heap.size = Wd.heap.size := by rw [← hWd]; rfl
  have hLd : L ≤ Wd.heap.size := by omega
  have hrl1 : row.length ≤ 1000000 := by omega
  have hCr : Kd.C (Kd.int .i64) Wd (some ⟨g, 0, none⟩) row.length row := by
   obtain ⟨_, _, he_, _, h⟩ := Kd.zcl (GSrt.own_R hrowd)
   injection he_ with e1 _ e2
   rw [e1]
   exact h
  have hclone := clone_calls g cap row Wd hCr hrl1
  rw [hrl] at hclone
  have cyd : Wd.cell? ⟨yb, 0, none⟩ = some (.func (.yield l) #[] #[]) := zae hbxd.y 0
  refine wpIn_region_any (by kernel_rfl) ?_
  change wpAnyIn _ _ _ _ _ _ _ _ _ (World.drew _)
  rw [hWd]
  refine takeIn (i := 1) (N := some 14) (v := ?_) (a' := ?_) #[false, true, false, false, false] rfl rfl rfl (by kernel_rfl) (by kernel_rfl) (by kernel_rfl) (fun _ _ _ h => h) ⟨Or.inl ⟨by rfl, ?_⟩, fun _ => rfl⟩ (by rfl) ?_ ?_
  rotate_left; · intro w'; go_simp; with_reducible rfl
  rotate_left; · simp only [Act.put, Y1, Y2, Y3]; rfl
  refine joinIn (σ := Value) 2 #[true, true, true, false, false] (fun v => [(13, .func (.yield l) #[] #[]), (15, v)]) (fun v w' => Kd.R (Kd.int .i64) TI w' Wd.heap.size (fun _ => True) v row ∧ Below Wd.heap.size Wd w') ?_ ?_
  rotate_left
  ·intro hCont
   refine wpAnyIn_ready (rs := [0, 2]) (by kernel_rfl) (by simp) (AllReadyIn.cons rfl (fun K hK => ?_) (AllReadyIn.cons rfl (fun K hK => ?_) AllReadyIn.nil))
   ·refine zc3 (N := some 13) (v := .func (.yield l) #[] #[]) (w1 := Wd) (by rfl) rfl ?_ ?_
    ·go_simp
    refine hK _ _ ?_
    refine wpAnyIn_ready (rs := [2]) (by kernel_rfl) (by simp) (AllReadyIn.cons rfl (fun K hK => ?_) AllReadyIn.nil)
    refine goesIn (N := some 15) Try.func54 (by kernel_rfl) rfl #[.slice (some ⟨g, 0, none⟩) (len1 + 1) cap] (by rfl) rfl rfl (by first | rfl | (simp [Act.eval]; done) | (simp [go_sem]; done)) ?_
    refine (callsIn_wide.2 hclone).mono ?_
    rintro e W3 ⟨v, rfl, hR3, hB3⟩
    refine ⟨_, rfl, ?_⟩
    refine hK _ _ ?_
    exact zeb rfl (zdi (by simp only [zc0, Act.put, Y1, Y2, Y3]) (hCont v _ ⟨hR3, hB3⟩))
   ·refine goesIn (N := some 15) Try.func54 (by kernel_rfl) rfl #[.slice (some ⟨g, 0, none⟩) (len1 + 1) cap] (by rfl) rfl rfl (by first | rfl | (simp [Act.eval]; done) | (simp [go_sem]; done)) ?_
    refine (callsIn_wide.2 hclone).mono ?_
    rintro e W3 ⟨v, rfl, hR3, hB3⟩
    refine ⟨_, rfl, ?_⟩
    refine hK _ _ ?_
    have cy3 := zaf hB3 cyd
    refine wpAnyIn_ready (rs := [0]) (by kernel_rfl) (by simp) (AllReadyIn.cons rfl (fun K hK => ?_) AllReadyIn.nil)
    refine zc3 (N := some 13) (v := .func (.yield l) #[] #[]) (w1 := W3) (by rfl) rfl ?_ ?_
    ·go_simp
    refine hK _ _ ?_
    exact zeb rfl (zdi (by simp only [zc0, Act.put, Y1, Y2, Y3]) (hCont v _ ⟨hR3, hB3⟩))
  rintro v W3 ⟨hR3, hB3⟩
  refine zdi (a' := ?_) ?_ ?_
  rotate_left
  ·simp only [zc0, Act.put, Y1, Y2, Y3]
   rfl
  have hut : Turn L U Wd W3 := (Turn.below hB3).mono (Nat.le_refl _) (fun _ h => h)
  have hj3 : J pre U W3 := hJ.turn _ _ _ _ hjd hut
  have ho3 := GSrt.R_ownI hR3
  have hD3 : Out n₀ (v, row) U W3 := ⟨ze1 ho3 (by omega), fun k hk hu => by
   have h1 := zbz ho3 k hk
   have h2 := hUs k hu
   omega, fun k hu => Nat.lt_of_lt_of_le (hUs k hu) (by have := hB3.size; omega)⟩
  have hrl3 : pre.length + 1 ≤ Nm := by simpa [zbn] using hcnt
  obtain ⟨fn, tmps, assign, body, hy, hR⟩ := hY (nn - 1) pre (v, row) U W3 hj3 hD3 (by omega)
  have hy' : (Instr.yield l #[v]).run Try.prog W3 = .ok (.round l fn tmps assign body) W3 := hy
  refine wpAnyIn_ready (rs := [3]) (by kernel_rfl) (by simp) (AllReadyIn.cons rfl (fun K hK => ?_) AllReadyIn.nil)
  refine roundIn (N := some 16) (l := l) (f := fn) (tmps := tmps) (assign := assign) (body := body) (w1 := W3) (by rfl) rfl ?_ ?_
  ·unfold execOp
   simp [resolve, Deferred.ofValue, invoke, Act.eval, hy']
  refine hR.mono ?_
  rintro e W4 ⟨rfl, hj4, hk4⟩
  refine ⟨_, rfl, ?_⟩
  refine hK _ _ ?_
  clear hK K
  refine zdi (a' := ?_) ?_ ?_
  rotate_left
  ·simp only [zc0, Act.put, Y1, Y2, Y3]
   rfl
  refine zeb (l' := #[true, true, true, true, false]) (by rfl) ?_
  refine takeIn (i := 4) (N := some 6) (v := ?_) (a' := ?_) #[true, true, true, true, true] rfl rfl rfl (by kernel_rfl) (by kernel_rfl) (by kernel_rfl) (fun _ _ _ h => h) ⟨Or.inl ⟨by rfl, ?_⟩, fun _ => rfl⟩ (by rfl) ?_ ?_
  rotate_left; · intro w'; go_simp; with_reducible rfl
  rotate_left; · simp only [Act.put, Y1, Y2, Y3]; rfl
  refine wpAnyIn_done (by kernel_rfl) ?_ _
  refine hK2 _ _ ?_
  have hkx : ∀ k, U k → W4.heap[k]? = Wd.heap[k]? := fun k hu => by
   have h2 := hUs k hu
   rw [hk4.2.2 k hu (by have := hB3.size; omega)]
   exact hB3.block k (by omega)
  have hks : ∀ k, k ∈ Ls → k < Wd.heap.size → W4.heap[k]? = Wd.heap[k]? := fun k hu hlt => by
   rw [hk4.1.2 k hu (by have := hB3.size; omega)]
   exact hB3.block k hlt
  have hbx4 : BXs bn yb bg bw l N A xs.length c W4 := hbxd.keep (hks _ hbn (zbc hbxd.n)) (hkx _ hUy) (hks _ hbg (zbc hbxd.g)) (hkx _ hUw)
  have hb4 : Below n₀ w0 W4 := (hbd.trans (hB3.mono (by omega))).trans hk4.1.1
  have hfr : zcy L U W W4 row := zew (fun k hu hlt => by rw [hkx k hu, ← hWd]; rfl)
  have hsz : W.heap.size ≤ W4.heap.size := by have := hB3.size; have := hk4.2.1; omega
  have HL : Left L n₀ J bn yb bg bw l N A c xs w0 pre U W row (zbn xs 0 row) W4 := ⟨[(v, row)], U, rfl, hj4, fun _ h => h, fun k hu => Nat.lt_of_lt_of_le (hUs k hu) hsz, hbx4, hb4, hfr, hsz⟩
  clear hfr hbx4 hb4 hkx hks hj4 hk4 hD3 hj3 hut hR3 hB3 ho3 hbxd hrowd hjd hbd hclone hCr
  gi_wp2
  refine bodyPost_ret (results_tmp rfl _ _ _) rfl ?_
  exact ⟨rfl, HL⟩
 | succ m ih0 =>
  intro row g len1 cap k0 pre U W nn hrl hm hk0 h0 h1 hrow hUg hUy hUw hUs hbx hj hb hLW hcnt
  have hb0 : Below w0.heap.size w0 W := by rw [hw0]; exact hb
  have cn : W.cell? ⟨bn, 0, none⟩ = some (.int .i64 (N : Int)) := zae hbx.n 0
  have hlen : ¬ (N : Int) < ((len1 + 1 : Nat) : Int) := by omega
  have hxl : k0.toNat < xs.length := by omega
  obtain ⟨x, hx⟩ : ∃ x, xs[k0.toNat]? = some x := ⟨xs[k0.toNat], List.getElem?_eq_getElem hxl⟩
  obtain ⟨ad, A2, c2, hA, _, _, f2, hc2, hI0⟩ := zc2 hC hx
  subst hA
  have hnl : x.2.2.length ≤ 4096 := by have := (zd6 hf k0).1; rwa [zed hx] at this
  have hIr := (hf.ok x (List.mem_of_getElem? hx)).inn
  have hW : Hid (zbn xs (m + 1) row = flq xs m row x.2.2) := Lib.hid (by
   have e : row.getLast?.getD 0 = k0 := by rw [List.getLast?_eq_getElem?, hrl, Nat.add_sub_cancel, hk0]; rfl
   simp only [zbn, flq]
   rw [e, zed hx])
  have cr : W.cell? ⟨g, len1, none⟩ = some (.int .i64 k0) := by
   have hr' : W.ownsRow L TI 1 (.slice (some ⟨g, 0, none⟩) (len1 + 1) cap) row.length (ints row) := hrow
   have := hr'.cells (g := g) rfl len1 (.int .i64 k0) (by show (ints row)[len1]? = _; unfold ints GSrt.nums; rw [List.getElem?_map, hk0]; rfl)
   rwa [add_plain] at this
  have heg : ∀ args w, (callFunc 53 args).run Try.prog w = .ok (.enter 53 args) w := enters_of Try.func53 (by kernel_rfl) rfl
  have HIH := Lib.hid ih0
  clear ih0
  refine callsIn_of_wp Try.func53 rfl trivial ?_ rfl
  simp only [Try.ntmps53, List.size_toArray, List.length_cons, List.length_nil, Nat.reduceAdd, Nat.reduceSub, Array.replicate_succ, Array.replicate_zero, List.push_toArray, List.append_toArray, List.nil_append, List.cons_append]
  clear heg
  gi_wp2
  rename_i K3 hK3
  have hHeld : (fun X => X.cell? ⟨bg, 0, none⟩ = some (.slice (some ad) xs.length c) ∧ X.cell? ⟨g, len1, none⟩ = some (.int .i64 k0) ∧ X.cell? ⟨(ad.add (k0.toNat * 3)).block, (ad.add (k0.toNat * 3)).off + 2, none⟩ = some (.slice A2 x.2.2.length c2)) W.drew := ⟨zae (zah hbx.g) 0, cr, zaf hb0 f2⟩
  have hwl : IntKind.i64.wrap (len1 : Int) = (len1 : Int) := by rw [IntKind.wrap_i64]; omega
  have hlt1 : (len1 : Int) < (len1 : Int) + 1 := by omega
  refine wpIn_wide.2 <| wp_qz (zbd (S := (fun X => X.cell? ⟨bg, 0, none⟩ = some (.slice (some ad) xs.length c) ∧ X.cell? ⟨g, len1, none⟩ = some (.int .i64 k0) ∧ X.cell? ⟨(ad.add (k0.toNat * 3)).block, (ad.add (k0.toNat * 3)).off + 2, none⟩ = some (.slice A2 x.2.2.length c2))) (ds := []) (Ymk 13 0) (by kernel_rfl) rfl rfl hHeld (fun h0_ => ?_))
  clear h0_
  refine Ypk 0 17 13 1 ?_
  refine Ytk 1 18 13 3 hHeld ?_
  refine Ypk 2 19 13 7 ?_
  refine Ypk 3 20 13 15 ?_
  refine Ypk 4 21 13 31 ?_
  refine Ypk 5 22 13 63 ?_
  refine Ypk 6 23 13 127 ?_
  refine Ytk 7 24 13 255 hHeld ?_
  refine Ypk 8 25 13 511 ?_
  refine Ypk 9 26 13 1023 ?_
  refine Ytk 10 27 13 2047 hHeld ?_
  refine Ypk 11 28 13 4095 ?_
  refine Ypk 12 29 13 8191 ?_
  refine zbo (by kernel_rfl) ?_
  refine hK3 _ _ ?_
  have HK3 := Lib.hid (show True from trivial)
  gi_wp2
  gi_loopw [29] (fun i wr => ∃ (q : Nat) (ysq : List (Value × List Int)) (Uq : Nat → Prop), i = .int .i64 (q : Int) ∧ q ≤ x.2.2.length ∧ Hid (ysq.map (·.2) = flq xs m row (x.2.2.take q)) ∧ J (pre ++ ysq) Uq wr ∧ Hid (∀ k, U k → Uq k) ∧ Hid (∀ k, Uq k → k < wr.heap.size) ∧ BXs bn yb bg bw l N (some ad) xs.length c wr ∧ Below n₀ w0 wr ∧ Hid (zcy L U W wr row) ∧ Hid (W.heap.size ≤ wr.heap.size))
   (fun i _ => x.2.2.length - (Go.RowKit.intOf i).toNat)
  case atStart =>
   exact ⟨0, [], U, rfl, Nat.zero_le _, Lib.hid rfl, by rw [List.append_nil]; exact hJ.turn _ _ _ _ hj Turn.drew, Lib.hid (fun _ h => h), Lib.hid hUs, hbx.below (zbs (Below.refl _ _)), zbs hb, Lib.hid (zew (fun _ _ _ => rfl)), Lib.hid (Nat.le_refl _)⟩
  case round =>
   obtain ⟨q, ysq, Uq, rfl, hq, HP, hJq, HU, HUs, hbxq, hbq, HF, HS⟩ := hrel
   by_cases hlt : q < x.2.2.length
   ·obtain ⟨kk, hkk⟩ : ∃ k, x.2.2[q]? = some k := ⟨x.2.2[q], List.getElem?_eq_getElem hlt⟩
    have hbq0 : Below w0.heap.size w0 wr := by rw [hw0]; exact hbq
    obtain ⟨ad2, hA2, g2⟩ := atI (Kd.zaz hI0 hbq0) hkk
    subst hA2
    obtain ⟨hkk0, hkk1⟩ := hIr kk (List.mem_of_getElem? hkk)
    obtain ⟨hct, htk⟩ := flq_succ xs m row hkk
    have heg : ∀ args w, (callFunc 53 args).run Try.prog w = .ok (.enter 53 args) w := enters_of Try.func53 (by kernel_rfl) rfl
    have HE := Lib.hid heg
    have HD := Lib.hid (show _ ∧ _ from ⟨hct, htk⟩)
    clear heg hct htk
    gi_wp2
    rename_i K6 hK6
    obtain ⟨Wd, hWd⟩ : ∃ X, wr.drew = X := ⟨_, rfl⟩
    have hbxd : BXs bn yb bg bw l N (some ad) xs.length c Wd := by rw [← hWd]; exact hbxq.below (zbs (Below.refl _ _))
    have hsd : wr.heap.size = Wd.heap.size := by rw [← hWd]; rfl
    obtain ⟨WA, hWA⟩ : ∃ X, Wd.alloc (.cells #[.int .i64 kk] TI) = X := ⟨_, rfl⟩
    have hBA : Below Wd.heap.size Wd WA := by rw [← hWA]; exact (Below.refl _ _).alloc (Nat.le_refl _) _
    have hsA : WA.heap.size = Wd.heap.size + 1 := by rw [← hWA]; exact World.size_alloc _ _
    have hcA : WA.heap[Wd.heap.size]? = some (.cells #[.int .i64 kk] TI (0, 0)) := by rw [← hWA]; exact za3 Wd _
    have hrowr : zb0 L wr (.slice (some ⟨g, 0, none⟩) (len1 + 1) cap) row := HF.out _ row (List.prefix_refl _) (fun k hk => by
     simp only [Value.ownBlock, Option.some.injEq] at hk
     rw [← hk]; exact hUg) hrow
    have hrowA : zb0 L WA (.slice (some ⟨g, 0, none⟩) row.length cap) row := by
     rw [hrl]
     refine hrowr.keep (fun k _ hlt2 => ?_)
     rw [hBA.block k (by omega), ← hWd]
     rfl
    have hLr : L ≤ wr.heap.size := by have := HS.out; omega
    obtain ⟨g', cap', W6, hap, hr6, hw6, hs6⟩ := append_keep 31 kk Wd.heap.size hrowA hcA (by omega) (by omega)
    have hbxA : BXs bn yb bg bw l N (some ad) xs.length c WA := hbxd.below hBA
    have hgT : ∃ cs fr, WA.heap[g]? = some (.cells cs TI fr) := by
     rcases hrowA.2 with ⟨hv, _⟩ | ⟨g0, cap0, cur, hv, _, hg, _⟩
     ·cases hv
     ·injection hv with e1 _ _
      injection e1 with e1
      injection e1 with e1
      subst e1
      exact ⟨_, _, hg⟩
    have hgL : L ≤ g := by
     rcases hrowA.2 with ⟨hv, _⟩ | ⟨g0, cap0, cur, hv, hb0, hg, _⟩
     ·cases hv
     ·injection hv with e1 _ _
      injection e1 with e1
      injection e1 with e1
      subst e1
      exact hb0
    have hfr6 : zcy L Uq WA W6 row := frame_append hrowA hr6 hw6
    have hg6 : ∃ ro, WA.grownBy W6 ro ∧ (∀ r, ro = some r → r = g ∧ g' = g) := by
     rcases hw6 with ⟨e1, _, h⟩ | ⟨_, h⟩
     ·exact ⟨_, h, fun r e => by cases e; exact ⟨rfl, e1⟩⟩
     ·exact ⟨_, h, fun r e => nomatch e⟩
    obtain ⟨ro, hgr, hro⟩ := hg6
    obtain ⟨V, hV⟩ : ∃ V : Nat → Prop, V = fun k => Uq k ∨ k = g' := ⟨_, rfl⟩
    have hUqV : ∀ k, Uq k → V k := fun k h => by rw [hV]; exact .inl h
    have hVg : V g' := by rw [hV]; exact .inr rfl
    have hg'new : Uq g' ∨ WA.heap.size ≤ g' := by
     rcases hw6 with ⟨e1, _, _⟩ | ⟨e1, _⟩
     ·exact .inl (by rw [e1]; exact HU.out _ hUg)
     ·exact .inr (by omega)
    have hjA : J (pre ++ ysq) Uq WA := hJ.turn _ _ _ _ (by rw [← hWd]; exact hJ.turn _ _ _ _ hJq Turn.drew) (Turn.below hBA)
    have hjV : J (pre ++ ysq) V WA := hJ.more _ _ _ _ hjA (fun k hk => by
     rw [hV] at hk
     rcases hk with hk | rfl
     ·exact .inl hk
     ·exact hg'new)
    have hj6 : J (pre ++ ysq) V W6 := hJ.turn _ _ _ _ hjV (Turn.grown hgr (fun k e => .inl (by rw [(hro k e).1, ← (hro k e).2]; exact hVg)))
    have hkp : ∀ k cs t fr, WA.heap[k]? = some (.cells cs t fr) → (t = TI → k < L) → W6.heap[k]? = WA.heap[k]? := fun k cs t fr hk ht => hgr.block k (zbc hk) (fun e => by
     obtain ⟨cs2, fr2, h2⟩ := hgT
     have e1 := (hro k e.symm).1
     rw [e1, h2] at hk
     injection hk with hk
     injection hk with _ hk _
     have := ht hk.symm
     omega)
    have hbx6 : BXs bn yb bg bw l N (some ad) xs.length c W6 := hbxA.keep (hkp _ _ _ _ hbxA.n (fun _ => hbnL)) (hkp _ _ _ _ hbxA.y (fun h => absurd h (by decide))) (hkp _ _ _ _ hbxA.g (fun h => absurd h (by decide))) (hkp _ _ _ _ hbxA.k (fun h => absurd h (by decide)))
    have hbA : Below n₀ w0 WA := (zbs hbq).trans (by rw [hWd]; exact hBA.mono (by omega))
    have hb6 : Below n₀ w0 W6 := hbA.trans ⟨hgr.os, hgr.tape, hgr.output, hgr.size, fun k hk => hgr.block k (by omega) (fun e => by have := (hro k e.symm).1; omega)⟩
    have hV6 : ∀ k, V k → k < W6.heap.size := fun k hk => by
     rw [hV] at hk
     rcases hk with hk | rfl
     ·have := HUs.out k hk; omega
     ·obtain ⟨_, _, he, _, h⟩ := hr6.form (by simp)
      injection he with e1 _ _
      injection e1 with e1
      injection e1 with e1
      omega
    have hFr : zcy L U W W6 row := (HF.out.trans (zew (fun k hu hlt2 => by rw [hBA.block k (by omega), ← hWd]; rfl))).trans (fun v0 r0 hp hu h0 => hfr6 v0 r0 hp (fun k hk => HU.out k (hu k hk)) h0)
    have hcq : pre.length + ysq.length + (zbn xs m (row ++ [kk])).length ≤ Nm := by
     have h1 := congrArg List.length HP.out
     rw [List.length_map] at h1
     have h2 := HD.out.1
     have h3 := congrArg List.length hW.out
     omega
    have hIH := HIH.out (row ++ [kk]) g' (len1 + 1) cap' kk (pre ++ ysq) V W6 (nn - 1) (by rw [List.length_append, hrl]; rfl) (by omega) (by rw [List.getElem?_append_right (by omega), hrl, Nat.sub_self]; rfl) hkk0 hkk1 (by rw [← hrl]; exact hr6) hVg (hUqV _ (HU.out _ hUy)) (hUqV _ (HU.out _ hUw)) hV6 hbx6 hj6 hb6 (by omega) (by rw [List.length_append]; exact hcq)
    rw [hrl] at hap
    have cwd : Wd.cell? ⟨bw, 0, none⟩ = some (.func (.func 53) #[] #[.pointer (some ⟨bn, 0, none⟩), .pointer (some ⟨yb, 0, none⟩), .pointer (some ⟨bg, 0, none⟩), .pointer (some ⟨bw, 0, none⟩)]) := zae hbxd.k 0
    have cwA := zaf hBA cwd
    have cw6 : W6.cell? ⟨bw, 0, none⟩ = some (.func (.func 53) #[] #[.pointer (some ⟨bn, 0, none⟩), .pointer (some ⟨yb, 0, none⟩), .pointer (some ⟨bg, 0, none⟩), .pointer (some ⟨bw, 0, none⟩)]) := zae hbx6.k 0
    refine wpIn_region_any (by kernel_rfl) ?_
    change wpAnyIn _ _ _ _ _ _ _ _ _ (World.drew _)
    rw [hWd]
    refine takeIn (i := 1) (N := some 34) (v := ?_) (a' := ?_) #[false, true, false, false, false, false, false] rfl rfl rfl (by kernel_rfl) (by kernel_rfl) (by kernel_rfl) (fun _ _ _ h => h) ⟨Or.inl ⟨by rfl, ?_⟩, fun _ => rfl⟩ (by rfl) ?_ ?_
    rotate_left; · intro w'; go_simp; with_reducible rfl
    rotate_left; · simp only [Act.put, Y1, Y2, Y3]; rfl
    refine takeIn (i := 2) (N := some 35) (v := ?_) (a' := ?_) #[false, true, true, false, false, false, false] rfl rfl rfl (by kernel_rfl) (by kernel_rfl) (by kernel_rfl) (fun _ _ _ h => h) ⟨Or.inl ⟨by rfl, ?_⟩, fun _ => rfl⟩ (by rfl) ?_ ?_
    rotate_left; · intro w'; go_simp; with_reducible rfl
    rotate_left; · simp only [Act.put, Y1, Y2, Y3]; rfl
    refine joinIn (σ := Unit) 2 #[true, true, true, true, true, false, false] (fun _ => [(33, .func (.func 53) #[] #[.pointer (some ⟨bn, 0, none⟩), .pointer (some ⟨yb, 0, none⟩), .pointer (some ⟨bg, 0, none⟩), .pointer (some ⟨bw, 0, none⟩)]), (36, .slice (some ⟨Wd.heap.size, 0, none⟩) 1 1), (37, .slice (some ⟨g', 0, none⟩) (len1 + 1 + 1) cap')]) (fun _ w' => w' = W6) ?_ ?_
    rotate_left
    ·intro hCont
     refine wpAnyIn_ready (rs := [0, 3]) (by kernel_rfl) (by simp) (AllReadyIn.cons rfl (fun K hK => ?_) (AllReadyIn.cons rfl (fun K hK => ?_) AllReadyIn.nil))
     ·refine zc3 (N := some 33) (w1 := Wd) (by rfl) rfl (v := ?_) ?_ ?_
      rotate_left
      ·go_simp
       with_reducible rfl
      refine hK _ _ ?_
      refine wpAnyIn_ready (rs := [3]) (by kernel_rfl) (by simp) (AllReadyIn.cons rfl (fun K hK => ?_) AllReadyIn.nil)
      refine zc3 (N := some 36) (v := .slice (some ⟨Wd.heap.size, 0, none⟩) 1 1) (w1 := WA) (by rfl) rfl ?_ ?_
      ·rw [← hWA]
       go_simp
      refine hK _ _ ?_
      refine wpAnyIn_ready (rs := [4]) (by kernel_rfl) (by simp) (AllReadyIn.cons rfl (fun K hK => ?_) AllReadyIn.nil)
      refine zc3 (N := some 37) (v := .slice (some ⟨g', 0, none⟩) (len1 + 1 + 1) cap') (w1 := W6) (by rfl) rfl ?_ ?_
      ·unfold execOp
       simp [resolve, Deferred.ofValue, invoke, Act.eval, Act.put, builtin, Sem.run_bind, Sem.run_pure, Result.andThen_ok, hap]
      refine hK _ _ ?_
      exact zeb rfl (zdi (by simp only [zc0, Act.put, Y1, Y2, Y3]) (hCont () _ rfl))
     ·refine zc3 (N := some 36) (v := .slice (some ⟨Wd.heap.size, 0, none⟩) 1 1) (w1 := WA) (by rfl) rfl ?_ ?_
      ·rw [← hWA]
       go_simp
      refine hK _ _ ?_
      clear hK K
      refine wpAnyIn_ready (rs := [0, 4]) (by kernel_rfl) (by simp) (AllReadyIn.cons rfl (fun K hK => ?_) (AllReadyIn.cons rfl (fun K hK => ?_) AllReadyIn.nil))
      ·refine zc3 (N := some 33) (w1 := WA) (by rfl) rfl (v := ?_) ?_ ?_
       rotate_left
       ·go_simp
        with_reducible rfl
       refine hK _ _ ?_
       clear hK K
       refine wpAnyIn_ready (rs := [4]) (by kernel_rfl) (by simp) (AllReadyIn.cons rfl (fun K hK => ?_) AllReadyIn.nil)
       refine zc3 (N := some 37) (v := .slice (some ⟨g', 0, none⟩) (len1 + 1 + 1) cap') (w1 := W6) (by rfl) rfl ?_ ?_
       ·unfold execOp
        simp [resolve, Deferred.ofValue, invoke, Act.eval, Act.put, builtin, Sem.run_bind, Sem.run_pure, Result.andThen_ok, hap]
       refine hK _ _ ?_
       exact zeb rfl (zdi (by simp only [zc0, Act.put, Y1, Y2, Y3]) (hCont () _ rfl))
      ·refine zc3 (N := some 37) (v := .slice (some ⟨g', 0, none⟩) (len1 + 1 + 1) cap') (w1 := W6) (by rfl) rfl ?_ ?_
       ·unfold execOp
        simp [resolve, Deferred.ofValue, invoke, Act.eval, Act.put, builtin, Sem.run_bind, Sem.run_pure, Result.andThen_ok, hap]
       refine hK _ _ ?_
       clear hK K
       refine wpAnyIn_ready (rs := [0]) (by kernel_rfl) (by simp) (AllReadyIn.cons rfl (fun K hK => ?_) AllReadyIn.nil)
       refine zc3 (N := some 33) (w1 := W6) (by rfl) rfl (v := ?_) ?_ ?_
       rotate_left
       ·go_simp
        with_reducible rfl
       refine hK _ _ ?_
       exact zeb rfl (zdi (by simp only [zc0, Act.put, Y1, Y2, Y3]) (hCont () _ rfl))
    intro _ w' hw'
    rw [hw']
    clear hw' w'
    refine zdi (a' := ?_) ?_ ?_
    rotate_left
    ·simp only [zc0, Act.put, Y1, Y2, Y3]
     rfl
    refine wpAnyIn_ready (rs := [5]) (by kernel_rfl) (by simp) (AllReadyIn.cons rfl (fun K hK => ?_) AllReadyIn.nil)
    refine enterIn (N := some 38) (f := 53) (args := #[.slice (some ⟨g', 0, none⟩) (len1 + 1 + 1) cap', .pointer (some ⟨bn, 0, none⟩), .pointer (some ⟨yb, 0, none⟩), .pointer (some ⟨bg, 0, none⟩), .pointer (some ⟨bw, 0, none⟩)]) (w1 := W6) (by rfl) rfl ?_ ?_
    ·unfold execOp
     simp [resolve, Deferred.ofValue, invoke, Act.eval, Act.put, HE.out]
    refine hIH.mono ?_
    rintro e W7 ⟨rfl, ys7, U7, e7, hj7, hVU, hU7, hbx7, hb7, hf7, hs7⟩
    refine ⟨_, rfl, ?_⟩
    refine hK _ _ ?_
    clear hK K
    refine zdi (a' := ?_) ?_ ?_
    rotate_left
    ·simp only [zc0, Act.put, Y1, Y2, Y3]
     rfl
    refine zeb (l' := #[true, true, true, true, true, true, false]) (by rfl) ?_
    refine takeIn (i := 6) (N := some 39) (v := ?_) (a' := ?_) #[true, true, true, true, true, true, true] rfl rfl rfl (by kernel_rfl) (by kernel_rfl) (by kernel_rfl) (fun _ _ _ h => h) ⟨Or.inl ⟨by rfl, ?_⟩, fun _ => rfl⟩ (by rfl) ?_ ?_
    rotate_left; · intro w'; go_simp; with_reducible rfl
    rotate_left; · simp only [Act.put, Y1, Y2, Y3]; rfl
    refine wpAnyIn_done (by kernel_rfl) ?_ _
    refine hK6 _ _ ?_
    have HN : Hid ((ysq ++ ys7).map (·.2) = flq xs m row (x.2.2.take (q + 1))) := Lib.hid (by rw [List.map_append, HP.out, e7, HD.out.2])
    have hJn : J (pre ++ (ysq ++ ys7)) U7 W7 := by rw [← List.append_assoc]; exact hj7
    have hUn : Hid (∀ k, U k → U7 k) := Lib.hid (fun k h => hVU k (hUqV k (HU.out k h)))
    have hUs7 : Hid (∀ k, U7 k → k < W7.heap.size) := Lib.hid hU7
    have hFn : Hid (zcy L U W W7 row) := Lib.hid (hFr.trans (fun v0 r0 hp hu h0 => hf7 v0 r0 (hp.trans (List.prefix_append _ _)) (fun k hk => hUqV k (HU.out k (hu k hk))) h0))
    have hSn : Hid (W.heap.size ≤ W7.heap.size) := Lib.hid (by have := HS.out; omega)
    clear hf7 hj7 hVU hU7 hs7 hFr hcq hIH hap cwd cwA cw6 hV6 hb6 hbA hbx6 hkp hj6 hjV hjA hg'new hVg hUqV hV hro hgr ro hfr6 hgL hgT hbxA hs6 hw6 hr6 hLr hrowA hrowr hcA hsA hBA hWA hsd hbxd hWd
    gi_wp2
    go_roundw
    case rel => exact ⟨q + 1, ysq ++ ys7, U7, by first | rfl | go_num, by omega, HN, hJn, hUn, hUs7, hbx7, hb7, hFn, hSn⟩
    case measure => simp [Go.RowKit.intOf]; omega
   ·obtain rfl : q = x.2.2.length := by omega
    have HL : Left L n₀ J bn yb bg bw l N (some ad) c xs w0 pre U W row (zbn xs (m + 1) row) wr := ⟨ysq, Uq, by rw [hW.out, HP.out, List.take_length], hJq, HU.out, HUs.out, hbxq, hbq, HF.out, HS.out⟩
    gi_wp2
    refine bodyPost_ret (results_tmp rfl _ _ _) rfl ?_
    exact ⟨rfl, HL⟩
end
end Go.Proofs.ZZ.GWalk
end
section
namespace Go.Proofs.ZZ.GWays
open Go Go.RowKit Go.Shelf Go.Maps Go.Proofs.ZW.PrintWords Go.Proofs.ZW.PrintLast Go.Proofs.ZZ.RangeG Go.Proofs.ZZ.GMap Go.Proofs.ZZ.GK Go.Proofs.ZZ.G16 Go.Proofs.ZZ.GGr Go.Proofs.ZZ.GAdd Go.Proofs.ZZ.GTop Go.Proofs.ZZ.GStk Go.Proofs.ZZ.GPush Go.Proofs.ZZ.GBack Go.Proofs.ZZ.GSeq Go.Proofs.ZZ.GRow Go.Proofs.ZZ.GWalk
attribute [local go_sem] Oper.semAt_some
theorem YieldAt.any {n n' : Nat} {P : Program} {l : Nat} {vs : Array Value} {w : World} {R : Ending → World → Prop} (h : YieldAt Fence.wide n P l vs w R) : YieldAt Fence.wide n' P l vs w R := by
 obtain ⟨fn, tmps, assign, body, h1, h2⟩ := h
 exact ⟨fn, tmps, assign, body, h1, RoundIn.anyDepth rfl h2⟩
theorem ways_seq {n n₀ m M : Nat} {w0 w : World} {bn bg bo c : Nat} {A : Option Addr} {xs : List Nd} {node : Int} (hw0 : w0.heap.size = n₀) (hC : Kd.C kN w0 A xs.length xs) (hf : FitG xs) (hm : m ≤ 64) (h0 : 0 ≤ node) (h1 : node < (xs.length : Int)) (hb : Below n₀ w0 w)
  (cn : w.heap[bn]? = some (.cells #[.int .i64 (m : Int)] TI (0, 0))) (cg : w.heap[bg]? = some (.cells #[.slice A xs.length c] TG (0, 0))) (co : w.heap[bo]? = some (.cells #[.int .i64 node] TI (0, 0))) (hM : (zbn xs m [node]).length ≤ M) :
  SeqU n Try.prog 52 #[.pointer (some ⟨bn, 0, none⟩), .pointer (some ⟨bg, 0, none⟩), .pointer (some ⟨bo, 0, none⟩)] encR n₀ [bn, bg] (Out n₀) (fun ys => ys.map (·.2) = zbn xs m [node]) M w := by
 intro l J W ht hJ hY hj
 have hn₀ : n₀ ≤ w.heap.size := by have := hb.size; omega
 have cnW := zdx cn ht (fun h => h)
 have cgW := zdx cg ht (fun h => h)
 have coW := zdx co ht (fun h => h)
 have hbW : Below n₀ w0 W := zge hb ht (by omega) hn₀ (fun _ h => h.elim)
 have hsW := ht.size
 have hbnL : bn < W.heap.size := zbc cnW
 have ccn : W.cell? ⟨bn, 0, none⟩ = some (.int .i64 (m : Int)) := zae cnW 0
 have cco : W.cell? ⟨bo, 0, none⟩ = some (.int .i64 node) := zae coW 0
 have hwk := fun (yb bw : Nat) => walk_in (l := l) (L := W.heap.size) (Nm := M) (N := m) (Ls := [bn, bg]) (J := J) (bn := bn) (yb := yb) (bg := bg) (bw := bw) (c := c) (w0 := w0) hJ hw0 (by omega) hbnL (by simp) (by simp) hC hf hm (fun nn pre x U W1 hj1 hD hlt => YieldAt.any (hY pre x U W1 hj1 hD hlt))
 have cco2 : ∀ o1 o2 : Obj, ((W.alloc o1).alloc o2).cell? ⟨bo, 0, none⟩ = some (.int .i64 node) := fun o1 o2 => zaf (((Below.refl W.heap.size W).alloc (Nat.le_refl _) o1).alloc (by rw [World.size_alloc]; omega) o2) cco
 have heg : ∀ args w, (callFunc 53 args).run Try.prog w = .ok (.enter 53 args) w := enters_of Try.func53 (by kernel_rfl) rfl
 have HE := Lib.hid heg
 have HW := Lib.hid hwk
 clear hY heg hwk ht hC
 refine callsIn_of_wp Try.func52 rfl trivial ?_ rfl
 simp only [Try.ntmps52, List.size_toArray, List.length_cons, List.length_nil, Nat.reduceAdd, Nat.reduceSub, Array.replicate_succ, Array.replicate_zero, List.push_toArray, List.append_toArray, List.nil_append, List.cons_append]
 gi_wp2
 refine ⟨trivial, (fun h => by cases h), ?_⟩
 obtain ⟨W1, hW1⟩ : ∃ X, W.alloc (.cells #[.func (.yield l) #[] #[]] TFn) = X := ⟨_, rfl⟩
 have z1 : W1.heap.size = W.heap.size + 1 := by rw [← hW1]; exact World.size_alloc _ _
 have c1 : W1.heap[W.heap.size]? = some (.cells #[.func (.yield l) #[] #[]] TFn (0, 0)) := by rw [← hW1]; exact za3 W _
 have b1 : Below W.heap.size W W1 := by rw [← hW1]; exact (Below.refl _ _).alloc (Nat.le_refl _) _
 rw [hW1]
 obtain ⟨W2, hW2⟩ : ∃ X, W1.alloc (.cells #[.func (.func 53) #[] #[.pointer (some ⟨bn, 0, none⟩), .pointer (some ⟨W.heap.size, 0, none⟩), .pointer (some ⟨bg, 0, none⟩), .pointer (some ⟨W.heap.size + 1, 0, none⟩)]] TFn) = X := ⟨_, rfl⟩
 have z2 : W2.heap.size = W.heap.size + 2 := by rw [← hW2, World.size_alloc, z1]
 have c2 : W2.heap[W.heap.size + 1]? = some (.cells #[.func (.func 53) #[] #[.pointer (some ⟨bn, 0, none⟩), .pointer (some ⟨W.heap.size, 0, none⟩), .pointer (some ⟨bg, 0, none⟩), .pointer (some ⟨W.heap.size + 1, 0, none⟩)]] TFn (0, 0)) := by have := za3 W1 (.cells #[.func (.func 53) #[] #[.pointer (some ⟨bn, 0, none⟩), .pointer (some ⟨W.heap.size, 0, none⟩), .pointer (some ⟨bg, 0, none⟩), .pointer (some ⟨W.heap.size + 1, 0, none⟩)]] TFn); rw [hW2, z1] at this; exact this
 have b2 : Below (W.heap.size + 1) W1 W2 := by rw [← hW2]; exact (Below.refl _ _).alloc (by omega) _
 rw [hW2]
 obtain ⟨W3, hW3⟩ : ∃ X, W2.alloc (.cells #[.int .i64 node] TI) = X := ⟨_, rfl⟩
 have z3 : W3.heap.size = W.heap.size + 3 := by rw [← hW3, World.size_alloc, z2]
 have c3 : W3.heap[W.heap.size + 2]? = some (.cells #[.int .i64 node] TI (0, 0)) := by rw [← z2, ← hW3]; exact za3 W2 _
 have b3 : Below (W.heap.size + 2) W2 W3 := by rw [← hW3]; exact (Below.refl _ _).alloc (by omega) _
 rw [hW3]
 have b03 : Below W.heap.size W W3 := (b1.trans (b2.mono (by omega))).trans (b3.mono (by omega))
 have hrow : zb0 W.heap.size W3 (.slice (some ⟨W.heap.size + 1 + 1, 0, none⟩) (0 + 1) 1) [node] := ⟨rfl, .inr ⟨W.heap.size + 2, 1, #[.int .i64 node], rfl, by omega, c3, Nat.le_refl _, by decide, rfl, rfl⟩⟩
 have hj3 : J [] (fun k => k = W.heap.size ∨ k = W.heap.size + 1 ∨ k = W.heap.size + 2) W3 := hJ.turn _ _ _ _ (hJ.more _ _ _ _ hj (fun k hk => .inr (by omega))) (Turn.below b03)
 have hbx : BXs bn W.heap.size bg (W.heap.size + 1) l m A xs.length c W3 := ⟨zaq cnW b03, zaq c1 ((b2.trans (b3.mono (by omega))).mono (by omega)), zaq cgW b03, zaq c2 (b3.mono (by omega))⟩
 refine (HW.out W.heap.size (W.heap.size + 1) m [node] (W.heap.size + 2) 0 1 node [] (fun k => k = W.heap.size ∨ k = W.heap.size + 1 ∨ k = W.heap.size + 2) W3 (n - 1) rfl (by omega) rfl h0 h1 hrow (.inr (.inr rfl)) (.inl rfl) (.inr (.inl rfl)) (fun k hk => by omega) hbx hj3 (hbW.trans (b03.mono (by omega))) (by omega) (by simpa using hM)).mono ?_
 rintro e W4 ⟨rfl, ys, U', e1, hj4, _⟩
 have hfin : ∃ xs_ U, xs_.map (·.2) = zbn xs m [node] ∧ J xs_ U W4 := ⟨ys, U', e1, hj4⟩
 clear e1 hj4 hbx hj3 hrow
 gi_wp2
 go_end0
 exact ⟨⟨_, rfl⟩, hfin⟩
theorem ways_calls (A : Option Addr) (k c m : Nat) (node : Int) (w : World) : Calls Try.prog 34 #[.agg #[.slice A k c], .int .i64 node, .int .i64 (m : Int)] w fun e w' => ∃ bn bg bo, e = .returned (.func (.func 52) #[] #[.pointer (some ⟨bn, 0, none⟩), .pointer (some ⟨bg, 0, none⟩), .pointer (some ⟨bo, 0, none⟩)]) ∧
  w'.heap[bn]? = some (.cells #[.int .i64 (m : Int)] TI (0, 0)) ∧ w'.heap[bg]? = some (.cells #[.slice A k c] TG (0, 0)) ∧ w'.heap[bo]? = some (.cells #[.int .i64 node] TI (0, 0)) ∧ Below w.heap.size w w' := by
 go_enter Try.func34, Try.ntmps34
 go_wp2;go_ret
 obtain ⟨W1, hW1⟩ : ∃ X, w.alloc (.cells #[.slice A k c] TG) = X := ⟨_, rfl⟩
 have z1 : W1.heap.size = w.heap.size + 1 := by rw [← hW1]; exact World.size_alloc _ _
 have c1 : W1.heap[w.heap.size]? = some (.cells #[.slice A k c] TG (0, 0)) := by rw [← hW1]; exact za3 w _
 have b1 : Below w.heap.size w W1 := by rw [← hW1]; exact (Below.refl _ _).alloc (Nat.le_refl _) _
 rw [hW1]
 obtain ⟨W2, hW2⟩ : ∃ X, W1.alloc (.cells #[.int .i64 node] TI) = X := ⟨_, rfl⟩
 have z2 : W2.heap.size = w.heap.size + 2 := by rw [← hW2, World.size_alloc, z1]
 have c2 : W2.heap[w.heap.size + 1]? = some (.cells #[.int .i64 node] TI (0, 0)) := by rw [← z1, ← hW2]; exact za3 W1 _
 have b2 : Below (w.heap.size + 1) W1 W2 := by rw [← hW2]; exact (Below.refl _ _).alloc (by omega) _
 rw [hW2]
 obtain ⟨W3, hW3⟩ : ∃ X, W2.alloc (.cells #[.int .i64 (m : Int)] TI) = X := ⟨_, rfl⟩
 have c3 : W3.heap[w.heap.size + 2]? = some (.cells #[.int .i64 (m : Int)] TI (0, 0)) := by rw [← z2, ← hW3]; exact za3 W2 _
 have b3 : Below (w.heap.size + 2) W2 W3 := by rw [← hW3]; exact (Below.refl _ _).alloc (by omega) _
 rw [hW3]
 exact ⟨_, _, _, rfl, c3, zaq c1 ((b2.trans (b3.mono (by omega))).mono (by omega)), zaq c2 (b3.mono (by omega)), (b1.trans (b2.mono (by omega))).trans (b3.mono (by omega))⟩
end Go.Proofs.ZZ.GWays
end
section
namespace Go.Proofs.ZZ.GPaths
open Go Go.RowKit Go.Shelf Go.Maps Go.Proofs.ZW.PrintWords Go.Proofs.ZW.PrintLast Go.Proofs.ZZ.RangeG Go.Proofs.ZZ.GMap Go.Proofs.ZZ.GK Go.Proofs.ZZ.G16 Go.Proofs.ZZ.GGr Go.Proofs.ZZ.GAdd Go.Proofs.ZZ.GTop Go.Proofs.ZZ.GStk Go.Proofs.ZZ.GPush Go.Proofs.ZZ.GBack Go.Proofs.ZZ.GCount Go.Proofs.ZZ.GSeq Go.Proofs.ZZ.GRow Go.Proofs.ZZ.GWalk Go.Proofs.ZZ.GWays
attribute [local go_sem] Oper.semAt_some
abbrev TR : TypeId := 31
abbrev TRR : TypeId := 27
theorem infoR : (Try.prog.info? TR).map (fun i => (i.zero, i.size, i.bytes)) = some (some (.slice none 0 0), 1, 24) := by kernel_rfl
theorem zcz {W : World} {base size n : Nat} {e : TypeId} {v : Value} {xs : List Value} (h : W.ownsRow base e size v n xs) : ∀ k, v.ownBlock = some k → base ≤ k ∧ k < W.heap.size ∧ ∃ c fr, W.heap[k]? = some (.cells c e fr) := by
 intro k hk
 rcases h.2 with ⟨hv, _⟩ | ⟨g, cap, cur, hv, hb, hg, _⟩
 ·rw [hv] at hk; cases hk
 ·rw [hv] at hk
  obtain rfl : g = k := by simpa [Value.ownBlock] using hk
  exact ⟨hb, zbc hg, _, _, hg⟩
theorem own_keep {W W' : World} {base size n : Nat} {e : TypeId} {v : Value} {xs : List Value} (h : W.ownsRow base e size v n xs) (hk : ∀ k, v.ownBlock = some k → k < W.heap.size → W'.heap[k]? = W.heap[k]?) : W'.ownsRow base e size v n xs := by
 refine ⟨h.1, ?_⟩
 rcases h.2 with h2 | ⟨g, cap, cur, hv, hb, hg, r⟩
 ·exact .inl h2
 ·exact .inr ⟨g, cap, cur, hv, hb, (hk g (by rw [hv]; rfl) (zbc hg)).trans hg, r⟩
theorem row_one {L : Nat} {W : World} {v : Value} {row : List Int} (h : zb0 L W v row) : v.oneCell' = true := by
 rcases h.2 with ⟨hv, _⟩ | ⟨g, cap, cur, hv, _⟩ <;> (rw [hv]; rfl)
theorem zfj {F : Fence} {n : Nat} {P : Program} (w : World) {ops : Array Oper} {rest : List Oper} {o : Oper} {a : Act} {Q : Exit → Act → World → Prop}
  (hg : o.guard = none) (s x : Operand) (t : TypeId) (hop : o.op = Op.call { callee := Callee.builtin Builtin.append, args := #[s, x], argTypes := #[t, t] })
  (base : Nat) (e : TypeId) (i : TypeInfo) (z : Value) (size bytes : Nat) (h1 : P.underlying t = some (.slice e)) (h2 : P.info? e = some i) (h3 : i.zero = some z) (h4 : i.size = size) (h5 : i.bytes = bytes) (h6 : z.cells.size = size) (h7 : 0 < size)
  (v : Value) (k : Nat) (xs : List Value) (hs : a.eval s = v) (hown : w.ownsRow base e size v k xs) (ad : Addr) (m c : Nat) (news : List Value) (hx : a.eval x = .slice (some ad) m c) (hn : news.length = m * size)
  (hc : ∀ j u, news[j]? = some u → w.cell? (ad.add j) = some u) (h1c : ∀ u ∈ news, u.oneCell' = true) (b1 : k + m ≤ maxLen) (b2 : (k + m) * bytes ≤ 140737488355328) (b3 : base ≤ w.heap.size)
  (hK : ∀ v' w', w'.ownsRow base e size v' (k + m) (xs ++ news) → w.grownBy w' v.ownBlock → (v'.ownBlock = v.ownBlock ∨ v'.ownBlock = some w.heap.size) → wpListIn F n P ops Q rest (a.put o.dst v') w') :
  wpListIn F n P ops Q (o :: rest) a w := by
 refine wpListIn_plain hg fun K hK' => ?_
 obtain ⟨v', w', hrun, r1, r2, _, r4⟩ := run_append_own_at (P := P) w base t o.type e i z size bytes h1 h2 h3 h4 h5 h6 h7 v k xs hown ad m c news hn hc h1c b1 b2 b3
 unfold Oper.wpIn
 refine ⟨?_, ?_⟩
 ·simp [Oper.about, hop, resolve, Target.leads, Sem.run_pure]
 ·rw [Oper.semAt_plain F _ _ (by rw [hop]; intro c hc'; cases hc')]
  simp [execOp, hop, resolve, invoke, builtin, hs, hx, hrun, Result.andThen]
  exact hK' _ _ (hK v' w' r1 r2 r4)
structure Stp (B : Nat) (ob : Option Nat) (X Y : World) : Prop where
 os : Y.os = X.os
 tape : Y.tape = X.tape
 output : Y.output = X.output
 size : X.heap.size ≤ Y.heap.size
 block : ∀ k, k < X.heap.size → k ≠ B → ob ≠ some k → Y.heap[k]? = X.heap[k]?
theorem Stp.of {B : Nat} {v : Value} {X X1 X2 : World} {o : Obj} {v' : Value} (h1 : X.alloc o = X1) (h2 : X1.grownBy X2 v.ownBlock) : Stp B v.ownBlock X (X2.setCell ⟨B, 0, none⟩ v') := by
 have b1 : Below X.heap.size X X1 := by rw [← h1]; exact (Below.refl _ _).alloc (Nat.le_refl _) _
 have b3 : ∀ Z : World, (Z.setCell ⟨B, 0, none⟩ v').heap.size = Z.heap.size := fun Z => by simp
 refine ⟨?_, ?_, ?_, ?_, fun k hk hB hne => ?_⟩
 ·exact h2.os.trans b1.os
 ·exact h2.tape.trans b1.tape
 ·exact h2.output.trans b1.output
 ·rw [b3]; exact Nat.le_trans b1.size h2.size
 ·rw [Below.heap_setCell _ _ _ _ hB, h2.block k (by have := b1.size; omega) (fun e => hne e.symm)]
  exact b1.block k hk
def zb9 (xs : List Nd) (node n : Int) : List (List Int) := if 0 ≤ node ∧ node < (xs.length : Int) ∧ 0 ≤ n ∧ n ≤ 64 then zbn xs n.toNat [node] else []
structure Ro (B n₀ L0 M : Nat) (w : World) (pre : List (Value × List Int)) (U : Nat → Prop) (v : Value) (X : World) : Prop where
 box : X.heap[B]? = some (.cells #[v] TRR (0, 0))
 far : ¬ U B
 own : X.ownsRow L0 TR 1 v pre.length (pre.map (·.1))
 vfar : ∀ k, v.ownBlock = some k → ¬ U k
 rows : ∀ y ∈ pre, zb0 n₀ X y.1 y.2 ∧ ∀ k, y.1.ownBlock = some k → ¬ U k
 few : pre.length ≤ M
 size : L0 ≤ X.heap.size
 low : Below n₀ w X
 un : ∀ k, U k → n₀ ≤ k
theorem Ro.turn {B n₀ L0 M : Nat} {w : World} {pre : List (Value × List Int)} {U : Nat → Prop} {v : Value} {X Y : World} {L : Nat} (h : Ro B n₀ L0 M w pre U v X) (ht : Turn L U X Y) (hw : n₀ ≤ w.heap.size) (hL : n₀ ≤ L) : Ro B n₀ L0 M w pre U v Y :=
 ⟨zdx h.box ht h.far, h.far, zgb h.own ht h.vfar, h.vfar, fun y hy => ⟨zgb (h.rows y hy).1 ht (h.rows y hy).2, (h.rows y hy).2⟩, h.few, Nat.le_trans h.size ht.size, zge h.low ht hw hL h.un, h.un⟩
theorem Ro.more {B n₀ L0 M : Nat} {w : World} {pre : List (Value × List Int)} {U V : Nat → Prop} {v : Value} {X : World} (h : Ro B n₀ L0 M w pre U v X) (hw : n₀ ≤ w.heap.size) (hV : ∀ k, V k → U k ∨ X.heap.size ≤ k) : Ro B n₀ L0 M w pre V v X := by
 have key : ∀ k, k < X.heap.size → ¬ U k → ¬ V k := fun k h1 h2 h3 => (hV k h3).elim h2 (fun h4 => by omega)
 exact ⟨h.box, key _ (zbc h.box) h.far, h.own, fun k hk => key k (zcz h.own k hk).2.1 (h.vfar k hk), fun y hy => ⟨(h.rows y hy).1, fun k hk => key k (zcz (h.rows y hy).1 k hk).2.1 ((h.rows y hy).2 k hk)⟩, h.few, h.size, h.low, fun k hk => (hV k hk).elim (h.un k) (fun h4 => by have := h.low.size; omega)⟩
theorem Ro.step {B n₀ L0 M : Nat} {w X X1 X2 : World} {pre : List (Value × List Int)} {U : Nat → Prop} {v v' : Value} {x : Value × List Int} {o : Obj} (h : Ro B n₀ L0 M w pre U v X) (hw : n₀ ≤ w.heap.size) (hn : n₀ ≤ L0) (hB : n₀ ≤ B) (hx : Out n₀ x U X) (h1 : X.alloc o = X1) (h2 : X1.grownBy X2 v.ownBlock) (h3 : X2.ownsRow L0 TR 1 v' (pre.length + 1) (pre.map (·.1) ++ [x.1])) (h4 : v'.ownBlock = v.ownBlock ∨ v'.ownBlock = some X1.heap.size) (h5 : X2.heap[B]? = some (.cells #[v] TRR (0, 0))) (hM : pre.length < M) :
  Ro B n₀ L0 M w (pre ++ [x]) U v' (X2.setCell ⟨B, 0, none⟩ v') := by
 have st : Stp B v.ownBlock X (X2.setCell ⟨B, 0, none⟩ v') := Stp.of h1 h2
 have z1 : X1.heap.size = X.heap.size + 1 := by rw [← h1]; exact World.size_alloc _ _
 have row : ∀ y : Value × List Int, zb0 n₀ X y.1 y.2 → zb0 n₀ (X2.setCell ⟨B, 0, none⟩ v') y.1 y.2 := fun y hy => own_keep hy (fun k hk hlt => st.block k hlt (fun e => by
  obtain ⟨_, _, c, fr, hc⟩ := zcz hy k hk
  rw [e, h.box] at hc
  injection hc with hc
  injection hc with _ hc _
  exact absurd hc (by decide)) (fun e => by
  obtain ⟨_, _, c, fr, hc⟩ := zcz hy k hk
  obtain ⟨_, _, c2, fr2, hc2⟩ := zcz h.own k e
  rw [hc2] at hc
  injection hc with hc
  injection hc with _ hc _
  exact absurd hc (by decide)))
 refine ⟨?_, h.far, ?_, ?_, ?_, by simp; omega, Nat.le_trans h.size st.size, ?_, h.un⟩
 ·exact Boxed.set v' h5
 ·rw [List.length_append, List.map_append]
  refine own_keep h3 (fun k hk hlt => Below.heap_setCell _ _ _ _ (fun e => ?_))
  obtain ⟨_, _, c, fr, hc⟩ := zcz h3 k hk
  rw [e, h5] at hc
  injection hc with hc
  injection hc with _ hc _
  exact absurd hc (by decide)
 ·intro k hk hu
  rcases h4 with e | e
  ·exact h.vfar k (by rw [← e]; exact hk) hu
  ·rw [e] at hk
   injection hk with hk
   have := hx.2.2 k hu
   omega
 ·intro y hy
  rcases List.mem_append.1 hy with hy | hy
  ·exact ⟨row y (h.rows y hy).1, (h.rows y hy).2⟩
  ·obtain rfl := List.mem_singleton.1 hy
   exact ⟨row y hx.1, hx.2.1⟩
 ·refine h.low.trans ⟨st.os, st.tape, st.output, st.size, fun k hk => st.block k (by have := h.low.size; omega) (by omega) (fun e => ?_)⟩
  have := (zcz h.own k e).1
  omega
theorem Stp.keeps {B n₀ L0 M : Nat} {w X Y : World} {pre : List (Value × List Int)} {U : Nat → Prop} {v : Value} (h : Ro B n₀ L0 M w pre U v X) (hw : n₀ ≤ w.heap.size) (hn : n₀ ≤ L0) (hB : n₀ ≤ B) (st : Stp B v.ownBlock X Y) (Ls : List Nat) (hL : ∀ b ∈ Ls, b < L0 ∧ b ≠ B) (K : Nat) : KeepsFrom K X Y ∧ zci n₀ Ls U X Y := by
 have hne : ∀ k, k < L0 → v.ownBlock ≠ some k := fun k hk e => by have := (zcz h.own k e).1; omega
 refine ⟨⟨st.size, fun k o _ hk ho => (st.block k (zbc hk) (fun e => ?_) (fun e => ?_)).trans hk⟩, ⟨⟨st.os, st.tape, st.output, st.size, fun k hk => st.block k (by have := h.low.size; omega) (by omega) (hne k (by omega))⟩, fun b hb hlt => st.block b hlt (hL b hb).2 (hne b (hL b hb).1)⟩, st.size, fun k hk hlt => st.block k hlt (fun e => h.far (by rw [← e]; exact hk)) (fun e => h.vfar k e hk)⟩
 ·rw [e, h.box] at hk
  injection hk with hk
  rw [← hk] at ho
  cases ho
 ·obtain ⟨_, _, c, fr, hc⟩ := zcz h.own k e
  rw [hc] at hk
  injection hk with hk
  rw [← hk] at ho
  cases ho
theorem zfu (A : Option Addr) (c : Nat) (xs : List Nd) (node n : Int) (w : World) (hC : Kd.C kN w A xs.length xs) (hf : FitG xs) :
  Calls Try.prog 10 #[.agg #[.slice A xs.length c], .int .i64 node, .int .i64 n] w fun e w' =>
   ∃ v ys ec, e = .returned (.tuple #[v, .int .i64 ec]) ∧ w'.ownsRow w.heap.size TR 1 v ys.length (ys.map Prod.fst) ∧ (∀ y ∈ ys, zb0 w.heap.size w' y.1 y.2) ∧ Below w.heap.size w w' ∧ ys.length ≤ 4000 ∧
    (ec = 0 ∧ ys.map (·.2) = zb9 xs node n ∨ ec = 15 ∧ ys = [] ∧ 4000 < (zb9 xs node n).length) := by
 obtain ⟨W1, hW1⟩ : ∃ X, w.alloc (.cells #[.slice A xs.length c] TG) = X := ⟨_, rfl⟩
 have b1 : W1.heap[w.heap.size]? = some (.cells #[.slice A xs.length c] TG (0, 0)) := by rw [← hW1]; exact za3 _ _
 have e1 : Below w.heap.size w W1 := by rw [← hW1]; exact (Below.refl _ _).alloc (Nat.le_refl _) _
 have c1 : W1.cell? ⟨w.heap.size, 0, none⟩ = some (.slice A xs.length c) := zae b1 0
 have hcan := can_calls A c xs.length node n W1 hf.len
 refine (callsIn_wide (n := 3)).1 ?_
 refine callsIn_of_wp_marks Try.func10 rfl trivial ?_ rfl
 simp only [Try.ntmps10, List.size_toArray, List.length_cons, List.length_nil, Nat.reduceAdd, Nat.reduceSub, Array.replicate_succ, Array.replicate_zero, List.push_toArray, List.append_toArray, List.nil_append, List.cons_append]
 by_cases hcn : 0 ≤ node ∧ node < (xs.length : Int) ∧ 0 ≤ n ∧ n ≤ 64
 ·have ecn : decide (0 ≤ node ∧ node < (xs.length : Int) ∧ 0 ≤ n ∧ n ≤ 64) = true := decide_eq_true hcn
  rw [ecn] at hcan
  obtain ⟨n0, n1, n2, n3⟩ := hcn
  obtain ⟨m, rfl⟩ : ∃ m : Nat, n = (m : Int) := ⟨n.toNat, by omega⟩
  have hm : m ≤ 64 := by omega
  have HP : Hid (zb9 xs node (m : Int) = zbn xs m [node]) := Lib.hid (by
   unfold zb9
   rw [if_pos ⟨n0, n1, n2, n3⟩, Int.toNat_natCast])
  have HLn : Hid (((zbn xs m [node]).length : Int) = wR xs m node) := Lib.hid (by rw [walkR_len]; rfl)
  clear ecn
  gi_wp2
  refine ⟨trivial, (callsIn_wide.2 hcan).mono ?_⟩
  rintro e W2 ⟨rfl, hb2⟩
  have b2 := zaq b1 hb2
  have e2 : Below w.heap.size w W2 := e1.trans (hb2.mono e1.size)
  have c2 : W2.cell? ⟨w.heap.size, 0, none⟩ = some (.slice A xs.length c) := zae b2 0
  have hcnt := count_calls A c xs node m W2 (Kd.zaz hC e2) hf n0 n1 hm
  clear b1 e1 c1 hb2 hW1 hcan
  gi_wp2
  refine ⟨trivial, (callsIn_wide.2 hcnt).mono ?_⟩
  rintro e W3 ⟨r, rfl, r0, rz, rd, rl, hb3⟩
  have b3 := zaq b2 hb3
  have e3 : Below w.heap.size w W3 := e2.trans (hb3.mono e2.size)
  clear b2 e2 c2 hb3 hcnt
  by_cases h4 : 4000 < r
  ·have HDD : Hid (4000 < (zb9 xs node (m : Int)).length) := Lib.hid (by rw [HP.out]; have h1 := HLn.out; omega)
   clear rd
   gi_wp2
   exact ⟨_, results_tmp2 rfl _ _ _, _, [], 15, rfl, World.ownsRow_nil _ _ _ _, (fun y hy => nomatch hy), e3, by decide, .inr ⟨rfl, rfl, HDD.out⟩⟩
  ·clear rd
   by_cases hz : r = 0
   ·have HZ : Hid ([] = zbn xs m [node]) := Lib.hid (by
     have h1 := HLn.out
     have h2 := rl (by omega)
     have h3 := zc5 xs m node
     exact (List.eq_nil_of_length_eq_zero (by omega)).symm)
    subst hz;clear rl rz
    gi_wp2
    exact ⟨_, results_tmp2 rfl _ _ _, _, [], 0, rfl, World.ownsRow_nil _ _ _ _, (fun y hy => nomatch hy), e3, by decide, .inl ⟨rfl, by rw [HP.out, ← HZ.out]; rfl⟩⟩
   ·have HM : Hid ((zbn xs m [node]).length ≤ 4000) := Lib.hid (by
     have h1 := HLn.out
     have h2 := rl (by omega)
     omega)
    clear rl rz
    have c3 : W3.cell? ⟨w.heap.size, 0, none⟩ = some (.slice A xs.length c) := zae b3 0
    obtain ⟨W4, hW4⟩ : ∃ X, W3.alloc (.cells #[.slice none 0 0] TRR) = X := ⟨_, rfl⟩
    have b4 : W4.heap[w.heap.size]? = some (.cells #[.slice A xs.length c] TG (0, 0)) := by rw [← hW4]; exact zai b3 _
    have c4 : W4.cell? ⟨w.heap.size, 0, none⟩ = some (.slice A xs.length c) := zae b4 0
    have hway := ways_calls A xs.length c m node W4
    have e4 : Below w.heap.size w W4 := by rw [← hW4]; exact e3.alloc e3.size _
    have B4 : W4.heap[W3.heap.size]? = some (.cells #[.slice none 0 0] TRR (0, 0)) := by rw [← hW4]; exact za3 _ _
    have hB : w.heap.size ≤ W3.heap.size := e3.size
    obtain ⟨B, hBd⟩ : ∃ B, W3.heap.size = B := ⟨_, rfl⟩
    have z4 : W4.heap.size = B + 1 := by rw [← hW4, World.size_alloc, hBd]
    rw [hBd] at B4 hB
    have H4 := Lib.hid h4
    have HZ0 := Lib.hid hz
    have E3 := Lib.hid e3
    clear b3 e3
    gi_wp2
    clear hW4 hBd c3 c4 E3
    refine ⟨trivial, (callsIn_wide.2 hway).mono ?_⟩
    rintro e W5 ⟨bn, bg, bo, rfl, f1, f2, f3, hb5⟩
    have e5 : Below w.heap.size w W5 := e4.trans (hb5.mono e4.size)
    have B5 := zaq B4 hb5
    have hseq : SeqU 2 Try.prog 52 #[.pointer (some ⟨bn, 0, none⟩), .pointer (some ⟨bg, 0, none⟩), .pointer (some ⟨bo, 0, none⟩)] encR w.heap.size [bn, bg] (Out w.heap.size) (fun ys => ys.map (·.2) = zbn xs m [node]) 4000 W5 := ways_seq rfl hC hf hm n0 n1 e5 f1 f2 f3 HM.out
    have heg : ∀ args w, (callFunc 52 args).run Try.prog w = .ok (.enter 52 args) w := enters_of Try.func52 (by kernel_rfl) rfl
    have HS := Lib.hid hseq
    have HE := Lib.hid heg
    have hL : ∀ b ∈ [bn, bg], b < W5.heap.size ∧ b ≠ B := fun b hb => by
     rcases List.mem_cons.1 hb with rfl | hb
     ·refine ⟨zbc f1, fun e => ?_⟩
      rw [e, B5] at f1
      injection f1 with f1
      injection f1 with _ f1 _
      exact absurd f1 (by decide)
     ·obtain rfl := List.mem_singleton.1 hb
      refine ⟨zbc f2, fun e => ?_⟩
      rw [e, B5] at f2
      injection f2 with f2
      injection f2 with _ f2 _
      exact absurd f2 (by decide)
    have HL := Lib.hid hL
    have hR0 : Ro B w.heap.size W5.heap.size 4000 w [] (fun _ => False) (.slice none 0 0) W5 := ⟨B5, id, World.ownsRow_nil _ _ _ _, fun _ _ => id, (fun y hy => nomatch hy), by decide, Nat.le_refl _, e5, fun _ h => h.elim⟩
    have hn5 := e5.size
    obtain ⟨i0, hi, hzz⟩ := Option.map_eq_some_iff.1 infoR
    simp only [Prod.mk.injEq] at hzz
    obtain ⟨hz0, hz1, hz2⟩ := hzz
    clear hseq heg hway b4 e4 B4 hb5 f1 f2 f3 hL
    gi_wp2
    refine rangeU (gf := 52) (lb := #[.pointer (some ⟨bn, 0, none⟩), .pointer (some ⟨bg, 0, none⟩), .pointer (some ⟨bo, 0, none⟩)]) rfl HE.out HS.out hn5 (fun b hb => (HL.out b hb).1) (Turn.refl _ _ _) (fun _ => rfl)
     (fun pre U X => ∃ v, Ro B w.heap.size W5.heap.size 4000 w pre U v X) ?hI ⟨_, hR0⟩
     (fun x U a' X => Out w.heap.size x U X ∧ a' = Act.mk #[.agg #[.slice A xs.length c], .int .i64 node, .int .i64 (m : Int), .pointer (some ⟨w.heap.size, 0, none⟩), undef, undef, .slice none 0 0, .int .i64 0, .int .i64 r, .pointer (some ⟨B, 0, none⟩), x.1, .agg #[.slice A xs.length c], .int .i64 node, .int .i64 (m : Int), .bool true, .bool false, .agg #[.slice A xs.length c], .int .i64 node, .int .i64 (m : Int), .int .i64 r, .bool (decide (4000 < r)), .int .i64 r, .bool (decide (4000 < r)), .bool false, .int .i64 r, .bool false, .agg #[.slice A xs.length c], .int .i64 node, .int .i64 (m : Int), .func (.func 52) #[] #[.pointer (some ⟨bn, 0, none⟩), .pointer (some ⟨bg, 0, none⟩), .pointer (some ⟨bo, 0, none⟩)], x.1, undef, undef, undef, undef, undef] []) ?hAx ?assign ?body ?done
    case hI => exact ⟨fun s U X Y ⟨v, h⟩ ht => ⟨v, h.turn ht (Nat.le_refl _) hn5⟩, fun s U V X ⟨v, h⟩ hV => ⟨v, h.more (Nat.le_refl _) hV⟩⟩
    case hAx =>
     rintro x U a' X Y ⟨⟨h1, h2, h3⟩, h4⟩ ht
     exact ⟨⟨zgb h1 ht (fun _ _ h => h), h2, fun k hk => Nat.lt_of_lt_of_le (h3 k hk) ht.size⟩, h4⟩
    case assign =>
     rintro l pre x U X K ⟨v, h⟩ hD hK
     simp only [encR]
     gi_wp2
     exact hK _ _ (KeepsFrom.refl _ _) (zci.refl _ _ _ _) ⟨v, h⟩ ⟨hD, rfl⟩
    case body =>
     rintro l pre x U a' X hl hr ⟨v, h⟩ ⟨hD, rfl⟩ hpre
     have hbx : Boxed X B TRR v := h.box
     have cv := hbx.cell
     have H1 : Hid (∀ u ∈ [x.1], u.oneCell' = true) := Lib.hid (fun u hu => by rw [List.mem_singleton.1 hu]; exact row_one hD.1)
     have HM2 : Hid (maxLen = 9223372036854775807) := Lib.hid rfl
     have hsz := h.size
     have HR := Lib.hid h
     have HD := Lib.hid hD
     have HX : Hid (∀ j u, [x.1][j]? = some u → (X.alloc (.cells #[x.1] TR)).cell? ((⟨X.heap.size, 0, none⟩ : Addr).add j) = some u) := Lib.hid (cell_one_new _ _ _)
     have hown : (X.alloc (.cells #[x.1] TR)).ownsRow W5.heap.size TR 1 v pre.length (pre.map (·.1)) := h.own.alloc _
     obtain ⟨x1, x2⟩ := x
     obtain ⟨xa, xk, xc, hx1⟩ : ∃ xa xk xc, x1 = .slice xa xk xc := by
      rcases hD.1.2 with ⟨hv, _⟩ | ⟨g, cap, cur, hv, _⟩
      ·exact ⟨_, _, _, hv⟩
      ·exact ⟨_, _, _, hv⟩
     subst hx1;clear hr hD h
     gi_wp2_with (gi_at_builtin; refine zfj _ rfl _ _ 27 rfl W5.heap.size TR i0 (.slice none 0 0) 1 24 Try.underlying27 hi hz0 hz1 hz2 rfl (by decide) _ _ _ rfl hown ⟨X.heap.size, 0, none⟩ 1 1 [.slice xa xk xc] rfl rfl HX.out H1.out (by have := HM2.out; omega) (by omega) (by rw [World.size_alloc]; omega) ?_; intro v' w1 hown' hgrow hat; obtain ⟨g', cap', rfl⟩ := ownsRow_succ hown'; have hB1 : Boxed w1 B TRR v := (hbx.alloc _).kept hgrow ((hbx.alloc _).not_row (by decide) hown); have hc1 := hB1.cell; have hf1 := hB1.frozen)
     have hk := Stp.keeps HR.out (Nat.le_refl _) hn5 hB (Stp.of (v' := .slice (some ⟨g', 0, none⟩) (pre.length + 1) cap') rfl hgrow) [bn, bg] HL.out W5.heap.size
     exact ⟨hk.1, hk.2, _, HR.out.step (Nat.le_refl _) hn5 hB HD.out rfl hgrow hown' hat hB1 hpre⟩
    case done =>
     rintro D ys U X hD hS ⟨v, h⟩ hK'
     have cv := Boxed.cell h.box
     have HS2 := Lib.hid hS
     clear hS
     gi_wp2
     refine ⟨by simp, .inl ⟨_, _, rfl, run_takeDeferred hK', ?_⟩⟩
     exact ⟨_, results_tmp2 rfl _ _ _, v, ys, 0, rfl, ze1 (ownsRow_putObj h.own _ hK' rfl) hn5, fun y hy => ownsRow_putObj (h.rows y hy).1 _ hK' rfl, h.low.trans (belowK_b (w := w) (Nat.le_refl _) X D _ _ (by omega) hK' rfl rfl), h.few, .inl ⟨rfl, by rw [HP.out]; exact HS2.out⟩⟩
 ·have ecn : decide (0 ≤ node ∧ node < (xs.length : Int) ∧ 0 ≤ n ∧ n ≤ 64) = false := decide_eq_false hcn
  rw [ecn] at hcan
  have HP : Hid ([] = zb9 xs node n) := Lib.hid (by
   unfold zb9
   rw [if_neg hcn])
  clear ecn hcn
  gi_wp2
  refine ⟨trivial, (callsIn_wide.2 hcan).mono ?_⟩
  rintro e W2 ⟨rfl, hb2⟩
  have e2 : Below w.heap.size w W2 := e1.trans (hb2.mono e1.size)
  clear b1 e1 c1 hb2 hW1 hcan
  gi_wp2
  exact ⟨_, results_tmp2 rfl _ _ _, _, [], 0, rfl, World.ownsRow_nil _ _ _ _, (fun y hy => nomatch hy), e2, by decide, .inl ⟨rfl, HP.out⟩⟩
end Go.Proofs.ZZ.GPaths
end
section
namespace Go.Proofs.ZZ.PNew
open Go.RowKit Go.Proofs.ZW.PrintWords Go.Proofs.ZW.PrintLast Go.Proofs.ZW.PrintMore
attribute [local go_sem] zca zcg
def za0 (xs : List (List Int)) (i : Int) : (List Int) := xs.getD i.toNat ([] : List Int)
structure S38 where
 f0 : Int
 f1 : Int
 f2 : (List Int)
def z38 : S38 := ⟨(0 : Int), (0 : Int), ([] : List Int)⟩
def k38 : Kd S38 := Kd.iso (Kd.pair (Kd.int .i64) (Kd.pair (Kd.int .i64) (Kd.slice 3 (Kd.int .i64)))) (fun x : S38 => (x.f0, x.f1, x.f2))
theorem k38_mkM (w : World) (base : Nat) (ok : Nat → Prop) (x : S38) {v2 : Value} (g2 : (Kd.int .i64).R 3 w base ok v2 x.f2) : k38.M w base ok x [.int .i64 x.f0, .int .i64 x.f1, v2] := ⟨[.int .i64 x.f0], [.int .i64 x.f1, v2], rfl, rfl, ⟨[.int .i64 x.f1], [v2], rfl, rfl, ⟨v2, rfl, g2⟩⟩⟩
def zaa (xs : List S38) (i : Int) : S38 := xs.getD i.toNat z38
theorem Yb_PNewx1_0 {n : Nat} {w w' : World} (h : Below n w w' := by repeat (first | (with_reducible first | exact HB.out | apply za8 | apply za1 | apply zas | refine zbg ?_ GE101.out) | exact HB.out)) : Below n w w' := h
def zbv.f (a0 : Int) : Option (Bool) := if a0 ≥ 0 then (some (decide (a0 ≤ 65535))) else (some false)
theorem zbv.calls (a0 : Int) (r : Bool) (w : World) (h : zbv.f a0 = some r) :
  Calls Try.prog 37 #[.int .i64 a0] w fun e w' => e = .returned (.bool r) ∧ zam w w' := by
 have H : (if a0 ≥ 0 then (some (decide (a0 ≤ 65535))) else (some false)) = some r := h
 clear h
 by_cases c2 : a0 ≥ 0
 ·rw [if_pos c2] at H
  have c2b0 := decide_eq_true c2
  clear c2;obtain rfl := Option.some.inj H
  go_enter Try.func37, Try.ntmps37
  go_wp2;go_ret
  exact ⟨Yfs, by repeat (first | exact zam.refl _ | apply zam.step)⟩
 ·rw [if_neg c2] at H
  have c2b0 := decide_eq_false c2
  clear c2;obtain rfl := Option.some.inj H
  go_enter Try.func37, Try.ntmps37
  go_wp2;go_ret
  exact ⟨Yfs, by repeat (first | exact zam.refl _ | apply zam.step)⟩
def zfo.f (a0 : Int) : Option ((List (S38))) := (zbv.f a0).bind fun t102 => (if t102 = true then (some (([(⟨a0, 0, ([] : List Int)⟩ : S38)] : List (S38)))) else (some ([] : List (S38))))
theorem zfo.calls (a0 : Int) (r : List (S38)) (w : World) (h : zfo.f a0 = some r) :
  Calls Try.prog 21 #[.int .i64 a0] w fun e w' => ∃ v0_ : Value, e = .returned (.agg #[v0_]) ∧ Kd.R k38 38 w' w.heap.size (fun _ => True) v0_ r ∧ Below w.heap.size w w' := by
 have hu24 := Try.underlying24
 have hu38 := Try.underlying38
 have HB := zac.mk (Below.refl w.heap.size w)
 have H : ((zbv.f a0).bind fun t102 => (if t102 = true then (some (([(⟨a0, 0, ([] : List Int)⟩ : S38)] : List (S38)))) else (some ([] : List (S38))))) = some r := h
 clear h;replace H := Option.bind_eq_some_iff.mp H
 obtain ⟨t102, A20, H⟩ := H
 replace H : (if t102 = true then (some (([(⟨a0, 0, ([] : List Int)⟩ : S38)] : List (S38)))) else (some ([] : List (S38)))) = some r := H
 have A2 := zac.mk A20;clear A20
 by_cases c3 : t102 = true
 ·subst c3
  have H1 : (some (([(⟨a0, 0, ([] : List Int)⟩ : S38)] : List (S38)))) = some r := by rw [if_pos rfl] at H; exact H
  clear H;have H := H1;clear H1
  obtain ⟨y103, hy103⟩ : ∃ y_ : List (S38), y_ = (([(⟨a0, 0, ([] : List Int)⟩ : S38)] : List (S38))) := ⟨_, rfl⟩
  replace H : (some y103) = some r := by first | (rw [hy103]; with_reducible exact H) | (have H2_ := (Option.bind_some _ _).symm.trans H; rw [hy103]; with_reducible exact H2_) | (have H2_ := (Option.bind_some _ _).symm.trans H; with_reducible exact H2_) | with_reducible exact H | (rw [hy103]; exact H) | exact H
  have Ny103 := zac.mk hy103;clear hy103;obtain rfl := Option.some.inj H
  go_enter Try.func21, Try.ntmps21
  go_wp2_with (first | ((with_reducible refine zbj (N := 2) rfl ?_); refine Ybx 2 #[.slice none 0 0] 24 ?_; intro gb101 hg w4 hbox hb; obtain ⟨BK101, GW101, GE101, HB⟩ := Yb4 hbox hg hb Ybe; clear hb hbox hg) | ((with_reducible refine zaw (f := 37) rfl ?_); refine Ygl (some 4) Try.func37 #[.int .i64 a0] ?_; (with_reducible refine (zbv.calls a0 true _ A2.out).mono ?_); rintro e w' ⟨rfl, ⟨nd, rfl⟩⟩; refine ⟨_, rfl, ?_⟩; (try (rw [zgf w4]; generalize hq_ : World.drewN w4 _ = w4; have n0_ : zac (w4.heap[gb101]? = some (.cells #[.slice none 0 0] 24 (0, 0))) := ⟨by rw [← hq_]; exact (Yg BK101)⟩; have n1_ : zac (Below w.heap.size w w4) := ⟨by rw [← hq_]; exact Yb_PNewx1_0⟩; clear BK101 HB hq_; have BK101 := n0_; have HB := n1_; clear n0_ n1_))) | ((with_reducible refine zbj (N := 9) rfl ?_); refine Kd.R_lit k38 _ 38 ?hg (N := 9) ?hd (xs := ([(⟨a0, 0, ([] : List Int)⟩ : S38)] : List (S38))) (inner := [.int .i64 a0, .int .i64 0, .slice none 0 0]) (ok := fun _ => True) (okp := fun _ => True) ?hr ?hp (fun _ hk => hk) trivial (Below.refl _ _) (Nat.le_refl _) (by simp) ?_; (case hd => rfl); (case hg => rfl); (case hr => first | (go_simp; done) | (go_simp; rfl)); (case hp => exact (Reps.c3 (show Kd.M k38 _ _ _ (⟨a0, 0, ([] : List Int)⟩ : S38) [.int .i64 a0, .int .i64 0, .slice none 0 0] from (k38_mkM _ _ _ (⟨a0, 0, ([] : List Int)⟩ : S38) (Kd.R_nil _ _ _ _ _))) (Reps.none _ _))); intro v104 w5 ho6 hb hg_ hnew_; clear hg_ hnew_; (first | rw [← Ny103.out] at ho6 | (simp only [Int.reduceToNat] at ho6; rw [← Ny103.out] at ho6)); have HO105 := zac.mk (Kd.zck ho6 (zcv Yb_PNewx1_0)); replace BK101 := Ykb BK101 hb; replace HB := zac.mk (za5 Yb_PNewx1_0 hb); clear hb ho6; obtain ⟨Ao7, co7, eo7⟩ := Kd.zb6 HO105.out; subst eo7; obtain ⟨hcz8_0, hfz8_0⟩ := Yc1 BK101.out))
  refine bodyPost_ret (results_cell_row rfl _ _ gb101 24 #[.slice Ao7 y103.length co7] (0, 0) _ rfl (by (with_reducible repeat (first | refine zaj ?_ _ | refine zah ?_ | refine zai ?_ _)); refine za4 (cs := #[.slice none 0 0]) ?_ 0 _ rfl; (with_reducible repeat (first | refine zaj ?_ _ | refine zah ?_ | refine zai ?_ _)); exact BK101.out) Try.underlying24 rfl (by kernel_rfl)) rfl ?_
  exact ⟨_, by first | rfl | (simp [errW_none, errW_some] <;> rfl) | (simp [*, errW_none, errW_some] <;> rfl), by (with_reducible repeat (first | apply Kd.zcr | apply Kd.zc6 | apply Kd.zco)); exact Kd.zbr (Kd.R_far (p := ⟨gb101, 0, none⟩) (Kd.zd5 HO105.out BK101.out (by decide)) (fun _ hk => hk.2) (.slice Ao7 y103.length co7)) (fun _ hk => trivial), Yb_PNewx1_0⟩
 ·replace c3 := Bool.eq_false_iff.mpr c3
  subst c3
  have H1 : (some ([] : List (S38))) = some r := by rw [if_neg (show ¬ (false = true) by decide)] at H; exact H
  clear H;have H := H1;clear H1;obtain rfl := Option.some.inj H
  go_enter Try.func21, Try.ntmps21
  go_wp2_with (first | ((with_reducible refine zbj (N := 2) rfl ?_); refine Ybx 2 #[.slice none 0 0] 24 ?_; intro gb101 hg w9 hbox hb; obtain ⟨BK101, GW101, GE101, HB⟩ := Yb4 hbox hg hb Ybe; clear hb hbox hg) | ((with_reducible refine zaw (f := 37) rfl ?_); refine Ygl (some 4) Try.func37 #[.int .i64 a0] ?_; (with_reducible refine (zbv.calls a0 false _ A2.out).mono ?_); rintro e w' ⟨rfl, ⟨nd, rfl⟩⟩; refine ⟨_, rfl, ?_⟩; (try (rw [zgf w9]; generalize hq_ : World.drewN w9 _ = w9; have n0_ : zac (w9.heap[gb101]? = some (.cells #[.slice none 0 0] 24 (0, 0))) := ⟨by rw [← hq_]; exact (Yg BK101)⟩; have n1_ : zac (Below w.heap.size w w9) := ⟨by rw [← hq_]; exact Yb_PNewx1_0⟩; clear BK101 HB hq_; have BK101 := n0_; have HB := n1_; clear n0_ n1_)); obtain ⟨hcz10_0, hfz10_0⟩ := Yc1 BK101.out))
  refine bodyPost_ret (results_cell_row rfl _ _ gb101 24 #[.slice none 0 0] (0, 0) _ rfl (by (with_reducible repeat (first | refine zaj ?_ _ | refine zah ?_ | refine zai ?_ _)); refine za4 (cs := #[.slice none 0 0]) ?_ 0 _ rfl; (with_reducible repeat (first | refine zaj ?_ _ | refine zah ?_ | refine zai ?_ _)); exact BK101.out) Try.underlying24 rfl (by kernel_rfl)) rfl ?_
  exact ⟨_, by first | rfl | (simp [errW_none, errW_some] <;> rfl) | (simp [*, errW_none, errW_some] <;> rfl), by first | exact Kd.R_nil _ _ _ _ _ | exact Kd.N_nil _ _ _ _ _ | exact Kd.V_nil _ _ _ _ _ | exact Kd.Q_nil _ _ _ _ _ | exact Kd.S_nil _ _ _ _ _, Yb_PNewx1_0⟩
end Go.Proofs.ZZ.PNew
end
section
namespace Go.Proofs.ZZ.PFit
open Go.RowKit Go.Proofs.ZW.PrintWords Go.Proofs.ZW.PrintLast Go.Proofs.ZW.PrintMore
attribute [local go_sem] zca zcg
def za0 (xs : List (List Int)) (i : Int) : (List Int) := xs.getD i.toNat ([] : List Int)
structure S38 where
 f0 : Int
 f1 : Int
 f2 : (List Int)
def z38 : S38 := ⟨(0 : Int), (0 : Int), ([] : List Int)⟩
def k38 : Kd S38 := Kd.iso (Kd.pair (Kd.int .i64) (Kd.pair (Kd.int .i64) (Kd.slice 3 (Kd.int .i64)))) (fun x : S38 => (x.f0, x.f1, x.f2))
theorem zf8 {w : World} {x : S38} {cs : List Value} (h : k38.K w x cs) : ∃ A2 c2, cs = [.int .i64 x.f0, .int .i64 x.f1, .slice A2 x.f2.length c2] ∧ x.f2.length ≤ c2 ∧ (Kd.int .i64).C w A2 x.f2.length x.f2 := by
 obtain ⟨_, _, rfl, rfl, ⟨_, _, rfl, rfl, ⟨A2, c2, rfl, l2, g2⟩⟩⟩ := h
 exact ⟨A2, c2, rfl, l2, g2⟩
def zaa (xs : List S38) (i : Int) : S38 := xs.getD i.toNat z38
theorem zbx {w : World} {A : Option Addr} {n : Nat} {xs : List S38} (h : Kd.C k38 w A n xs) (i : Int) (h0 : 0 ≤ i) (h1 : i < n) : ∃ ad A2 c2, A = some ad ∧ w.cell? (ad.add (i.toNat * 3)) = some (.int .i64 (zaa xs i).f0) ∧ w.cell? ⟨(ad.add (i.toNat * 3)).block, (ad.add (i.toNat * 3)).off + 1, none⟩ = some (.int .i64 (zaa xs i).f1) ∧ w.cell? ⟨(ad.add (i.toNat * 3)).block, (ad.add (i.toNat * 3)).off + 2, none⟩ = some (.slice A2 (zaa xs i).f2.length c2) ∧ (zaa xs i).f2.length ≤ c2 ∧ (Kd.int .i64).C w A2 (zaa xs i).f2.length (zaa xs i).f2 := by
 obtain ⟨ad, c, e, _, hK, hc0⟩ := Kd.C_get h z38 i h0 h1
 have hc : ∀ j u, c[j]? = some u → w.cell? (ad.add (i.toNat * 3 + j)) = some u := hc0
 obtain ⟨A2, c2, rfl, l2, g2⟩ := zf8 hK
 exact ⟨ad, A2, c2, e, hc 0 _ rfl, by rw [← zde _ _ 1 (by omega)]; exact hc 1 _ rfl, by rw [← zde _ _ 2 (by omega)]; exact hc 2 _ rfl, l2, g2⟩
structure S24 where
 f0 : (List S38)
theorem Yb_PFitx1_0 {n : Nat} {w w' : World} (h : Below n w w' := by repeat (first | (with_reducible first | exact HB.out | apply za8 | apply za1 | apply zas | refine zbg ?_ GE104.out) | exact HB.out)) : Below n w w' := h
theorem Yb_PFitx1_1 {n : Nat} {w w' : World} (h : Below n w w' := by repeat (first | (with_reducible first | exact HB.out | apply za8 | apply za1 | apply zas | refine zbg ?_ GE104.out | refine zbg ?_ GE105.out) | exact HB.out)) : Below n w w' := h
def zbv.f (a0 : Int) : Option (Bool) := if a0 ≥ 0 then (some (decide (a0 ≤ 65535))) else (some false)
theorem zbv.calls (a0 : Int) (r : Bool) (w : World) (h : zbv.f a0 = some r) :
  Calls Try.prog 37 #[.int .i64 a0] w fun e w' => e = .returned (.bool r) ∧ zam w w' := by
 have H : (if a0 ≥ 0 then (some (decide (a0 ≤ 65535))) else (some false)) = some r := h
 clear h
 by_cases c2 : a0 ≥ 0
 ·rw [if_pos c2] at H
  have c2b0 := decide_eq_true c2
  clear c2;obtain rfl := Option.some.inj H
  go_enter Try.func37, Try.ntmps37
  go_wp2;go_ret
  exact ⟨Yfs, by repeat (first | exact zam.refl _ | apply zam.step)⟩
 ·rw [if_neg c2] at H
  have c2b0 := decide_eq_false c2
  clear c2;obtain rfl := Option.some.inj H
  go_enter Try.func37, Try.ntmps37
  go_wp2;go_ret
  exact ⟨Yfs, by repeat (first | exact zam.refl _ | apply zam.step)⟩
def zbm.l0 : Nat → Int → List Int → Int → Int → Option (Int)
 | 0, _, _, _, _ => none
 | k + 1, x3, x6, x7, x8 => if x8 < x7 then (if 0 ≤ x8 then (if x8 < (x6.length : Int) then (if (rd x6 x8) = x3 then (zbm.l0 k x3 x6 x7 (wrap64 (x8 + 1))) else (some (rd x6 x8))) else (none)) else (none)) else (some x3)
def zbm.f (k : Nat) (l0 : List Int) : Option (Int) := zbm.l0 k 0 l0 (l0.length : Int) 0
theorem zbm.calls (k : Nat) (A0 : Option Addr) (c0 : Nat) (l0 : List Int) (r : Int) (w : World) (hr0 : Kd.C (Kd.int .i64) w A0 l0.length l0) (hc0 : l0.length ≤ c0) (h : zbm.f k l0 = some r) :
  Calls Try.prog 59 #[.slice A0 l0.length c0] w fun e w' => e = .returned (.int .i64 r) ∧ zam w w' := by
 have HR0 := zac.mk hr0;have HC0 := zac.mk hc0;clear hr0 hc0
 have H : (zbm.l0 k 0 l0 (l0.length : Int) 0) = some r := h
 clear h
 have H' := zac.mk H
 clear H
 go_enter Try.func59, Try.ntmps59
 go_wp2
 go_loopg [8] k (fun kq v8 w' => ∃ (x8_1 : Int), v8 = .int .i64 x8_1 ∧ zac (zbm.l0 kq 0 l0 (l0.length : Int) x8_1 = some r) ∧ zac (kq ≤ k) ∧ zam w w')
 case atStart => exact ⟨(0), Yfs, H', ⟨Nat.le_refl _⟩, by repeat (first | exact zam.refl _ | apply zam.step)⟩
 case round =>
  clear H'
  obtain ⟨x8_1, rfl, HA, HK1, ⟨m1, rfl⟩⟩ := hrel
  cases gk with
  | zero => exact absurd HA.out (by simp [zbm.l0])
  | succ k1 =>
   have H := HA.out;clear HA
   simp only [zbm.l0] at H
   by_cases c2 : x8_1 < (l0.length : Int)
   ·rw [if_pos c2] at H
    have c2b0 := decide_eq_true c2
    clear c2
    by_cases c3 : 0 ≤ x8_1
    ·rw [if_pos c3] at H
     have c3b0 := decide_eq_true c3
     clear c3
     by_cases c4 : x8_1 < (l0.length : Int)
     ·rw [if_pos c4] at H
      have c4b0 := decide_eq_true c4
      clear c4
      by_cases c5 : (rd l0 x8_1) = 0
      ·rw [if_pos c5] at H
       have c5b0 : ((rd l0 x8_1) == 0) = true := beq_iff_eq.mpr c5
       have c5b1 : ((rd l0 x8_1) != 0) = false := bne_eq_false_iff_eq.mpr c5
       clear c5
       have H' := zac.mk H
       clear H
       have p101 : 0 ≤ (x8_1 : Int) := Yod
       have q101 : x8_1 < (l0.length : Int) := Yod
       obtain ⟨ad101, e101, hx101_0⟩ := Kd.zbe HR0.out x8_1 p101 q101
       cases e101
       replace p101 := eq_true p101
       replace q101 := eq_true q101
       go_wp2
       go_roundg k1
       case measure => have := HK1.out; omega
       case rel => exact ⟨(wrap64 (x8_1 + 1)), Yfs, H', ⟨by have := HK1.out; omega⟩, by repeat (first | exact zam.refl _ | apply zam.step)⟩
      ·rw [if_neg c5] at H
       have c5b0 : ((rd l0 x8_1) == 0) = false := beq_eq_false_iff_ne.mpr c5
       have c5b1 : ((rd l0 x8_1) != 0) = true := bne_iff_ne.mpr c5
       obtain rfl := Option.some.inj H
       have p101 : 0 ≤ (x8_1 : Int) := Yod
       have q101 : x8_1 < (l0.length : Int) := Yod
       obtain ⟨ad101, e101, hx101_0⟩ := Kd.zbe HR0.out x8_1 p101 q101
       cases e101
       replace p101 := eq_true p101
       replace q101 := eq_true q101
       go_wp2;go_ret
       exact ⟨Yfs, by repeat (first | exact zam.refl _ | apply zam.step)⟩
     ·rw [if_neg c4] at H
      exact absurd H (by simp)
    ·rw [if_neg c3] at H
     exact absurd H (by simp)
   ·rw [if_neg c2] at H
    have c2b0 := decide_eq_false c2
    clear c2;obtain rfl := Option.some.inj H;go_wp2;go_ret
    exact ⟨Yfs, by repeat (first | exact zam.refl _ | apply zam.step)⟩
def cmp_isNaN_int.f (a0 : Int) : Option (Bool) := some (a0 != a0)
theorem cmp_isNaN_int.calls (a0 : Int) (r : Bool) (w : World) (h : cmp_isNaN_int.f a0 = some r) :
  Calls Try.prog 73 #[.int .i64 a0] w fun e w' => e = .returned (.bool r) ∧ zam w w' := by
 have H : (some (a0 != a0)) = some r := h
 clear h;obtain rfl := Option.some.inj H
 go_enter Try.func73, Try.ntmps73
 go_wp2;go_ret
 exact ⟨Yfs, by repeat (first | exact zam.refl _ | apply zam.step)⟩
def cmp_Compare_int.f (a0 : Int) (a1 : Int) : Option (Int) := (cmp_isNaN_int.f a0).bind fun t102 => ((cmp_isNaN_int.f a1).bind fun t103 => (if t102 = true then (if t103 = true then (some 0) else (some (-1))) else (if t103 = true then (some 1) else (if a0 < a1 then (some (-1)) else (if a0 > a1 then (some 1) else (some 0))))))
theorem cmp_Compare_int.calls (a0 : Int) (a1 : Int) (r : Int) (w : World) (h : cmp_Compare_int.f a0 a1 = some r) :
  Calls Try.prog 60 #[.int .i64 a0, .int .i64 a1] w fun e w' => e = .returned (.int .i64 r) ∧ zam w w' := by
 have H : ((cmp_isNaN_int.f a0).bind fun t102 => ((cmp_isNaN_int.f a1).bind fun t103 => (if t102 = true then (if t103 = true then (some 0) else (some (-1))) else (if t103 = true then (some 1) else (if a0 < a1 then (some (-1)) else (if a0 > a1 then (some 1) else (some 0))))))) = some r := h
 clear h;replace H := Option.bind_eq_some_iff.mp H
 obtain ⟨t102, A30, H⟩ := H
 replace H : ((cmp_isNaN_int.f a1).bind fun t103 => (if t102 = true then (if t103 = true then (some 0) else (some (-1))) else (if t103 = true then (some 1) else (if a0 < a1 then (some (-1)) else (if a0 > a1 then (some 1) else (some 0)))))) = some r := H
 have A3 := zac.mk A30;clear A30;replace H := Option.bind_eq_some_iff.mp H
 obtain ⟨t103, A40, H⟩ := H
 replace H : (if t102 = true then (if t103 = true then (some 0) else (some (-1))) else (if t103 = true then (some 1) else (if a0 < a1 then (some (-1)) else (if a0 > a1 then (some 1) else (some 0))))) = some r := H
 have A4 := zac.mk A40;clear A40
 by_cases c5 : t102 = true
 ·subst c5
  have H1 : (if t103 = true then (some 0) else (some (-1))) = some r := by rw [if_pos rfl] at H; exact H
  clear H;have H := H1;clear H1
  by_cases c6 : t103 = true
  ·subst c6
   have H1 : (some 0) = some r := by rw [if_pos rfl] at H; exact H
   clear H;have H := H1;clear H1;obtain rfl := Option.some.inj H
   go_enter Try.func60, Try.ntmps60
   go_wp2_with (first | ((with_reducible refine zaw (f := 73) rfl ?_); refine Ygl (some 8) Try.func73 #[.int .i64 a0] ?_; (with_reducible refine (cmp_isNaN_int.calls a0 true _ A3.out).mono ?_); rintro e w' ⟨rfl, ⟨nd, rfl⟩⟩; refine ⟨_, rfl, ?_⟩) | ((with_reducible refine zaw (f := 73) rfl ?_); refine Ygl (some 10) Try.func73 #[.int .i64 a1] ?_; (with_reducible refine (cmp_isNaN_int.calls a1 true _ A4.out).mono ?_); rintro e w' ⟨rfl, ⟨nd, rfl⟩⟩; refine ⟨_, rfl, ?_⟩))
   go_ret
   exact ⟨Yfs, by repeat (first | exact zam.refl _ | apply zam.step)⟩
  ·replace c6 := Bool.eq_false_iff.mpr c6
   subst c6
   have H1 : (some (-1)) = some r := by rw [if_neg (show ¬ (false = true) by decide)] at H; exact H
   clear H;have H := H1;clear H1;obtain rfl := Option.some.inj H
   go_enter Try.func60, Try.ntmps60
   go_wp2_with (first | ((with_reducible refine zaw (f := 73) rfl ?_); refine Ygl (some 8) Try.func73 #[.int .i64 a0] ?_; (with_reducible refine (cmp_isNaN_int.calls a0 true _ A3.out).mono ?_); rintro e w' ⟨rfl, ⟨nd, rfl⟩⟩; refine ⟨_, rfl, ?_⟩) | ((with_reducible refine zaw (f := 73) rfl ?_); refine Ygl (some 10) Try.func73 #[.int .i64 a1] ?_; (with_reducible refine (cmp_isNaN_int.calls a1 false _ A4.out).mono ?_); rintro e w' ⟨rfl, ⟨nd, rfl⟩⟩; refine ⟨_, rfl, ?_⟩))
   go_ret
   exact ⟨Yfs, by repeat (first | exact zam.refl _ | apply zam.step)⟩
 ·replace c5 := Bool.eq_false_iff.mpr c5
  subst c5
  have H1 : (if t103 = true then (some 1) else (if a0 < a1 then (some (-1)) else (if a0 > a1 then (some 1) else (some 0)))) = some r := by rw [if_neg (show ¬ (false = true) by decide)] at H; exact H
  clear H;have H := H1;clear H1
  by_cases c7 : t103 = true
  ·subst c7
   have H1 : (some 1) = some r := by rw [if_pos rfl] at H; exact H
   clear H;have H := H1;clear H1;obtain rfl := Option.some.inj H
   go_enter Try.func60, Try.ntmps60
   go_wp2_with (first | ((with_reducible refine zaw (f := 73) rfl ?_); refine Ygl (some 8) Try.func73 #[.int .i64 a0] ?_; (with_reducible refine (cmp_isNaN_int.calls a0 false _ A3.out).mono ?_); rintro e w' ⟨rfl, ⟨nd, rfl⟩⟩; refine ⟨_, rfl, ?_⟩) | ((with_reducible refine zaw (f := 73) rfl ?_); refine Ygl (some 10) Try.func73 #[.int .i64 a1] ?_; (with_reducible refine (cmp_isNaN_int.calls a1 true _ A4.out).mono ?_); rintro e w' ⟨rfl, ⟨nd, rfl⟩⟩; refine ⟨_, rfl, ?_⟩))
   go_ret
   exact ⟨Yfs, by repeat (first | exact zam.refl _ | apply zam.step)⟩
  ·replace c7 := Bool.eq_false_iff.mpr c7
   subst c7
   have H1 : (if a0 < a1 then (some (-1)) else (if a0 > a1 then (some 1) else (some 0))) = some r := by rw [if_neg (show ¬ (false = true) by decide)] at H; exact H
   clear H;have H := H1;clear H1
   by_cases c8 : a0 < a1
   ·rw [if_pos c8] at H
    have c8b0 := decide_eq_true c8
    clear c8;obtain rfl := Option.some.inj H
    go_enter Try.func60, Try.ntmps60
    go_wp2_with (first | ((with_reducible refine zaw (f := 73) rfl ?_); refine Ygl (some 8) Try.func73 #[.int .i64 a0] ?_; (with_reducible refine (cmp_isNaN_int.calls a0 false _ A3.out).mono ?_); rintro e w' ⟨rfl, ⟨nd, rfl⟩⟩; refine ⟨_, rfl, ?_⟩) | ((with_reducible refine zaw (f := 73) rfl ?_); refine Ygl (some 10) Try.func73 #[.int .i64 a1] ?_; (with_reducible refine (cmp_isNaN_int.calls a1 false _ A4.out).mono ?_); rintro e w' ⟨rfl, ⟨nd, rfl⟩⟩; refine ⟨_, rfl, ?_⟩))
    go_ret
    exact ⟨Yfs, by repeat (first | exact zam.refl _ | apply zam.step)⟩
   ·rw [if_neg c8] at H
    have c8b0 := decide_eq_false c8
    clear c8
    by_cases c9 : a0 > a1
    ·rw [if_pos c9] at H
     have c9b0 := decide_eq_true c9
     clear c9;obtain rfl := Option.some.inj H
     go_enter Try.func60, Try.ntmps60
     go_wp2_with (first | ((with_reducible refine zaw (f := 73) rfl ?_); refine Ygl (some 8) Try.func73 #[.int .i64 a0] ?_; (with_reducible refine (cmp_isNaN_int.calls a0 false _ A3.out).mono ?_); rintro e w' ⟨rfl, ⟨nd, rfl⟩⟩; refine ⟨_, rfl, ?_⟩) | ((with_reducible refine zaw (f := 73) rfl ?_); refine Ygl (some 10) Try.func73 #[.int .i64 a1] ?_; (with_reducible refine (cmp_isNaN_int.calls a1 false _ A4.out).mono ?_); rintro e w' ⟨rfl, ⟨nd, rfl⟩⟩; refine ⟨_, rfl, ?_⟩))
     go_ret
     exact ⟨Yfs, by repeat (first | exact zam.refl _ | apply zam.step)⟩
    ·rw [if_neg c9] at H
     have c9b0 := decide_eq_false c9
     clear c9;obtain rfl := Option.some.inj H
     go_enter Try.func60, Try.ntmps60
     go_wp2_with (first | ((with_reducible refine zaw (f := 73) rfl ?_); refine Ygl (some 8) Try.func73 #[.int .i64 a0] ?_; (with_reducible refine (cmp_isNaN_int.calls a0 false _ A3.out).mono ?_); rintro e w' ⟨rfl, ⟨nd, rfl⟩⟩; refine ⟨_, rfl, ?_⟩) | ((with_reducible refine zaw (f := 73) rfl ?_); refine Ygl (some 10) Try.func73 #[.int .i64 a1] ?_; (with_reducible refine (cmp_isNaN_int.calls a1 false _ A4.out).mono ?_); rintro e w' ⟨rfl, ⟨nd, rfl⟩⟩; refine ⟨_, rfl, ?_⟩))
     go_ret
     exact ⟨Yfs, by repeat (first | exact zam.refl _ | apply zam.step)⟩
def zbh.f (k : Nat) (a0_0 : Int) (a0_1 : Int) (l0_2 : List Int) (a1_0 : Int) (a1_1 : Int) (l1_2 : List Int) : Option (Int) := (cmp_Compare_int.f a0_1 a1_1).bind fun t106 => ((cmp_Compare_int.f a0_0 a1_0).bind fun t107 => ((zbm.f k (([t106, t107] : List Int))).bind fun t111 => (some t111)))
def zbh.T1 : Bool × List (List Nat × List Nat) := (true, [([], []), ([0], [0]), ([], []), ([2], [2]), ([1, 3], [1, 3]), ([], []), ([5], [5]), ([], []), ([7], [7]), ([6, 8, 4], [6, 8]), ([4, 9], [4, 9]), ([10, 9], [10]), ([11, 11, 0, 1, 2, 3, 4, 5, 6, 7, 8, 9, 10, 11], [11])])
def zbh.B1 : List Nat := [0, 1, 0, 4, 15, 0, 32, 0, 128, 511, 1023, 2047, 4095]
theorem zbh.tab1 : rtab .any (opsOf Try.f45 1) = zbh.T1 := by kernel_rfl
theorem zbh.bits1 : zcn zbh.T1.2 zbh.B1 = true := by kernel_rfl
theorem zbh.calls (k : Nat) (a0_0 : Int) (a0_1 : Int) (A0_2 : Option Addr) (c0_2 : Nat) (l0_2 : List Int) (a1_0 : Int) (a1_1 : Int) (A1_2 : Option Addr) (c1_2 : Nat) (l1_2 : List Int) (r : Int) (w : World) (hr0_2 : Kd.C (Kd.int .i64) w A0_2 l0_2.length l0_2) (hc0_2 : l0_2.length ≤ c0_2) (hr1_2 : Kd.C (Kd.int .i64) w A1_2 l1_2.length l1_2) (hc1_2 : l1_2.length ≤ c1_2) (h : zbh.f k a0_0 a0_1 l0_2 a1_0 a1_1 l1_2 = some r) :
  Calls Try.prog 45 #[.agg #[.int .i64 a0_0, .int .i64 a0_1, .slice A0_2 l0_2.length c0_2], .agg #[.int .i64 a1_0, .int .i64 a1_1, .slice A1_2 l1_2.length c1_2]] w fun e w' => e = .returned (.int .i64 r) ∧ Below w.heap.size w w' := by
 have hu38 := Try.underlying38
 have HR0_2 := zac.mk hr0_2;have HC0_2 := zac.mk hc0_2;clear hr0_2 hc0_2;have HR1_2 := zac.mk hr1_2;have HC1_2 := zac.mk hc1_2;clear hr1_2 hc1_2
 have HB := zac.mk (Below.refl w.heap.size w)
 have H : ((cmp_Compare_int.f a0_1 a1_1).bind fun t106 => ((cmp_Compare_int.f a0_0 a1_0).bind fun t107 => ((zbm.f k (([t106, t107] : List Int))).bind fun t111 => (some t111)))) = some r := h
 clear h;replace H := Option.bind_eq_some_iff.mp H
 obtain ⟨t106, A30, H⟩ := H
 replace H : ((cmp_Compare_int.f a0_0 a1_0).bind fun t107 => ((zbm.f k (([t106, t107] : List Int))).bind fun t111 => (some t111))) = some r := H
 have A3 := zac.mk A30;clear A30;replace H := Option.bind_eq_some_iff.mp H
 obtain ⟨t107, A40, H⟩ := H
 replace H : ((zbm.f k (([t106, t107] : List Int))).bind fun t111 => (some t111)) = some r := H
 have A4 := zac.mk A40;clear A40
 obtain ⟨y108, hy108⟩ : ∃ y_ : List Int, y_ = (([t106, t107] : List Int)) := ⟨_, rfl⟩
 replace H : ((zbm.f k y108).bind fun t111 => (some t111)) = some r := by first | (rw [hy108]; with_reducible exact H) | (have H2_ := (Option.bind_some _ _).symm.trans H; rw [hy108]; with_reducible exact H2_) | (have H2_ := (Option.bind_some _ _).symm.trans H; with_reducible exact H2_) | with_reducible exact H | (rw [hy108]; exact H) | exact H
 have Ny108 := zac.mk hy108;clear hy108;replace H := Option.bind_eq_some_iff.mp H
 obtain ⟨t111, A50, H⟩ := H
 replace H : (some t111) = some r := H
 have A5 := zac.mk A50;clear A50;obtain rfl := Option.some.inj H
 go_enter Try.func45, Try.ntmps45
 try go_wp2_with (first | ((with_reducible refine zbj (N := 2) rfl ?_); refine Ybx 2 #[.int .i64 a0_0, .int .i64 a0_1, .slice A0_2 l0_2.length c0_2] 38 ?_; intro gb104 hg w6 hbox hb; obtain ⟨BK104, GW104, GE104, HB⟩ := Yb4 hbox hg hb Ybe; clear hb hbox hg) | ((with_reducible refine zbj (N := 3) rfl ?_); refine Ybx 3 #[.int .i64 a1_0, .int .i64 a1_1, .slice A1_2 l1_2.length c1_2] 38 ?_; intro gb105 hg w7 hbox hb; obtain ⟨BK105, GW105, GE105, HB⟩ := Yb4 hbox hg hb Yb_PFitx1_0; have NB104_105 := Ynl BK104 hg; have NB105_104 := Yng BK104 hg; replace BK104 := Ykb BK104 hb; clear hb hbox hg))
 replace BK104 := zac.mk (zah BK104.out)
 replace BK105 := zac.mk (zah BK105.out)
 replace HB := zac.mk (zas HB.out)
 refine zbd (n := 13) (S := fun w' => w'.cell? ⟨gb104, 0, none⟩ = some (.int .i64 a0_0) ∧ w'.cell? ⟨gb104, 1, none⟩ = some (.int .i64 a0_1) ∧ w'.cell? ⟨gb104, 2, none⟩ = some (.slice A0_2 l0_2.length c0_2) ∧ w'.cell? ⟨gb105, 0, none⟩ = some (.int .i64 a1_0) ∧ w'.cell? ⟨gb105, 1, none⟩ = some (.int .i64 a1_1) ∧ w'.cell? ⟨gb105, 2, none⟩ = some (.slice A1_2 l1_2.length c1_2)) (ds := []) (Ymk 13 0) (by kernel_rfl) rfl rfl ⟨(zae BK104.out 0).trans rfl, (zae BK104.out 1).trans rfl, (zae BK104.out 2).trans rfl, (zae BK105.out 0).trans rfl, (zae BK105.out 1).trans rfl, (zae BK105.out 2).trans rfl⟩ (fun hHeld => ?_); refine za9 zbh.tab1 zbh.bits1 (fun HT_ HW_ => ?_)
 generalize w7.drew = w8 at BK104 BK105 HB hHeld ⊢
 refine Ypt 0 5 13 1 HT_ ?_
 refine Ypt 2 7 13 5 HT_ ?_
 refine Ypt 5 10 13 37 HT_ ?_
 refine Ypt 7 12 13 165 HT_ ?_
 refine Ytt 1 6 13 167 HT_ HW_ hHeld ?_
 refine Ytt 3 8 13 175 HT_ HW_ hHeld ?_
 refine Ytt 6 11 13 239 HT_ HW_ hHeld ?_
 refine Ytt 8 13 13 495 HT_ HW_ hHeld ?_
 refine Yot 4 9 13 511 HT_ (fun K hK => ?_)
 refine Ygs Try.func60 #[.int .i64 a0_1, .int .i64 a1_1] ?_
 with_reducible refine (cmp_Compare_int.calls a0_1 a1_1 t106 _ A3.out).mono ?_
 rintro e w' ⟨rfl, ⟨nd, rfl⟩⟩
 refine ⟨_, rfl, ?_⟩
 refine hK.out _ _ ⟨(zae BK104.out 0).trans rfl, (zae BK104.out 1).trans rfl, (zae BK104.out 2).trans rfl, (zae BK105.out 0).trans rfl, (zae BK105.out 1).trans rfl, (zae BK105.out 2).trans rfl⟩ (fun hHeld => ?_)
 clear hK K
 refine Ynw 9 ?_
 refine Yot 9 14 13 1023 HT_ (fun K hK => ?_)
 refine Ygs Try.func60 #[.int .i64 a0_0, .int .i64 a1_0] ?_
 with_reducible refine (cmp_Compare_int.calls a0_0 a1_0 t107 _ A4.out).mono ?_
 rintro e w' ⟨rfl, ⟨nd, rfl⟩⟩
 refine ⟨_, rfl, ?_⟩
 refine hK.out _ _ ⟨(zae BK104.out 0).trans rfl, (zae BK104.out 1).trans rfl, (zae BK104.out 2).trans rfl, (zae BK105.out 0).trans rfl, (zae BK105.out 1).trans rfl, (zae BK105.out 2).trans rfl⟩ (fun hHeld => ?_)
 clear hK K
 refine Ynw 14 ?_
 refine Yot 10 15 13 2047 HT_ (fun K hK => ?_)
 refine Kd.R_lit_step (Kd.int .i64) _ 3 ?hg (N := 15) ?hd (xs := ([t106, t107] : List Int)) (inner := [.int .i64 t106, .int .i64 t107]) (ok := fun _ => True) (okp := fun _ => True) ?hr ?hp (fun _ hk => hk) trivial (Below.refl _ _) (Nat.le_refl _) (by simp) ?_; (case hd => rfl); (case hg => rfl); (case hr => first | (go_simp; done) | (go_simp; rfl)); (case hp => exact (Reps.one (show Kd.M (Kd.int .i64) _ _ _ t106 [.int .i64 t106] from rfl) (Reps.one (show Kd.M (Kd.int .i64) _ _ _ t107 [.int .i64 t107] from rfl) (Reps.none _ _))))
 intro v109 w9 ho10 hb hg_ hnew_
 clear hg_ hnew_
 (first | rw [← Ny108.out] at ho10 | (simp only [Int.reduceToNat] at ho10; rw [← Ny108.out] at ho10))
 have HO110 := zac.mk (Kd.zck ho10 (zcv Yb_PFitx1_1))
 replace BK104 := Ykb BK104 hb
 replace BK105 := Ykb BK105 hb
 replace HB := zac.mk (za5 Yb_PFitx1_1 hb)
 clear hb ho10
 obtain ⟨Ao11, co11, eo11⟩ := Kd.zb6 HO110.out
 (first | subst eo11 | (injection eo11 with f1_ f2_ f3_; have f4_ := f1_.symm; have f5_ := f3_.symm; clear f1_ f2_ f3_; subst f4_; subst f5_))
 refine hK.out _ _ ⟨(zae BK104.out 0).trans rfl, (zae BK104.out 1).trans rfl, (zae BK104.out 2).trans rfl, (zae BK105.out 0).trans rfl, (zae BK105.out 1).trans rfl, (zae BK105.out 2).trans rfl⟩ (fun hHeld => ?_)
 clear hK K
 refine Ynw 15 ?_
 refine Yot 11 16 13 4095 HT_ (fun K hK => ?_)
 refine Ygs Try.func59 #[.slice Ao11 y108.length co11] ?_
 with_reducible refine (zbm.calls k _ _ y108 t111 _ ?side1 ?side2 A5.out).mono ?_
 (case side1 => repeat (first | exact (Kd.R_reads' HO110.out).2.2 | (with_reducible refine Kd.C_alloc ?_ _) | (with_reducible refine Kd.C_drewN ?_ _) | (with_reducible refine Kd.C_drew ?_)))
 (case side2 => exact (Kd.R_reads' HO110.out).2.1)
 rintro e w' ⟨rfl, ⟨nd, rfl⟩⟩
 refine ⟨_, rfl, ?_⟩
 refine hK.out _ _ ⟨(zae BK104.out 0).trans rfl, (zae BK104.out 1).trans rfl, (zae BK104.out 2).trans rfl, (zae BK105.out 0).trans rfl, (zae BK105.out 1).trans rfl, (zae BK105.out 2).trans rfl⟩ (fun hHeld => ?_)
 clear hK K
 refine Ynw 16 ?_
 refine Ypt 12 4 13 8191 HT_ ?_
 refine zbo (zbl HT_.out (by kernel_rfl)) ?_
 try go_wp2
 go_ret
 exact ⟨Yfi, Yb_PFitx1_1⟩
theorem Yb_PFitx2_0 {n : Nat} {w w' : World} (h : Below n w w' := by repeat (first | (with_reducible first | exact HB.out | apply za8 | apply za1 | apply zas | refine zbg ?_ GE112.out) | exact HB.out)) : Below n w w' := h
theorem Yb_PFitx2_1 {n : Nat} {w w' : World} (h : Below n w w' := by repeat (first | (with_reducible first | exact HB.out | apply za8 | apply za1 | apply zas | refine zbg ?_ GE112.out | refine zbg ?_ GE114.out) | exact HB.out)) : Below n w w' := h
mutual
def zal.l0 : Nat → List (S38) → Int → Int → List (S38) → Option (Bool)
 | 0, _, _, _, _ => none
 | k + 1, x13, x14, x15, x113000 => if x15 < x14 then (if 0 ≤ x15 then (if x15 < (x13.length : Int) then ((zbv.f ((zaa x13 x15).f0)).bind fun t115 => (if t115 = true then ((zbv.f ((zaa x13 x15).f1)).bind fun t116 => (if t116 = true then (if x15 > 0 then (if 0 ≤ (wrap64 (x15 - 1)) then (if (wrap64 (x15 - 1)) < (x113000.length : Int) then ((zbh.f k ((zaa x113000 (wrap64 (x15 - 1))).f0) ((zaa x113000 (wrap64 (x15 - 1))).f1) ((zaa x113000 (wrap64 (x15 - 1))).f2) ((zaa x13 x15).f0) ((zaa x13 x15).f1) ((zaa x13 x15).f2)).bind fun t118 => (zal.j1 k x13 x14 x15 (decide (t118 ≥ 0)) x113000 ((zaa x13 x15).f0) ((zaa x13 x15).f1) ((zaa x13 x15).f2))) else (none)) else (none)) else (zal.j1 k x13 x14 x15 false x113000 ((zaa x13 x15).f0) ((zaa x13 x15).f1) ((zaa x13 x15).f2))) else (zal.j1 k x13 x14 x15 true x113000 ((zaa x13 x15).f0) ((zaa x13 x15).f1) ((zaa x13 x15).f2)))) else (zal.j1 k x13 x14 x15 true x113000 ((zaa x13 x15).f0) ((zaa x13 x15).f1) ((zaa x13 x15).f2)))) else (none)) else (none)) else (some true)
def zal.j1 : Nat → List (S38) → Int → Int → Bool → List (S38) → Int → Int → List Int → Option (Bool)
 | 0, _, _, _, _, _, _, _, _ => none
 | k + 1, x13, x14, x15, x44, x113000, x115000, x115001, x115002 => if x44 = true then (some false) else (zal.l1 k (-1) x13 x14 x15 x115002 (x115002.length : Int) 0 x113000 x115000 x115001 x115002)
def zal.l1 : Nat → Int → List (S38) → Int → Int → List Int → Int → Int → List (S38) → Int → Int → List Int → Option (Bool)
 | 0, _, _, _, _, _, _, _, _, _, _, _ => none
 | k + 1, x5, x13, x14, x15, x46, x47, x48, x113000, x115000, x115001, x115002 => if x48 < x47 then (if 0 ≤ x48 then (if x48 < (x46.length : Int) then (if (rd x46 x48) ≤ x5 then (some false) else (if (rd x46 x48) ≥ (x113000.length : Int) then (some false) else (if 0 ≤ (rd x46 x48) then (if (rd x46 x48) < (x113000.length : Int) then (if ((zaa x113000 (rd x46 x48)).f1) > x115001 then (some false) else (zal.l1 k (rd x46 x48) x13 x14 x15 x46 x47 (wrap64 (x48 + 1)) x113000 x115000 x115001 x115002)) else (none)) else (none)))) else (none)) else (none)) else (zal.l0 k x13 x14 (wrap64 (x15 + 1)) x113000)
end
def zal.f (k : Nat) (l0_0 : List (S38)) : Option (Bool) := if (l0_0.length : Int) > 4096 then (some false) else (zal.l0 k l0_0 (l0_0.length : Int) 0 l0_0)
def zal.T6 : Bool × List (List Nat × List Nat) := (true, [([], []), ([0], [0]), ([1], [1]), ([2], [2]), ([3, 2], [3]), ([4], [4]), ([5, 4], [4, 5]), ([6, 4, 4], [4, 6]), ([7, 4], [4, 7]), ([4, 8], [4, 8]), ([9, 7], [9]), ([10], [10]), ([11, 10], [10, 11]), ([12, 10, 10], [10, 12]), ([13], [13]), ([14, 13], [13, 14]), ([13], [13]), ([16, 13], [13, 16]), ([15, 17, 13], [13, 15, 17]), ([18, 13], [13, 18]), ([13], [13]), ([19, 20, 13, 13], [13, 19, 20]), ([21, 13], [13, 21]), ([13, 22, 10], [10, 13, 22]), ([10, 23], [10, 23])])
def zal.B6 : List Nat := [0, 1, 3, 7, 15, 31, 63, 127, 255, 511, 1023, 2047, 4095, 8191, 16383, 32767, 16383, 81919, 262143, 524287, 16383, 2097151, 4194303, 8388607, 16777215]
theorem zal.tab6 : rtab .any (opsOf Try.f19 6) = zal.T6 := by kernel_rfl
theorem zal.zdw : zcn zal.T6.2 zal.B6 = true := by kernel_rfl
def zal.T12 : Bool × List (List Nat × List Nat) := (true, [([], []), ([], []), ([0, 1], [0, 1]), ([2], [2]), ([3], [3]), ([3], [3]), ([5, 3], [3, 5]), ([6, 3], [3, 6]), ([4, 7, 3], [3, 4, 7]), ([3, 8], [3, 8]), ([9, 3], [9]), ([10], [10]), ([11, 10], [10, 11]), ([10], [10]), ([12, 13, 10], [10, 12, 13]), ([14, 10], [10, 14]), ([15, 10], [10, 15]), ([10], [10]), ([17, 10], [10, 17]), ([16, 18, 10], [10, 16, 18]), ([10, 19], [10, 19])])
def zal.B12 : List Nat := [0, 0, 3, 7, 15, 15, 47, 111, 255, 511, 1023, 2047, 4095, 2047, 16383, 32767, 65535, 2047, 133119, 524287, 1048575]
theorem zal.zdk : rtab .any (opsOf Try.f19 12) = zal.T12 := by kernel_rfl
theorem zal.zc4 : zcn zal.T12.2 zal.B12 = true := by kernel_rfl
theorem zal.calls (k : Nat) (A0_0 : Option Addr) (c0_0 : Nat) (l0_0 : List (S38)) (r : Bool) (w : World) (hr0_0 : Kd.C k38 w A0_0 l0_0.length l0_0) (hc0_0 : l0_0.length ≤ c0_0) (h : zal.f k l0_0 = some r) :
  Calls Try.prog 19 #[.agg #[.slice A0_0 l0_0.length c0_0]] w fun e w' => e = .returned (.bool r) ∧ Below w.heap.size w w' := by
 have hu24 := Try.underlying24
 have hu38 := Try.underlying38
 have HR0_0 := zac.mk hr0_0;have HC0_0 := zac.mk hc0_0;clear hr0_0 hc0_0
 have HB := zac.mk (Below.refl w.heap.size w)
 have H : (if (l0_0.length : Int) > 4096 then (some false) else (zal.l0 k l0_0 (l0_0.length : Int) 0 l0_0)) = some r := h
 clear h
 by_cases c2 : (l0_0.length : Int) > 4096
 ·rw [if_pos c2] at H
  have c2b0 := decide_eq_true c2
  have c2b1 : decide (4096 < l0_0.length) = true := decide_eq_true (by omega)
  clear c2;obtain rfl := Option.some.inj H
  go_enter Try.func19, Try.ntmps19
  go_wp2_with (first | ((with_reducible refine zbj (N := 1) rfl ?_); (try (refine zc7 (by rfl) ?_; dsimp only)); refine Ybx 1 #[.slice A0_0 l0_0.length c0_0] 24 ?_; intro gb112 hg w3 hbox hb; obtain ⟨BK112, GW112, GE112, HB⟩ := Yb4 hbox hg hb Ybe; clear hb hbox hg; obtain ⟨hcz4_0, hfz4_0⟩ := Yc1 BK112.out))
  go_ret
  exact ⟨Yfi, Yb_PFitx2_0⟩
 ·rw [if_neg c2] at H
  have c2b0 := decide_eq_false c2
  have c2b1 : decide (4096 < l0_0.length) = false := decide_eq_false (by omega)
  clear c2
  have H' := zac.mk H
  clear H
  go_enter Try.func19, Try.ntmps19
  go_wp2_with (first | ((with_reducible refine zbj (N := 1) rfl ?_); (try (refine zc7 (by rfl) ?_; dsimp only)); refine Ybx 1 #[.slice A0_0 l0_0.length c0_0] 24 ?_; intro gb112 hg w5 hbox hb; obtain ⟨BK112, GW112, GE112, HB⟩ := Yb4 hbox hg hb Ybe; clear hb hbox hg; obtain ⟨hcz6_0, hfz6_0⟩ := Yc1 BK112.out))
  go_loopg [15] k (fun kq v15 w' => ∃ (x15_1 : Int), v15 = .int .i64 x15_1 ∧ zac (zal.l0 kq l0_0 (l0_0.length : Int) x15_1 l0_0 = some r) ∧ zac (kq ≤ k) ∧ zac (w'.heap[gb112]? = some (.cells #[(.slice A0_0 l0_0.length c0_0)] 24 (0, 0))) ∧ zac (Below w.heap.size w w'))
  case atStart => exact ⟨(0), Yfs, H', ⟨Nat.le_refl _⟩, ⟨Yg BK112⟩, ⟨Yb_PFitx2_0⟩⟩
  case round =>
   clear H'
   obtain ⟨x15_1, rfl, HA, HK1, BK112, HB⟩ := hrel
   cases gk with
   | zero => exact absurd HA.out (by simp [zal.l0])
   | succ k1 =>
    have H := HA.out;clear HA
    simp only [zal.l0] at H
    by_cases c7 : x15_1 < (l0_0.length : Int)
    ·rw [if_pos c7] at H
     have c7b0 := decide_eq_true c7
     clear c7
     by_cases c8 : 0 ≤ x15_1
     ·rw [if_pos c8] at H
      have c8b0 := decide_eq_true c8
      clear c8
      by_cases c9 : x15_1 < (l0_0.length : Int)
      ·rw [if_pos c9] at H
       have c9b0 := decide_eq_true c9
       clear c9;have HC10 := zac.mk H;clear H
       have p113 : 0 ≤ (x15_1 : Int) := Yod
       have q113 : x15_1 < (l0_0.length : Int) := Yod
       obtain ⟨ad113, A113_2, c113_2, e113, hx113_0, hx113_1, hx113_2, hl113_2, hi113_2⟩ := zbx HR0_0.out x15_1 p113 q113
       cases e113
       replace hx113_0 := zaf HB.out hx113_0
       replace hx113_1 := zaf HB.out hx113_1
       replace hx113_2 := zaf HB.out hx113_2
       have HR113_2 := zac.mk hi113_2;have HC113_2 := zac.mk hl113_2;clear hi113_2 hl113_2
       replace p113 := eq_true p113
       replace q113 := eq_true q113
       go_upto_region 6 with (first | ((with_reducible refine zbj (N := 4) rfl ?_); (try (refine zc7 (by rfl) ?_; dsimp only)); refine Ybx 4 #[.int .i64 0, .int .i64 0, .slice none 0 0] 38 ?_; intro gb114 hg w11 hbox hb; obtain ⟨BK114, GW114, GE114, HB⟩ := Yb4 hbox hg hb Yb_PFitx2_0; have NB112_114 := Ynl BK112 hg; have NB114_112 := Yng BK112 hg; replace BK112 := Ykb BK112 hb; clear hb hbox hg; have hnb12 := NB114_112.out; have hnc12 := NB112_114.out; obtain ⟨hcz13_0, hfz13_0, hcz13_1, hfz13_1, hcz13_2, hfz13_2⟩ := Yc3 BK114.out))
       (try simp only [Act.put, Y1, Y2, Y3])
       go_cut [44] (fun v44 wc => ∃ (kq : Nat) (x44_9 : Bool), v44 = .bool x44_9 ∧ zac (zal.j1 kq l0_0 (l0_0.length : Int) x15_1 x44_9 l0_0 ((zaa l0_0 x15_1).f0) ((zaa l0_0 x15_1).f1) ((zaa l0_0 x15_1).f2) = some r) ∧ zac (kq ≤ k1) ∧ zac (wc.heap[gb112]? = some (.cells #[(.slice (some ad113) l0_0.length c0_0)] 24 (0, 0))) ∧ zac (wc.heap[gb114]? = some (.cells #[.int .i64 ((zaa l0_0 x15_1).f0), .int .i64 ((zaa l0_0 x15_1).f1), (.slice A113_2 ((zaa l0_0 x15_1).f2).length c113_2)] 38 (0, 0))) ∧ zac (Below w.heap.size w wc))
       case first =>
        have H := HC10.out;clear HC10;replace H := Option.bind_eq_some_iff.mp H
        obtain ⟨t115, A140, H⟩ := H
        replace H : (if t115 = true then ((zbv.f ((zaa l0_0 x15_1).f1)).bind fun t116 => (if t116 = true then (if x15_1 > 0 then (if 0 ≤ (wrap64 (x15_1 - 1)) then (if (wrap64 (x15_1 - 1)) < (l0_0.length : Int) then ((zbh.f k1 ((zaa l0_0 (wrap64 (x15_1 - 1))).f0) ((zaa l0_0 (wrap64 (x15_1 - 1))).f1) ((zaa l0_0 (wrap64 (x15_1 - 1))).f2) ((zaa l0_0 x15_1).f0) ((zaa l0_0 x15_1).f1) ((zaa l0_0 x15_1).f2)).bind fun t118 => (zal.j1 k1 l0_0 (l0_0.length : Int) x15_1 (decide (t118 ≥ 0)) l0_0 ((zaa l0_0 x15_1).f0) ((zaa l0_0 x15_1).f1) ((zaa l0_0 x15_1).f2))) else (none)) else (none)) else (zal.j1 k1 l0_0 (l0_0.length : Int) x15_1 false l0_0 ((zaa l0_0 x15_1).f0) ((zaa l0_0 x15_1).f1) ((zaa l0_0 x15_1).f2))) else (zal.j1 k1 l0_0 (l0_0.length : Int) x15_1 true l0_0 ((zaa l0_0 x15_1).f0) ((zaa l0_0 x15_1).f1) ((zaa l0_0 x15_1).f2)))) else (zal.j1 k1 l0_0 (l0_0.length : Int) x15_1 true l0_0 ((zaa l0_0 x15_1).f0) ((zaa l0_0 x15_1).f1) ((zaa l0_0 x15_1).f2))) = some r := H
        have A14 := zac.mk A140;clear A140
        by_cases c15 : t115 = true
        ·subst c15
         have H1 : ((zbv.f ((zaa l0_0 x15_1).f1)).bind fun t116 => (if t116 = true then (if x15_1 > 0 then (if 0 ≤ (wrap64 (x15_1 - 1)) then (if (wrap64 (x15_1 - 1)) < (l0_0.length : Int) then ((zbh.f k1 ((zaa l0_0 (wrap64 (x15_1 - 1))).f0) ((zaa l0_0 (wrap64 (x15_1 - 1))).f1) ((zaa l0_0 (wrap64 (x15_1 - 1))).f2) ((zaa l0_0 x15_1).f0) ((zaa l0_0 x15_1).f1) ((zaa l0_0 x15_1).f2)).bind fun t118 => (zal.j1 k1 l0_0 (l0_0.length : Int) x15_1 (decide (t118 ≥ 0)) l0_0 ((zaa l0_0 x15_1).f0) ((zaa l0_0 x15_1).f1) ((zaa l0_0 x15_1).f2))) else (none)) else (none)) else (zal.j1 k1 l0_0 (l0_0.length : Int) x15_1 false l0_0 ((zaa l0_0 x15_1).f0) ((zaa l0_0 x15_1).f1) ((zaa l0_0 x15_1).f2))) else (zal.j1 k1 l0_0 (l0_0.length : Int) x15_1 true l0_0 ((zaa l0_0 x15_1).f0) ((zaa l0_0 x15_1).f1) ((zaa l0_0 x15_1).f2)))) = some r := by rw [if_pos rfl] at H; exact H
         clear H;have H := H1;clear H1;replace H := Option.bind_eq_some_iff.mp H
         obtain ⟨t116, A160, H⟩ := H
         replace H : (if t116 = true then (if x15_1 > 0 then (if 0 ≤ (wrap64 (x15_1 - 1)) then (if (wrap64 (x15_1 - 1)) < (l0_0.length : Int) then ((zbh.f k1 ((zaa l0_0 (wrap64 (x15_1 - 1))).f0) ((zaa l0_0 (wrap64 (x15_1 - 1))).f1) ((zaa l0_0 (wrap64 (x15_1 - 1))).f2) ((zaa l0_0 x15_1).f0) ((zaa l0_0 x15_1).f1) ((zaa l0_0 x15_1).f2)).bind fun t118 => (zal.j1 k1 l0_0 (l0_0.length : Int) x15_1 (decide (t118 ≥ 0)) l0_0 ((zaa l0_0 x15_1).f0) ((zaa l0_0 x15_1).f1) ((zaa l0_0 x15_1).f2))) else (none)) else (none)) else (zal.j1 k1 l0_0 (l0_0.length : Int) x15_1 false l0_0 ((zaa l0_0 x15_1).f0) ((zaa l0_0 x15_1).f1) ((zaa l0_0 x15_1).f2))) else (zal.j1 k1 l0_0 (l0_0.length : Int) x15_1 true l0_0 ((zaa l0_0 x15_1).f0) ((zaa l0_0 x15_1).f1) ((zaa l0_0 x15_1).f2))) = some r := H
         have A16 := zac.mk A160;clear A160
         by_cases c17 : t116 = true
         ·subst c17
          have H1 : (if x15_1 > 0 then (if 0 ≤ (wrap64 (x15_1 - 1)) then (if (wrap64 (x15_1 - 1)) < (l0_0.length : Int) then ((zbh.f k1 ((zaa l0_0 (wrap64 (x15_1 - 1))).f0) ((zaa l0_0 (wrap64 (x15_1 - 1))).f1) ((zaa l0_0 (wrap64 (x15_1 - 1))).f2) ((zaa l0_0 x15_1).f0) ((zaa l0_0 x15_1).f1) ((zaa l0_0 x15_1).f2)).bind fun t118 => (zal.j1 k1 l0_0 (l0_0.length : Int) x15_1 (decide (t118 ≥ 0)) l0_0 ((zaa l0_0 x15_1).f0) ((zaa l0_0 x15_1).f1) ((zaa l0_0 x15_1).f2))) else (none)) else (none)) else (zal.j1 k1 l0_0 (l0_0.length : Int) x15_1 false l0_0 ((zaa l0_0 x15_1).f0) ((zaa l0_0 x15_1).f1) ((zaa l0_0 x15_1).f2))) = some r := by rw [if_pos rfl] at H; exact H
          clear H;have H := H1;clear H1
          by_cases c18 : x15_1 > 0
          ·rw [if_pos c18] at H
           have c18b0 := decide_eq_true c18
           clear c18
           (first | rw [c18b0] | (simp only [zcj, zcw]; rw [c18b0]) | skip)
           obtain ⟨ji19, hji19⟩ : ∃ j_ : Int, (wrap64 (x15_1 - 1)) = j_ := ⟨_, rfl⟩
           replace H : (if 0 ≤ (ji19) then (if (ji19) < (l0_0.length : Int) then ((zbh.f k1 ((zaa l0_0 (ji19)).f0) ((zaa l0_0 (ji19)).f1) ((zaa l0_0 (ji19)).f2) ((zaa l0_0 x15_1).f0) ((zaa l0_0 x15_1).f1) ((zaa l0_0 x15_1).f2)).bind fun t118 => (zal.j1 k1 l0_0 (l0_0.length : Int) x15_1 (decide (t118 ≥ 0)) l0_0 ((zaa l0_0 x15_1).f0) ((zaa l0_0 x15_1).f1) ((zaa l0_0 x15_1).f2))) else (none)) else (none)) = some r := by first | (rw [hji19] at H; exact H) | (simp only [hji19] at H ⊢; exact H)
           (try rw [hji19] at A14)
           (try rw [hji19] at A16)
           have hji19w : (IntKind.i64.wrap (x15_1 - 1)) = ji19 := (zcj _).trans hji19
           by_cases c20 : 0 ≤ (ji19)
           ·rw [if_pos c20] at H
            have c20b0 := decide_eq_true c20
            clear c20
            by_cases c21 : (ji19) < (l0_0.length : Int)
            ·rw [if_pos c21] at H
             have c21b0 := decide_eq_true c21
             clear c21;replace H := Option.bind_eq_some_iff.mp H
             obtain ⟨t118, A220, H⟩ := H
             replace H : (zal.j1 k1 l0_0 (l0_0.length : Int) x15_1 (decide (t118 ≥ 0)) l0_0 ((zaa l0_0 x15_1).f0) ((zaa l0_0 x15_1).f1) ((zaa l0_0 x15_1).f2)) = some r := H
             have A22 := zac.mk A220;clear A220
             have H' := zac.mk H
             clear H
             try go_wp2
             have n0_ : zac ((((w11.setCell ⟨gb114, 0, none⟩ (.int .i64 ((zaa l0_0 x15_1).f0))).setCell ⟨gb114, 1, none⟩ (.int .i64 ((zaa l0_0 x15_1).f1))).setCell ⟨gb114, 2, none⟩ (.slice A113_2 ((zaa l0_0 x15_1).f2).length c113_2)).heap[gb112]? = some (.cells #[.slice (some ad113) l0_0.length c0_0] 24 (0, 0))) := ⟨by (with_reducible repeat (first | refine zaj ?_ _ | refine zah ?_ | refine zai ?_ _)); refine zbb ?_ NB112_114.out _; (with_reducible repeat (first | refine zaj ?_ _ | refine zah ?_ | refine zai ?_ _)); refine zbb ?_ NB112_114.out _; (with_reducible repeat (first | refine zaj ?_ _ | refine zah ?_ | refine zai ?_ _)); refine zbb ?_ NB112_114.out _; (with_reducible repeat (first | refine zaj ?_ _ | refine zah ?_ | refine zai ?_ _)); exact BK112.out⟩
             have n1_ : zac ((((w11.setCell ⟨gb114, 0, none⟩ (.int .i64 ((zaa l0_0 x15_1).f0))).setCell ⟨gb114, 1, none⟩ (.int .i64 ((zaa l0_0 x15_1).f1))).setCell ⟨gb114, 2, none⟩ (.slice A113_2 ((zaa l0_0 x15_1).f2).length c113_2)).heap[gb114]? = some (.cells #[.int .i64 ((zaa l0_0 x15_1).f0), .int .i64 ((zaa l0_0 x15_1).f1), .slice A113_2 ((zaa l0_0 x15_1).f2).length c113_2] 38 (0, 0))) := ⟨by (with_reducible repeat (first | refine zaj ?_ _ | refine zah ?_ | refine zai ?_ _)); refine za4 (cs := #[.int .i64 ((zaa l0_0 x15_1).f0), .int .i64 ((zaa l0_0 x15_1).f1), .slice none 0 0]) ?_ 2 _ rfl; (with_reducible repeat (first | refine zaj ?_ _ | refine zah ?_ | refine zai ?_ _)); refine za4 (cs := #[.int .i64 ((zaa l0_0 x15_1).f0), .int .i64 0, .slice none 0 0]) ?_ 1 _ rfl; (with_reducible repeat (first | refine zaj ?_ _ | refine zah ?_ | refine zai ?_ _)); refine za4 (cs := #[.int .i64 0, .int .i64 0, .slice none 0 0]) ?_ 0 _ rfl; (with_reducible repeat (first | refine zaj ?_ _ | refine zah ?_ | refine zai ?_ _)); exact BK114.out⟩
             have n2_ : zac (Below w.heap.size w (((w11.setCell ⟨gb114, 0, none⟩ (.int .i64 ((zaa l0_0 x15_1).f0))).setCell ⟨gb114, 1, none⟩ (.int .i64 ((zaa l0_0 x15_1).f1))).setCell ⟨gb114, 2, none⟩ (.slice A113_2 ((zaa l0_0 x15_1).f2).length c113_2))) := ⟨Yb_PFitx2_1⟩
             (try clear BK112)
             (try clear BK114)
             (try clear HB)
             generalize (((w11.setCell ⟨gb114, 0, none⟩ (.int .i64 ((zaa l0_0 x15_1).f0))).setCell ⟨gb114, 1, none⟩ (.int .i64 ((zaa l0_0 x15_1).f1))).setCell ⟨gb114, 2, none⟩ (.slice A113_2 ((zaa l0_0 x15_1).f2).length c113_2)) = w23 at n0_ n1_ n2_ ⊢
             have BK112 := n0_;have BK114 := n1_;have HB := n2_;clear n0_ n1_ n2_
             replace BK112 := zac.mk (zah BK112.out)
             replace BK114 := zac.mk (zah BK114.out)
             replace HB := zac.mk (zas HB.out)
             have p117 : 0 ≤ ((ji19) : Int) := Yod
             have q117 : (ji19) < (l0_0.length : Int) := Yod
             obtain ⟨ad117, A117_2, c117_2, e117, hx117_0, hx117_1, hx117_2, hl117_2, hi117_2⟩ := zbx HR0_0.out (ji19) p117 q117
             have hw117_2 := hx117_2;have hw117_1 := hx117_1;have hw117_0 := hx117_0
             obtain rfl : ad113 = ad117 := (by injection e117)
             replace hx117_0 := zaf HB.out hx117_0
             replace hx117_1 := zaf HB.out hx117_1
             replace hx117_2 := zaf HB.out hx117_2
             have HR117_2 := zac.mk hi117_2;have HC117_2 := zac.mk hl117_2;clear hi117_2 hl117_2
             replace p117 := eq_true p117
             replace q117 := eq_true q117
             refine zbd (n := 25) (S := fun w' => w'.cell? ⟨gb114, 0, none⟩ = some (.int .i64 ((zaa l0_0 x15_1).f0)) ∧ w'.cell? ⟨gb114, 1, none⟩ = some (.int .i64 ((zaa l0_0 x15_1).f1)) ∧ w'.cell? ⟨gb114, 2, none⟩ = some (.slice A113_2 ((zaa l0_0 x15_1).f2).length c113_2) ∧ w'.cell? ⟨gb112, 0, none⟩ = some (.slice (some ad113) l0_0.length c0_0) ∧ w'.cell? (ad113.add (((ji19)).toNat * 3)) = some (.int .i64 ((zaa l0_0 (ji19)).f0)) ∧ w'.cell? ⟨(ad113.add (((ji19)).toNat * 3)).block, (ad113.add (((ji19)).toNat * 3)).off + 1, none⟩ = some (.int .i64 ((zaa l0_0 (ji19)).f1)) ∧ w'.cell? ⟨(ad113.add (((ji19)).toNat * 3)).block, (ad113.add (((ji19)).toNat * 3)).off + 2, none⟩ = some (.slice A117_2 ((zaa l0_0 (ji19)).f2).length c117_2)) (ds := []) (Ymk 25 0) (by kernel_rfl) rfl rfl ⟨(zae BK114.out 0).trans rfl, (zae BK114.out 1).trans rfl, (zae BK114.out 2).trans rfl, (zae BK112.out 0).trans rfl, ((HB.out.cell (World.block_lt_of_cell? w _ hw117_0)).trans hw117_0), ((HB.out.cell (World.block_lt_of_cell? w _ hw117_1)).trans hw117_1), ((HB.out.cell (World.block_lt_of_cell? w _ hw117_2)).trans hw117_2)⟩ (fun hHeld => ?_); refine za9 zal.tab6 zal.zdw (fun HT_ HW_ => ?_)
             generalize w23.drew = w24 at BK112 BK114 HB HR117_2 hx117_0 hx117_1 hx117_2 hHeld ⊢
             refine Ypt 0 20 25 1 HT_ ?_
             refine Ytt 1 21 25 3 HT_ HW_ hHeld ?_
             refine Yot 2 22 25 7 HT_ (fun K hK => ?_)
             refine Ygs Try.func37 #[.int .i64 ((zaa l0_0 x15_1).f0)] ?_
             with_reducible refine (zbv.calls ((zaa l0_0 x15_1).f0) true _ A14.out).mono ?_
             rintro e w' ⟨rfl, ⟨nd, rfl⟩⟩
             refine ⟨_, rfl, ?_⟩
             refine hK.out _ _ ⟨(zae BK114.out 0).trans rfl, (zae BK114.out 1).trans rfl, (zae BK114.out 2).trans rfl, (zae BK112.out 0).trans rfl, ((HB.out.cell (World.block_lt_of_cell? w _ hw117_0)).trans hw117_0), ((HB.out.cell (World.block_lt_of_cell? w _ hw117_1)).trans hw117_1), ((HB.out.cell (World.block_lt_of_cell? w _ hw117_2)).trans hw117_2)⟩ (fun hHeld => ?_)
             clear hK K
             refine Ynw 22 ?_
             refine Ypt 3 23 25 15 HT_ ?_
             refine Ypt 4 24 25 31 HT_ ?_
             refine Ypt 5 25 25 63 HT_ ?_
             refine Ytt 6 26 25 127 HT_ HW_ hHeld ?_
             refine Yot 7 27 25 255 HT_ (fun K hK => ?_)
             refine Ygs Try.func37 #[.int .i64 ((zaa l0_0 x15_1).f1)] ?_
             with_reducible refine (zbv.calls ((zaa l0_0 x15_1).f1) true _ A16.out).mono ?_
             rintro e w' ⟨rfl, ⟨nd, rfl⟩⟩
             refine ⟨_, rfl, ?_⟩
             refine hK.out _ _ ⟨(zae BK114.out 0).trans rfl, (zae BK114.out 1).trans rfl, (zae BK114.out 2).trans rfl, (zae BK112.out 0).trans rfl, ((HB.out.cell (World.block_lt_of_cell? w _ hw117_0)).trans hw117_0), ((HB.out.cell (World.block_lt_of_cell? w _ hw117_1)).trans hw117_1), ((HB.out.cell (World.block_lt_of_cell? w _ hw117_2)).trans hw117_2)⟩ (fun hHeld => ?_)
             clear hK K
             refine Ynw 27 ?_
             refine Ypt 8 28 25 511 HT_ ?_
             refine Ypt 9 29 25 1023 HT_ ?_
             refine Ypt 10 30 25 2047 HT_ ?_
             refine Ypt 11 31 25 4095 HT_ ?_
             refine Ypt 12 32 25 8191 HT_ ?_
             refine Ypt 13 33 25 16383 HT_ ?_
             refine Ypt 14 34 25 32767 HT_ ?_
             refine Ypt 16 36 25 98303 HT_ ?_
             refine Ypt 17 37 25 229375 HT_ ?_
             refine Ytt 15 35 25 262143 HT_ HW_ hHeld ?_
             refine Ypt 18 38 25 524287 HT_ ?_
             refine Ytt 19 39 25 1048575 HT_ HW_ hHeld ?_
             refine Ytt 20 40 25 2097151 HT_ HW_ hHeld ?_
             refine Yot 21 41 25 4194303 HT_ (fun K hK => ?_)
             refine goes_ Try.func45 (by kernel_rfl) rfl #[.agg #[.int .i64 ((zaa l0_0 (ji19)).f0), .int .i64 ((zaa l0_0 (ji19)).f1), .slice A117_2 ((zaa l0_0 (ji19)).f2).length c117_2], .agg #[.int .i64 ((zaa l0_0 x15_1).f0), .int .i64 ((zaa l0_0 x15_1).f1), .slice A113_2 ((zaa l0_0 x15_1).f2).length c113_2]] (by rfl) rfl rfl (by (try simp only [List.map_toArray, List.map_cons, List.map_nil]); first | done | (simp only [hji19]; rfl) | rfl | (simp only [List.length_drop, List.length_take]; rfl)) ?_
             with_reducible refine (zbh.calls k1 ((zaa l0_0 (ji19)).f0) ((zaa l0_0 (ji19)).f1) _ _ ((zaa l0_0 (ji19)).f2) ((zaa l0_0 x15_1).f0) ((zaa l0_0 x15_1).f1) _ _ ((zaa l0_0 x15_1).f2) t118 _ (Kd.zaz HR117_2.out Yb_PFitx2_1) HC117_2.out (Kd.zaz HR113_2.out Yb_PFitx2_1) HC113_2.out A22.out).mono ?_
             rintro e w25 ⟨rfl, hb⟩
             refine ⟨_, rfl, ?_⟩
             replace BK112 := Ykb BK112 hb
             replace BK114 := Ykb BK114 hb
             replace HB := zac.mk (za5 Yb_PFitx2_1 hb)
             (try clear hb)
             (try clear hb2)
             (try clear hk)
             (try clear hi)
             refine hK.out _ _ ⟨(zae BK114.out 0).trans rfl, (zae BK114.out 1).trans rfl, (zae BK114.out 2).trans rfl, (zae BK112.out 0).trans rfl, ((HB.out.cell (World.block_lt_of_cell? w _ hw117_0)).trans hw117_0), ((HB.out.cell (World.block_lt_of_cell? w _ hw117_1)).trans hw117_1), ((HB.out.cell (World.block_lt_of_cell? w _ hw117_2)).trans hw117_2)⟩ (fun hHeld => ?_)
             clear hK K
             refine Ynw 41 ?_
             refine Ypt 22 42 25 8388607 HT_ ?_
             refine Ypt 23 43 25 16777215 HT_ ?_
             refine Ypt 24 44 25 33554431 HT_ ?_
             refine zbo (zbl HT_.out (by kernel_rfl)) ?_
             try go_wp2
             go_meet
             case rel => exact ⟨_, (decide (t118 ≥ 0)), Yfs, H', ⟨by have := HK1.out; first | omega | exact Nat.le_refl _⟩, ⟨Yg BK112⟩, ⟨Yg BK114⟩, ⟨Yb_PFitx2_1⟩⟩
            ·rw [if_neg c21] at H
             exact absurd H (by simp)
           ·rw [if_neg c20] at H
            exact absurd H (by simp)
          ·rw [if_neg c18] at H
           have c18b0 := decide_eq_false c18
           clear c18
           (first | rw [c18b0] | (simp only [zcj, zcw]; rw [c18b0]) | skip)
           have H' := zac.mk H
           clear H
           try go_wp2
           have n0_ : zac ((((w11.setCell ⟨gb114, 0, none⟩ (.int .i64 ((zaa l0_0 x15_1).f0))).setCell ⟨gb114, 1, none⟩ (.int .i64 ((zaa l0_0 x15_1).f1))).setCell ⟨gb114, 2, none⟩ (.slice A113_2 ((zaa l0_0 x15_1).f2).length c113_2)).heap[gb112]? = some (.cells #[.slice (some ad113) l0_0.length c0_0] 24 (0, 0))) := ⟨by (with_reducible repeat (first | refine zaj ?_ _ | refine zah ?_ | refine zai ?_ _)); refine zbb ?_ NB112_114.out _; (with_reducible repeat (first | refine zaj ?_ _ | refine zah ?_ | refine zai ?_ _)); refine zbb ?_ NB112_114.out _; (with_reducible repeat (first | refine zaj ?_ _ | refine zah ?_ | refine zai ?_ _)); refine zbb ?_ NB112_114.out _; (with_reducible repeat (first | refine zaj ?_ _ | refine zah ?_ | refine zai ?_ _)); exact BK112.out⟩
           have n1_ : zac ((((w11.setCell ⟨gb114, 0, none⟩ (.int .i64 ((zaa l0_0 x15_1).f0))).setCell ⟨gb114, 1, none⟩ (.int .i64 ((zaa l0_0 x15_1).f1))).setCell ⟨gb114, 2, none⟩ (.slice A113_2 ((zaa l0_0 x15_1).f2).length c113_2)).heap[gb114]? = some (.cells #[.int .i64 ((zaa l0_0 x15_1).f0), .int .i64 ((zaa l0_0 x15_1).f1), .slice A113_2 ((zaa l0_0 x15_1).f2).length c113_2] 38 (0, 0))) := ⟨by (with_reducible repeat (first | refine zaj ?_ _ | refine zah ?_ | refine zai ?_ _)); refine za4 (cs := #[.int .i64 ((zaa l0_0 x15_1).f0), .int .i64 ((zaa l0_0 x15_1).f1), .slice none 0 0]) ?_ 2 _ rfl; (with_reducible repeat (first | refine zaj ?_ _ | refine zah ?_ | refine zai ?_ _)); refine za4 (cs := #[.int .i64 ((zaa l0_0 x15_1).f0), .int .i64 0, .slice none 0 0]) ?_ 1 _ rfl; (with_reducible repeat (first | refine zaj ?_ _ | refine zah ?_ | refine zai ?_ _)); refine za4 (cs := #[.int .i64 0, .int .i64 0, .slice none 0 0]) ?_ 0 _ rfl; (with_reducible repeat (first | refine zaj ?_ _ | refine zah ?_ | refine zai ?_ _)); exact BK114.out⟩
           have n2_ : zac (Below w.heap.size w (((w11.setCell ⟨gb114, 0, none⟩ (.int .i64 ((zaa l0_0 x15_1).f0))).setCell ⟨gb114, 1, none⟩ (.int .i64 ((zaa l0_0 x15_1).f1))).setCell ⟨gb114, 2, none⟩ (.slice A113_2 ((zaa l0_0 x15_1).f2).length c113_2))) := ⟨Yb_PFitx2_1⟩
           (try clear BK112)
           (try clear BK114)
           (try clear HB)
           generalize (((w11.setCell ⟨gb114, 0, none⟩ (.int .i64 ((zaa l0_0 x15_1).f0))).setCell ⟨gb114, 1, none⟩ (.int .i64 ((zaa l0_0 x15_1).f1))).setCell ⟨gb114, 2, none⟩ (.slice A113_2 ((zaa l0_0 x15_1).f2).length c113_2)) = w26 at n0_ n1_ n2_ ⊢
           have BK112 := n0_;have BK114 := n1_;have HB := n2_;clear n0_ n1_ n2_
           replace BK112 := zac.mk (zah BK112.out)
           replace BK114 := zac.mk (zah BK114.out)
           replace HB := zac.mk (zas HB.out)
           refine zbd (n := 25) (S := fun w' => w'.cell? ⟨gb114, 0, none⟩ = some (.int .i64 ((zaa l0_0 x15_1).f0)) ∧ w'.cell? ⟨gb114, 1, none⟩ = some (.int .i64 ((zaa l0_0 x15_1).f1)) ∧ w'.cell? ⟨gb114, 2, none⟩ = some (.slice A113_2 ((zaa l0_0 x15_1).f2).length c113_2)) (ds := []) (Ymk 25 0) (by kernel_rfl) rfl rfl ⟨(zae BK114.out 0).trans rfl, (zae BK114.out 1).trans rfl, (zae BK114.out 2).trans rfl⟩ (fun hHeld => ?_); refine za9 zal.tab6 zal.zdw (fun HT_ HW_ => ?_)
           generalize w26.drew = w27 at BK112 BK114 HB hHeld ⊢
           refine Ypt 0 20 25 1 HT_ ?_
           refine Ytt 1 21 25 3 HT_ HW_ hHeld ?_
           refine Yot 2 22 25 7 HT_ (fun K hK => ?_)
           refine Ygs Try.func37 #[.int .i64 ((zaa l0_0 x15_1).f0)] ?_
           with_reducible refine (zbv.calls ((zaa l0_0 x15_1).f0) true _ A14.out).mono ?_
           rintro e w' ⟨rfl, ⟨nd, rfl⟩⟩
           refine ⟨_, rfl, ?_⟩
           refine hK.out _ _ ⟨(zae BK114.out 0).trans rfl, (zae BK114.out 1).trans rfl, (zae BK114.out 2).trans rfl⟩ (fun hHeld => ?_)
           clear hK K
           refine Ynw 22 ?_
           refine Ypt 3 23 25 15 HT_ ?_
           refine Ypt 4 24 25 31 HT_ ?_
           refine Ypt 5 25 25 63 HT_ ?_
           refine Ytt 6 26 25 127 HT_ HW_ hHeld ?_
           refine Yot 7 27 25 255 HT_ (fun K hK => ?_)
           refine Ygs Try.func37 #[.int .i64 ((zaa l0_0 x15_1).f1)] ?_
           with_reducible refine (zbv.calls ((zaa l0_0 x15_1).f1) true _ A16.out).mono ?_
           rintro e w' ⟨rfl, ⟨nd, rfl⟩⟩
           refine ⟨_, rfl, ?_⟩
           refine hK.out _ _ ⟨(zae BK114.out 0).trans rfl, (zae BK114.out 1).trans rfl, (zae BK114.out 2).trans rfl⟩ (fun hHeld => ?_)
           clear hK K
           refine Ynw 27 ?_
           refine Ypt 8 28 25 511 HT_ ?_
           refine Ypt 9 29 25 1023 HT_ ?_
           refine Ypt 10 30 25 2047 HT_ ?_
           refine Ypt 11 31 25 4095 HT_ ?_
           refine Ypt 12 32 25 8191 HT_ ?_
           refine Ypt 13 33 25 16383 HT_ ?_
           refine Ypu 14 34 25 32767 HT_ ?_
           refine Ypu 15 35 25 65535 HT_ ?_
           refine Ypu 16 36 25 131071 HT_ ?_
           refine Ypu 17 37 25 262143 HT_ ?_
           refine Ypu 18 38 25 524287 HT_ ?_
           refine Ypu 19 39 25 1048575 HT_ ?_
           refine Ypu 20 40 25 2097151 HT_ ?_
           refine Ypu 21 41 25 4194303 HT_ ?_
           refine Ypu 22 42 25 8388607 HT_ ?_
           refine Ypt 23 43 25 16777215 HT_ ?_
           refine Ypt 24 44 25 33554431 HT_ ?_
           refine zbo (zbl HT_.out (by kernel_rfl)) ?_
           try go_wp2
           go_meet
           case rel => exact ⟨_, (false), Yfs, H', ⟨by have := HK1.out; first | omega | exact Nat.le_refl _⟩, ⟨Yg BK112⟩, ⟨Yg BK114⟩, ⟨Yb_PFitx2_1⟩⟩
         ·replace c17 := Bool.eq_false_iff.mpr c17
          subst c17
          have H1 : (zal.j1 k1 l0_0 (l0_0.length : Int) x15_1 true l0_0 ((zaa l0_0 x15_1).f0) ((zaa l0_0 x15_1).f1) ((zaa l0_0 x15_1).f2)) = some r := by rw [if_neg (show ¬ (false = true) by decide)] at H; exact H
          clear H;have H := H1;clear H1
          have H' := zac.mk H
          clear H
          try go_wp2
          have n0_ : zac ((((w11.setCell ⟨gb114, 0, none⟩ (.int .i64 ((zaa l0_0 x15_1).f0))).setCell ⟨gb114, 1, none⟩ (.int .i64 ((zaa l0_0 x15_1).f1))).setCell ⟨gb114, 2, none⟩ (.slice A113_2 ((zaa l0_0 x15_1).f2).length c113_2)).heap[gb112]? = some (.cells #[.slice (some ad113) l0_0.length c0_0] 24 (0, 0))) := ⟨by (with_reducible repeat (first | refine zaj ?_ _ | refine zah ?_ | refine zai ?_ _)); refine zbb ?_ NB112_114.out _; (with_reducible repeat (first | refine zaj ?_ _ | refine zah ?_ | refine zai ?_ _)); refine zbb ?_ NB112_114.out _; (with_reducible repeat (first | refine zaj ?_ _ | refine zah ?_ | refine zai ?_ _)); refine zbb ?_ NB112_114.out _; (with_reducible repeat (first | refine zaj ?_ _ | refine zah ?_ | refine zai ?_ _)); exact BK112.out⟩
          have n1_ : zac ((((w11.setCell ⟨gb114, 0, none⟩ (.int .i64 ((zaa l0_0 x15_1).f0))).setCell ⟨gb114, 1, none⟩ (.int .i64 ((zaa l0_0 x15_1).f1))).setCell ⟨gb114, 2, none⟩ (.slice A113_2 ((zaa l0_0 x15_1).f2).length c113_2)).heap[gb114]? = some (.cells #[.int .i64 ((zaa l0_0 x15_1).f0), .int .i64 ((zaa l0_0 x15_1).f1), .slice A113_2 ((zaa l0_0 x15_1).f2).length c113_2] 38 (0, 0))) := ⟨by (with_reducible repeat (first | refine zaj ?_ _ | refine zah ?_ | refine zai ?_ _)); refine za4 (cs := #[.int .i64 ((zaa l0_0 x15_1).f0), .int .i64 ((zaa l0_0 x15_1).f1), .slice none 0 0]) ?_ 2 _ rfl; (with_reducible repeat (first | refine zaj ?_ _ | refine zah ?_ | refine zai ?_ _)); refine za4 (cs := #[.int .i64 ((zaa l0_0 x15_1).f0), .int .i64 0, .slice none 0 0]) ?_ 1 _ rfl; (with_reducible repeat (first | refine zaj ?_ _ | refine zah ?_ | refine zai ?_ _)); refine za4 (cs := #[.int .i64 0, .int .i64 0, .slice none 0 0]) ?_ 0 _ rfl; (with_reducible repeat (first | refine zaj ?_ _ | refine zah ?_ | refine zai ?_ _)); exact BK114.out⟩
          have n2_ : zac (Below w.heap.size w (((w11.setCell ⟨gb114, 0, none⟩ (.int .i64 ((zaa l0_0 x15_1).f0))).setCell ⟨gb114, 1, none⟩ (.int .i64 ((zaa l0_0 x15_1).f1))).setCell ⟨gb114, 2, none⟩ (.slice A113_2 ((zaa l0_0 x15_1).f2).length c113_2))) := ⟨Yb_PFitx2_1⟩
          (try clear BK112)
          (try clear BK114)
          (try clear HB)
          generalize (((w11.setCell ⟨gb114, 0, none⟩ (.int .i64 ((zaa l0_0 x15_1).f0))).setCell ⟨gb114, 1, none⟩ (.int .i64 ((zaa l0_0 x15_1).f1))).setCell ⟨gb114, 2, none⟩ (.slice A113_2 ((zaa l0_0 x15_1).f2).length c113_2)) = w28 at n0_ n1_ n2_ ⊢
          have BK112 := n0_;have BK114 := n1_;have HB := n2_;clear n0_ n1_ n2_
          replace BK112 := zac.mk (zah BK112.out)
          replace BK114 := zac.mk (zah BK114.out)
          replace HB := zac.mk (zas HB.out)
          refine zbd (n := 25) (S := fun w' => w'.cell? ⟨gb114, 0, none⟩ = some (.int .i64 ((zaa l0_0 x15_1).f0)) ∧ w'.cell? ⟨gb114, 1, none⟩ = some (.int .i64 ((zaa l0_0 x15_1).f1)) ∧ w'.cell? ⟨gb114, 2, none⟩ = some (.slice A113_2 ((zaa l0_0 x15_1).f2).length c113_2)) (ds := []) (Ymk 25 0) (by kernel_rfl) rfl rfl ⟨(zae BK114.out 0).trans rfl, (zae BK114.out 1).trans rfl, (zae BK114.out 2).trans rfl⟩ (fun hHeld => ?_); refine za9 zal.tab6 zal.zdw (fun HT_ HW_ => ?_)
          generalize w28.drew = w29 at BK112 BK114 HB hHeld ⊢
          refine Ypt 0 20 25 1 HT_ ?_
          refine Ytt 1 21 25 3 HT_ HW_ hHeld ?_
          refine Yot 2 22 25 7 HT_ (fun K hK => ?_)
          refine Ygs Try.func37 #[.int .i64 ((zaa l0_0 x15_1).f0)] ?_
          with_reducible refine (zbv.calls ((zaa l0_0 x15_1).f0) true _ A14.out).mono ?_
          rintro e w' ⟨rfl, ⟨nd, rfl⟩⟩
          refine ⟨_, rfl, ?_⟩
          refine hK.out _ _ ⟨(zae BK114.out 0).trans rfl, (zae BK114.out 1).trans rfl, (zae BK114.out 2).trans rfl⟩ (fun hHeld => ?_)
          clear hK K
          refine Ynw 22 ?_
          refine Ypt 3 23 25 15 HT_ ?_
          refine Ypt 4 24 25 31 HT_ ?_
          refine Ypt 5 25 25 63 HT_ ?_
          refine Ytt 6 26 25 127 HT_ HW_ hHeld ?_
          refine Yot 7 27 25 255 HT_ (fun K hK => ?_)
          refine Ygs Try.func37 #[.int .i64 ((zaa l0_0 x15_1).f1)] ?_
          with_reducible refine (zbv.calls ((zaa l0_0 x15_1).f1) false _ A16.out).mono ?_
          rintro e w' ⟨rfl, ⟨nd, rfl⟩⟩
          refine ⟨_, rfl, ?_⟩
          refine hK.out _ _ ⟨(zae BK114.out 0).trans rfl, (zae BK114.out 1).trans rfl, (zae BK114.out 2).trans rfl⟩ (fun hHeld => ?_)
          clear hK K
          refine Ynw 27 ?_
          refine Ypt 8 28 25 511 HT_ ?_
          refine Ypt 9 29 25 1023 HT_ ?_
          refine Ypt 10 30 25 2047 HT_ ?_
          refine Ypu 11 31 25 4095 HT_ ?_
          refine Ypu 12 32 25 8191 HT_ ?_
          refine Ypu 13 33 25 16383 HT_ ?_
          refine Ypu 14 34 25 32767 HT_ ?_
          refine Ypu 15 35 25 65535 HT_ ?_
          refine Ypu 16 36 25 131071 HT_ ?_
          refine Ypu 17 37 25 262143 HT_ ?_
          refine Ypu 18 38 25 524287 HT_ ?_
          refine Ypu 19 39 25 1048575 HT_ ?_
          refine Ypu 20 40 25 2097151 HT_ ?_
          refine Ypu 21 41 25 4194303 HT_ ?_
          refine Ypu 22 42 25 8388607 HT_ ?_
          refine Ypu 23 43 25 16777215 HT_ ?_
          refine Ypt 24 44 25 33554431 HT_ ?_
          refine zbo (zbl HT_.out (by kernel_rfl)) ?_
          try go_wp2
          go_meet
          case rel => exact ⟨_, (true), Yfs, H', ⟨by have := HK1.out; first | omega | exact Nat.le_refl _⟩, ⟨Yg BK112⟩, ⟨Yg BK114⟩, ⟨Yb_PFitx2_1⟩⟩
        ·replace c15 := Bool.eq_false_iff.mpr c15
         subst c15
         have H1 : (zal.j1 k1 l0_0 (l0_0.length : Int) x15_1 true l0_0 ((zaa l0_0 x15_1).f0) ((zaa l0_0 x15_1).f1) ((zaa l0_0 x15_1).f2)) = some r := by rw [if_neg (show ¬ (false = true) by decide)] at H; exact H
         clear H;have H := H1;clear H1
         have H' := zac.mk H
         clear H
         try go_wp2
         have n0_ : zac ((((w11.setCell ⟨gb114, 0, none⟩ (.int .i64 ((zaa l0_0 x15_1).f0))).setCell ⟨gb114, 1, none⟩ (.int .i64 ((zaa l0_0 x15_1).f1))).setCell ⟨gb114, 2, none⟩ (.slice A113_2 ((zaa l0_0 x15_1).f2).length c113_2)).heap[gb112]? = some (.cells #[.slice (some ad113) l0_0.length c0_0] 24 (0, 0))) := ⟨by (with_reducible repeat (first | refine zaj ?_ _ | refine zah ?_ | refine zai ?_ _)); refine zbb ?_ NB112_114.out _; (with_reducible repeat (first | refine zaj ?_ _ | refine zah ?_ | refine zai ?_ _)); refine zbb ?_ NB112_114.out _; (with_reducible repeat (first | refine zaj ?_ _ | refine zah ?_ | refine zai ?_ _)); refine zbb ?_ NB112_114.out _; (with_reducible repeat (first | refine zaj ?_ _ | refine zah ?_ | refine zai ?_ _)); exact BK112.out⟩
         have n1_ : zac ((((w11.setCell ⟨gb114, 0, none⟩ (.int .i64 ((zaa l0_0 x15_1).f0))).setCell ⟨gb114, 1, none⟩ (.int .i64 ((zaa l0_0 x15_1).f1))).setCell ⟨gb114, 2, none⟩ (.slice A113_2 ((zaa l0_0 x15_1).f2).length c113_2)).heap[gb114]? = some (.cells #[.int .i64 ((zaa l0_0 x15_1).f0), .int .i64 ((zaa l0_0 x15_1).f1), .slice A113_2 ((zaa l0_0 x15_1).f2).length c113_2] 38 (0, 0))) := ⟨by (with_reducible repeat (first | refine zaj ?_ _ | refine zah ?_ | refine zai ?_ _)); refine za4 (cs := #[.int .i64 ((zaa l0_0 x15_1).f0), .int .i64 ((zaa l0_0 x15_1).f1), .slice none 0 0]) ?_ 2 _ rfl; (with_reducible repeat (first | refine zaj ?_ _ | refine zah ?_ | refine zai ?_ _)); refine za4 (cs := #[.int .i64 ((zaa l0_0 x15_1).f0), .int .i64 0, .slice none 0 0]) ?_ 1 _ rfl; (with_reducible repeat (first | refine zaj ?_ _ | refine zah ?_ | refine zai ?_ _)); refine za4 (cs := #[.int .i64 0, .int .i64 0, .slice none 0 0]) ?_ 0 _ rfl; (with_reducible repeat (first | refine zaj ?_ _ | refine zah ?_ | refine zai ?_ _)); exact BK114.out⟩
         have n2_ : zac (Below w.heap.size w (((w11.setCell ⟨gb114, 0, none⟩ (.int .i64 ((zaa l0_0 x15_1).f0))).setCell ⟨gb114, 1, none⟩ (.int .i64 ((zaa l0_0 x15_1).f1))).setCell ⟨gb114, 2, none⟩ (.slice A113_2 ((zaa l0_0 x15_1).f2).length c113_2))) := ⟨Yb_PFitx2_1⟩
         (try clear BK112)
         (try clear BK114)
         (try clear HB)
         generalize (((w11.setCell ⟨gb114, 0, none⟩ (.int .i64 ((zaa l0_0 x15_1).f0))).setCell ⟨gb114, 1, none⟩ (.int .i64 ((zaa l0_0 x15_1).f1))).setCell ⟨gb114, 2, none⟩ (.slice A113_2 ((zaa l0_0 x15_1).f2).length c113_2)) = w30 at n0_ n1_ n2_ ⊢
         have BK112 := n0_;have BK114 := n1_;have HB := n2_;clear n0_ n1_ n2_
         replace BK112 := zac.mk (zah BK112.out)
         replace BK114 := zac.mk (zah BK114.out)
         replace HB := zac.mk (zas HB.out)
         refine zbd (n := 25) (S := fun w' => w'.cell? ⟨gb114, 0, none⟩ = some (.int .i64 ((zaa l0_0 x15_1).f0)) ∧ w'.cell? ⟨gb114, 1, none⟩ = some (.int .i64 ((zaa l0_0 x15_1).f1)) ∧ w'.cell? ⟨gb114, 2, none⟩ = some (.slice A113_2 ((zaa l0_0 x15_1).f2).length c113_2)) (ds := []) (Ymk 25 0) (by kernel_rfl) rfl rfl ⟨(zae BK114.out 0).trans rfl, (zae BK114.out 1).trans rfl, (zae BK114.out 2).trans rfl⟩ (fun hHeld => ?_); refine za9 zal.tab6 zal.zdw (fun HT_ HW_ => ?_)
         generalize w30.drew = w31 at BK112 BK114 HB hHeld ⊢
         refine Ypt 0 20 25 1 HT_ ?_
         refine Ytt 1 21 25 3 HT_ HW_ hHeld ?_
         refine Yot 2 22 25 7 HT_ (fun K hK => ?_)
         refine Ygs Try.func37 #[.int .i64 ((zaa l0_0 x15_1).f0)] ?_
         with_reducible refine (zbv.calls ((zaa l0_0 x15_1).f0) false _ A14.out).mono ?_
         rintro e w' ⟨rfl, ⟨nd, rfl⟩⟩
         refine ⟨_, rfl, ?_⟩
         refine hK.out _ _ ⟨(zae BK114.out 0).trans rfl, (zae BK114.out 1).trans rfl, (zae BK114.out 2).trans rfl⟩ (fun hHeld => ?_)
         clear hK K
         refine Ynw 22 ?_
         refine Ypt 3 23 25 15 HT_ ?_
         refine Ypt 4 24 25 31 HT_ ?_
         refine Ypu 5 25 25 63 HT_ ?_
         refine Ypu 6 26 25 127 HT_ ?_
         refine Ypu 7 27 25 255 HT_ ?_
         refine Ypu 8 28 25 511 HT_ ?_
         refine Ypt 9 29 25 1023 HT_ ?_
         refine Ypt 10 30 25 2047 HT_ ?_
         refine Ypu 11 31 25 4095 HT_ ?_
         refine Ypu 12 32 25 8191 HT_ ?_
         refine Ypu 13 33 25 16383 HT_ ?_
         refine Ypu 14 34 25 32767 HT_ ?_
         refine Ypu 15 35 25 65535 HT_ ?_
         refine Ypu 16 36 25 131071 HT_ ?_
         refine Ypu 17 37 25 262143 HT_ ?_
         refine Ypu 18 38 25 524287 HT_ ?_
         refine Ypu 19 39 25 1048575 HT_ ?_
         refine Ypu 20 40 25 2097151 HT_ ?_
         refine Ypu 21 41 25 4194303 HT_ ?_
         refine Ypu 22 42 25 8388607 HT_ ?_
         refine Ypu 23 43 25 16777215 HT_ ?_
         refine Ypt 24 44 25 33554431 HT_ ?_
         refine zbo (zbl HT_.out (by kernel_rfl)) ?_
         try go_wp2
         go_meet
         case rel => exact ⟨_, (true), Yfs, H', ⟨by have := HK1.out; first | omega | exact Nat.le_refl _⟩, ⟨Yg BK112⟩, ⟨Yg BK114⟩, ⟨Yb_PFitx2_1⟩⟩
       case rest =>
        clear HC10
        obtain ⟨kq, x44_9, rfl, HA, HJ9, BK112, BK114, HB⟩ := hcut
        cases kq with
        | zero => exact absurd HA.out (by simp [zal.j1])
        | succ kj9 =>
         have H := HA.out;clear HA
         simp only [zal.j1] at H
         by_cases c32 : x44_9 = true
         ·subst c32
          have H1 : (some false) = some r := by rw [if_pos rfl] at H; exact H
          clear H;have H := H1;clear H1;obtain rfl := Option.some.inj H;go_wp2;go_ret
          exact ⟨Yfi, Yb_PFitx2_1⟩
         ·replace c32 := Bool.eq_false_iff.mpr c32
          subst c32
          have H1 : (zal.l1 kj9 (-1) l0_0 (l0_0.length : Int) x15_1 ((zaa l0_0 x15_1).f2) (((zaa l0_0 x15_1).f2).length : Int) 0 l0_0 ((zaa l0_0 x15_1).f0) ((zaa l0_0 x15_1).f1) ((zaa l0_0 x15_1).f2)) = some r := by rw [if_neg (show ¬ (false = true) by decide)] at H; exact H
          clear H;have H := H1;clear H1
          have H' := zac.mk H
          clear H
          have hnb33 := NB114_112.out
          have hnc33 := NB112_114.out
          obtain ⟨hcz34_0, hfz34_0, hcz34_1, hfz34_1, hcz34_2, hfz34_2⟩ := Yc3 BK114.out
          go_wp2
          go_loopg [5, 48] kj9 (fun kq v5 v48 w' => ∃ (x5_3 : Int) (x48_3 : Int), v5 = .int .i64 x5_3 ∧ v48 = .int .i64 x48_3 ∧ zac (zal.l1 kq x5_3 l0_0 (l0_0.length : Int) x15_1 ((zaa l0_0 x15_1).f2) (((zaa l0_0 x15_1).f2).length : Int) x48_3 l0_0 ((zaa l0_0 x15_1).f0) ((zaa l0_0 x15_1).f1) ((zaa l0_0 x15_1).f2) = some r) ∧ zac (kq ≤ kj9) ∧ zac (w'.heap[gb112]? = some (.cells #[(.slice (some ad113) l0_0.length c0_0)] 24 (0, 0))) ∧ zac (w'.heap[gb114]? = some (.cells #[.int .i64 ((zaa l0_0 x15_1).f0), .int .i64 ((zaa l0_0 x15_1).f1), (.slice A113_2 ((zaa l0_0 x15_1).f2).length c113_2)] 38 (0, 0))) ∧ zac (Below w.heap.size w w'))
          case atStart => exact ⟨((-1)), (0), Yfs, Yfs, H', ⟨Nat.le_refl _⟩, ⟨Yg BK112⟩, ⟨Yg BK114⟩, ⟨Yb_PFitx2_1⟩⟩
          case round =>
           clear H'
           obtain ⟨x5_3, x48_3, rfl, rfl, HA, HK3, BK112, BK114, HB⟩ := hrel
           cases gk with
           | zero => exact absurd HA.out (by simp [zal.l1])
           | succ k3 =>
            have H := HA.out;clear HA
            simp only [zal.l1] at H
            by_cases c35 : x48_3 < (((zaa l0_0 x15_1).f2).length : Int)
            ·rw [if_pos c35] at H
             have c35b0 := decide_eq_true c35
             clear c35
             by_cases c36 : 0 ≤ x48_3
             ·rw [if_pos c36] at H
              have c36b0 := decide_eq_true c36
              clear c36
              by_cases c37 : x48_3 < (((zaa l0_0 x15_1).f2).length : Int)
              ·rw [if_pos c37] at H
               have c37b0 := decide_eq_true c37
               clear c37
               by_cases c38 : (rd ((zaa l0_0 x15_1).f2) x48_3) ≤ x5_3
               ·rw [if_pos c38] at H
                have c38b0 := decide_eq_true c38
                clear c38;obtain rfl := Option.some.inj H
                have p119 : 0 ≤ (x48_3 : Int) := Yod
                have q119 : x48_3 < (((zaa l0_0 x15_1).f2).length : Int) := Yod
                obtain ⟨ad119, e119, hx119_0⟩ := Kd.zbe HR113_2.out x48_3 p119 q119
                cases e119
                replace hx119_0 := zaf HB.out hx119_0
                replace p119 := eq_true p119
                replace q119 := eq_true q119
                try go_wp2
                replace BK112 := zac.mk (zah BK112.out)
                replace BK114 := zac.mk (zah BK114.out)
                replace HB := zac.mk (zas HB.out)
                refine zbd (n := 21) (S := fun w' => True) (ds := []) (Ymk 21 0) (by kernel_rfl) rfl rfl trivial (fun hHeld => ?_); refine za9 zal.zdk zal.zc4 (fun HT_ HW_ => ?_)
                generalize wr.drew = w39 at BK112 BK114 HB hHeld ⊢
                refine Ypt 0 52 21 1 HT_ ?_
                refine Ypt 1 53 21 3 HT_ ?_
                refine Ypt 2 54 21 7 HT_ ?_
                refine Ypt 3 55 21 15 HT_ ?_
                refine Ypu 4 56 21 31 HT_ ?_
                refine Ypu 5 57 21 63 HT_ ?_
                refine Ypu 6 58 21 127 HT_ ?_
                refine Ypu 7 59 21 255 HT_ ?_
                refine Ypu 8 60 21 511 HT_ ?_
                refine Ypt 9 61 21 1023 HT_ ?_
                refine Ypt 10 62 21 2047 HT_ ?_
                refine Ypu 11 63 21 4095 HT_ ?_
                refine Ypu 12 64 21 8191 HT_ ?_
                refine Ypu 13 65 21 16383 HT_ ?_
                refine Ypu 14 66 21 32767 HT_ ?_
                refine Ypu 15 67 21 65535 HT_ ?_
                refine Ypu 16 68 21 131071 HT_ ?_
                refine Ypu 17 69 21 262143 HT_ ?_
                refine Ypu 18 70 21 524287 HT_ ?_
                refine Ypu 19 71 21 1048575 HT_ ?_
                refine Ypt 20 72 21 2097151 HT_ ?_
                refine zbo (zbl HT_.out (by kernel_rfl)) ?_
                try go_wp2
                go_ret
                exact ⟨Yfi, Yb_PFitx2_1⟩
               ·rw [if_neg c38] at H
                have c38b0 := decide_eq_false c38
                clear c38
                by_cases c40 : (rd ((zaa l0_0 x15_1).f2) x48_3) ≥ (l0_0.length : Int)
                ·rw [if_pos c40] at H
                 have c40b0 := decide_eq_true c40
                 clear c40;obtain rfl := Option.some.inj H
                 have p119 : 0 ≤ (x48_3 : Int) := Yod
                 have q119 : x48_3 < (((zaa l0_0 x15_1).f2).length : Int) := Yod
                 obtain ⟨ad119, e119, hx119_0⟩ := Kd.zbe HR113_2.out x48_3 p119 q119
                 cases e119
                 replace hx119_0 := zaf HB.out hx119_0
                 replace p119 := eq_true p119
                 replace q119 := eq_true q119
                 try go_wp2
                 replace BK112 := zac.mk (zah BK112.out)
                 replace BK114 := zac.mk (zah BK114.out)
                 replace HB := zac.mk (zas HB.out)
                 refine zbd (n := 21) (S := fun w' => w'.cell? ⟨gb112, 0, none⟩ = some (.slice (some ad113) l0_0.length c0_0)) (ds := []) (Ymk 21 0) (by kernel_rfl) rfl rfl ((zae BK112.out 0).trans rfl) (fun hHeld => ?_); refine za9 zal.zdk zal.zc4 (fun HT_ HW_ => ?_)
                 generalize wr.drew = w41 at BK112 BK114 HB hHeld ⊢
                 refine Ypt 0 52 21 1 HT_ ?_
                 refine Ypt 1 53 21 3 HT_ ?_
                 refine Ypt 2 54 21 7 HT_ ?_
                 refine Ypt 3 55 21 15 HT_ ?_
                 refine Ypt 4 56 21 31 HT_ ?_
                 refine Ypt 5 57 21 63 HT_ ?_
                 refine take_ (i := 6) (N := some 58) (v := ?_) (a' := ?_) (Ymk 21 127) rfl rfl (take_ofW HT_.out HW_.out (by kernel_rfl)) (fun _ _ _ h => h) (Or.inl ⟨by rfl, ?_⟩) hHeld ?_ ?_
                 rotate_left
                 ·intro w' s0
                  go_simp
                  with_reducible rfl
                 rotate_left; · simp only [Act.put, Y1, Y2, Y3, zcj, zcw]; rfl
                 refine Ypt 7 59 21 255 HT_ ?_
                 refine Ypt 8 60 21 511 HT_ ?_
                 refine Ypt 9 61 21 1023 HT_ ?_
                 refine Ypt 10 62 21 2047 HT_ ?_
                 refine Ypu 11 63 21 4095 HT_ ?_
                 refine Ypu 12 64 21 8191 HT_ ?_
                 refine Ypu 13 65 21 16383 HT_ ?_
                 refine Ypu 14 66 21 32767 HT_ ?_
                 refine Ypu 15 67 21 65535 HT_ ?_
                 refine Ypu 16 68 21 131071 HT_ ?_
                 refine Ypu 17 69 21 262143 HT_ ?_
                 refine Ypu 18 70 21 524287 HT_ ?_
                 refine Ypu 19 71 21 1048575 HT_ ?_
                 refine Ypt 20 72 21 2097151 HT_ ?_
                 refine zbo (zbl HT_.out (by kernel_rfl)) ?_
                 try go_wp2
                 go_ret
                 exact ⟨Yfi, Yb_PFitx2_1⟩
                ·rw [if_neg c40] at H
                 have c40b0 := decide_eq_false c40
                 clear c40
                 by_cases c42 : 0 ≤ (rd ((zaa l0_0 x15_1).f2) x48_3)
                 ·rw [if_pos c42] at H
                  have c42b0 := decide_eq_true c42
                  clear c42
                  by_cases c43 : (rd ((zaa l0_0 x15_1).f2) x48_3) < (l0_0.length : Int)
                  ·rw [if_pos c43] at H
                   have c43b0 := decide_eq_true c43
                   clear c43
                   by_cases c44 : ((zaa l0_0 (rd ((zaa l0_0 x15_1).f2) x48_3)).f1) > ((zaa l0_0 x15_1).f1)
                   ·rw [if_pos c44] at H
                    have c44b0 := decide_eq_true c44
                    clear c44;obtain rfl := Option.some.inj H
                    have p119 : 0 ≤ (x48_3 : Int) := Yod
                    have q119 : x48_3 < (((zaa l0_0 x15_1).f2).length : Int) := Yod
                    obtain ⟨ad119, e119, hx119_0⟩ := Kd.zbe HR113_2.out x48_3 p119 q119
                    cases e119
                    replace hx119_0 := zaf HB.out hx119_0
                    replace p119 := eq_true p119
                    replace q119 := eq_true q119
                    try go_wp2
                    replace BK112 := zac.mk (zah BK112.out)
                    replace BK114 := zac.mk (zah BK114.out)
                    replace HB := zac.mk (zas HB.out)
                    have p120 : 0 ≤ ((rd ((zaa l0_0 x15_1).f2) x48_3) : Int) := Yod
                    have q120 : (rd ((zaa l0_0 x15_1).f2) x48_3) < (l0_0.length : Int) := Yod
                    obtain ⟨ad120, A120_2, c120_2, e120, hx120_0, hx120_1, hx120_2, hl120_2, hi120_2⟩ := zbx HR0_0.out (rd ((zaa l0_0 x15_1).f2) x48_3) p120 q120
                    have hw120_2 := hx120_2;have hw120_1 := hx120_1;have hw120_0 := hx120_0
                    obtain rfl : ad113 = ad120 := (by injection e120)
                    replace hx120_0 := zaf HB.out hx120_0
                    replace hx120_1 := zaf HB.out hx120_1
                    replace hx120_2 := zaf HB.out hx120_2
                    have HR120_2 := zac.mk hi120_2;have HC120_2 := zac.mk hl120_2;clear hi120_2 hl120_2
                    replace p120 := eq_true p120
                    replace q120 := eq_true q120
                    refine zbd (n := 21) (S := fun w' => w'.cell? ⟨gb112, 0, none⟩ = some (.slice (some ad113) l0_0.length c0_0) ∧ w'.cell? ⟨gb114, 0, none⟩ = some (.int .i64 ((zaa l0_0 x15_1).f0)) ∧ w'.cell? ⟨gb114, 1, none⟩ = some (.int .i64 ((zaa l0_0 x15_1).f1)) ∧ w'.cell? ⟨gb114, 2, none⟩ = some (.slice (some ad119) ((zaa l0_0 x15_1).f2).length c113_2) ∧ w'.cell? (ad113.add (((rd ((zaa l0_0 x15_1).f2) x48_3)).toNat * 3)) = some (.int .i64 ((zaa l0_0 (rd ((zaa l0_0 x15_1).f2) x48_3)).f0)) ∧ w'.cell? ⟨(ad113.add (((rd ((zaa l0_0 x15_1).f2) x48_3)).toNat * 3)).block, (ad113.add (((rd ((zaa l0_0 x15_1).f2) x48_3)).toNat * 3)).off + 1, none⟩ = some (.int .i64 ((zaa l0_0 (rd ((zaa l0_0 x15_1).f2) x48_3)).f1)) ∧ w'.cell? ⟨(ad113.add (((rd ((zaa l0_0 x15_1).f2) x48_3)).toNat * 3)).block, (ad113.add (((rd ((zaa l0_0 x15_1).f2) x48_3)).toNat * 3)).off + 2, none⟩ = some (.slice A120_2 ((zaa l0_0 (rd ((zaa l0_0 x15_1).f2) x48_3)).f2).length c120_2)) (ds := []) (Ymk 21 0) (by kernel_rfl) rfl rfl ⟨(zae BK112.out 0).trans rfl, (zae BK114.out 0).trans rfl, (zae BK114.out 1).trans rfl, (zae BK114.out 2).trans rfl, ((HB.out.cell (World.block_lt_of_cell? w _ hw120_0)).trans hw120_0), ((HB.out.cell (World.block_lt_of_cell? w _ hw120_1)).trans hw120_1), ((HB.out.cell (World.block_lt_of_cell? w _ hw120_2)).trans hw120_2)⟩ (fun hHeld => ?_); refine za9 zal.zdk zal.zc4 (fun HT_ HW_ => ?_)
                    generalize wr.drew = w45 at BK112 BK114 HB HR120_2 hx120_0 hx120_1 hx120_2 hHeld ⊢
                    refine Ypt 0 52 21 1 HT_ ?_
                    refine Ypt 1 53 21 3 HT_ ?_
                    refine Ypt 2 54 21 7 HT_ ?_
                    refine Ypt 3 55 21 15 HT_ ?_
                    refine Ypt 4 56 21 31 HT_ ?_
                    refine Ypt 5 57 21 63 HT_ ?_
                    refine Ytt 6 58 21 127 HT_ HW_ hHeld ?_
                    refine Ypt 7 59 21 255 HT_ ?_
                    refine Ypt 8 60 21 511 HT_ ?_
                    refine Ypt 9 61 21 1023 HT_ ?_
                    refine Ypt 10 62 21 2047 HT_ ?_
                    refine Ypt 11 63 21 4095 HT_ ?_
                    refine Ypt 13 65 21 12287 HT_ ?_
                    refine Ypt 17 69 21 143359 HT_ ?_
                    refine Ytt 12 64 21 147455 HT_ HW_ hHeld ?_
                    refine Ypt 14 66 21 163839 HT_ ?_
                    refine Ypt 15 67 21 196607 HT_ ?_
                    refine Ytt 16 68 21 262143 HT_ HW_ hHeld ?_
                    refine Ytt 18 70 21 524287 HT_ HW_ hHeld ?_
                    refine Ypt 19 71 21 1048575 HT_ ?_
                    refine Ypt 20 72 21 2097151 HT_ ?_
                    refine zbo (zbl HT_.out (by kernel_rfl)) ?_
                    try go_wp2
                    go_ret
                    exact ⟨Yfi, Yb_PFitx2_1⟩
                   ·rw [if_neg c44] at H
                    have c44b0 := decide_eq_false c44
                    clear c44
                    have H' := zac.mk H
                    clear H
                    have p119 : 0 ≤ (x48_3 : Int) := Yod
                    have q119 : x48_3 < (((zaa l0_0 x15_1).f2).length : Int) := Yod
                    obtain ⟨ad119, e119, hx119_0⟩ := Kd.zbe HR113_2.out x48_3 p119 q119
                    cases e119
                    replace hx119_0 := zaf HB.out hx119_0
                    replace p119 := eq_true p119
                    replace q119 := eq_true q119
                    try go_wp2
                    replace BK112 := zac.mk (zah BK112.out)
                    replace BK114 := zac.mk (zah BK114.out)
                    replace HB := zac.mk (zas HB.out)
                    have p120 : 0 ≤ ((rd ((zaa l0_0 x15_1).f2) x48_3) : Int) := Yod
                    have q120 : (rd ((zaa l0_0 x15_1).f2) x48_3) < (l0_0.length : Int) := Yod
                    obtain ⟨ad120, A120_2, c120_2, e120, hx120_0, hx120_1, hx120_2, hl120_2, hi120_2⟩ := zbx HR0_0.out (rd ((zaa l0_0 x15_1).f2) x48_3) p120 q120
                    have hw120_2 := hx120_2;have hw120_1 := hx120_1;have hw120_0 := hx120_0
                    obtain rfl : ad113 = ad120 := (by injection e120)
                    replace hx120_0 := zaf HB.out hx120_0
                    replace hx120_1 := zaf HB.out hx120_1
                    replace hx120_2 := zaf HB.out hx120_2
                    have HR120_2 := zac.mk hi120_2;have HC120_2 := zac.mk hl120_2;clear hi120_2 hl120_2
                    replace p120 := eq_true p120
                    replace q120 := eq_true q120
                    refine zbd (n := 21) (S := fun w' => w'.cell? ⟨gb112, 0, none⟩ = some (.slice (some ad113) l0_0.length c0_0) ∧ w'.cell? ⟨gb114, 0, none⟩ = some (.int .i64 ((zaa l0_0 x15_1).f0)) ∧ w'.cell? ⟨gb114, 1, none⟩ = some (.int .i64 ((zaa l0_0 x15_1).f1)) ∧ w'.cell? ⟨gb114, 2, none⟩ = some (.slice (some ad119) ((zaa l0_0 x15_1).f2).length c113_2) ∧ w'.cell? (ad113.add (((rd ((zaa l0_0 x15_1).f2) x48_3)).toNat * 3)) = some (.int .i64 ((zaa l0_0 (rd ((zaa l0_0 x15_1).f2) x48_3)).f0)) ∧ w'.cell? ⟨(ad113.add (((rd ((zaa l0_0 x15_1).f2) x48_3)).toNat * 3)).block, (ad113.add (((rd ((zaa l0_0 x15_1).f2) x48_3)).toNat * 3)).off + 1, none⟩ = some (.int .i64 ((zaa l0_0 (rd ((zaa l0_0 x15_1).f2) x48_3)).f1)) ∧ w'.cell? ⟨(ad113.add (((rd ((zaa l0_0 x15_1).f2) x48_3)).toNat * 3)).block, (ad113.add (((rd ((zaa l0_0 x15_1).f2) x48_3)).toNat * 3)).off + 2, none⟩ = some (.slice A120_2 ((zaa l0_0 (rd ((zaa l0_0 x15_1).f2) x48_3)).f2).length c120_2)) (ds := []) (Ymk 21 0) (by kernel_rfl) rfl rfl ⟨(zae BK112.out 0).trans rfl, (zae BK114.out 0).trans rfl, (zae BK114.out 1).trans rfl, (zae BK114.out 2).trans rfl, ((HB.out.cell (World.block_lt_of_cell? w _ hw120_0)).trans hw120_0), ((HB.out.cell (World.block_lt_of_cell? w _ hw120_1)).trans hw120_1), ((HB.out.cell (World.block_lt_of_cell? w _ hw120_2)).trans hw120_2)⟩ (fun hHeld => ?_); refine za9 zal.zdk zal.zc4 (fun HT_ HW_ => ?_)
                    generalize wr.drew = w46 at BK112 BK114 HB HR120_2 hx120_0 hx120_1 hx120_2 hHeld ⊢
                    refine Ypt 0 52 21 1 HT_ ?_
                    refine Ypt 1 53 21 3 HT_ ?_
                    refine Ypt 2 54 21 7 HT_ ?_
                    refine Ypt 3 55 21 15 HT_ ?_
                    refine Ypt 4 56 21 31 HT_ ?_
                    refine Ypt 5 57 21 63 HT_ ?_
                    refine Ytt 6 58 21 127 HT_ HW_ hHeld ?_
                    refine Ypt 7 59 21 255 HT_ ?_
                    refine Ypt 8 60 21 511 HT_ ?_
                    refine Ypt 9 61 21 1023 HT_ ?_
                    refine Ypt 10 62 21 2047 HT_ ?_
                    refine Ypt 11 63 21 4095 HT_ ?_
                    refine Ypt 13 65 21 12287 HT_ ?_
                    refine Ypt 17 69 21 143359 HT_ ?_
                    refine Ytt 12 64 21 147455 HT_ HW_ hHeld ?_
                    refine Ypt 14 66 21 163839 HT_ ?_
                    refine Ypt 15 67 21 196607 HT_ ?_
                    refine Ytt 16 68 21 262143 HT_ HW_ hHeld ?_
                    refine Ytt 18 70 21 524287 HT_ HW_ hHeld ?_
                    refine Ypt 19 71 21 1048575 HT_ ?_
                    refine Ypt 20 72 21 2097151 HT_ ?_
                    refine zbo (zbl HT_.out (by kernel_rfl)) ?_
                    try go_wp2
                    go_roundg k3
                    case measure => have := HK1.out; have := HJ9.out; have := HK3.out; omega
                    case rel => exact ⟨(rd ((zaa l0_0 x15_1).f2) x48_3), (wrap64 (x48_3 + 1)), Yfs, Yfs, H', ⟨by have := HK1.out; have := HJ9.out; have := HK3.out; omega⟩, ⟨Yg BK112⟩, ⟨Yg BK114⟩, ⟨Yb_PFitx2_1⟩⟩
                  ·rw [if_neg c43] at H
                   exact absurd H (by simp)
                 ·rw [if_neg c42] at H
                  exact absurd H (by simp)
              ·rw [if_neg c37] at H
               exact absurd H (by simp)
             ·rw [if_neg c36] at H
              exact absurd H (by simp)
            ·rw [if_neg c35] at H
             have c35b0 := decide_eq_false c35
             clear c35
             have H' := zac.mk H
             clear H;go_wp2
             go_roundg k3
             case measure => have := HK1.out; have := HJ9.out; have := HK3.out; omega
             case rel => exact ⟨(wrap64 (x15_1 + 1)), Yfs, H', ⟨by have := HK1.out; have := HJ9.out; have := HK3.out; omega⟩, ⟨Yg BK112⟩, ⟨Yb_PFitx2_1⟩⟩
      ·rw [if_neg c9] at H
       exact absurd H (by simp)
     ·rw [if_neg c8] at H
      exact absurd H (by simp)
    ·rw [if_neg c7] at H
     have c7b0 := decide_eq_false c7
     clear c7;obtain rfl := Option.some.inj H;go_wp2;go_ret
     exact ⟨Yfi, Yb_PFitx2_0⟩
end Go.Proofs.ZZ.PFit
end
section
namespace Go.Proofs.ZZ.PInts
open Go.RowKit Go.Proofs.ZW.PrintWords Go.Proofs.ZW.PrintLast Go.Proofs.ZW.PrintMore
attribute [local go_sem] zca zcg
def za0 (xs : List (List Int)) (i : Int) : (List Int) := xs.getD i.toNat ([] : List Int)
def za7.l0 : Nat → List Int → List Int → Int → Option (Bool)
 | 0, _, _, _ => none
 | k + 1, x0, x1, x5 => if x5 < (x0.length : Int) then (if 0 ≤ x5 then (if x5 < (x1.length : Int) then (if (rd x0 x5) = (rd x1 x5) then (za7.l0 k x0 x1 (wrap64 (x5 + 1))) else (some false)) else (none)) else (none)) else (some true)
def za7.f (k : Nat) (l0 : List Int) (l1 : List Int) : Option (Bool) := if (l0.length : Int) = (l1.length : Int) then (za7.l0 k l0 l1 0) else (some false)
theorem za7.calls (k : Nat) (A0 : Option Addr) (c0 : Nat) (l0 : List Int) (A1 : Option Addr) (c1 : Nat) (l1 : List Int) (r : Bool) (w : World) (hr0 : Kd.C (Kd.int .i64) w A0 l0.length l0) (hc0 : l0.length ≤ c0) (hr1 : Kd.C (Kd.int .i64) w A1 l1.length l1) (hc1 : l1.length ≤ c1) (h : za7.f k l0 l1 = some r) :
  Calls Try.prog 44 #[.slice A0 l0.length c0, .slice A1 l1.length c1] w fun e w' => e = .returned (.bool r) ∧ zam w w' := by
 have HR0 := zac.mk hr0;have HC0 := zac.mk hc0;clear hr0 hc0;have HR1 := zac.mk hr1;have HC1 := zac.mk hc1;clear hr1 hc1
 have H : (if (l0.length : Int) = (l1.length : Int) then (za7.l0 k l0 l1 0) else (some false)) = some r := h
 clear h
 by_cases c3 : (l0.length : Int) = (l1.length : Int)
 ·rw [if_pos c3] at H
  have c3b0 : ((l0.length : Int) == (l1.length : Int)) = true := beq_iff_eq.mpr c3
  have c3b1 : ((l0.length : Int) != (l1.length : Int)) = false := bne_eq_false_iff_eq.mpr c3
  have c3b2 : (l0.length == l1.length) = true := by first | simpa using c3 | (simp at c3 ⊢; omega)
  clear c3
  have H' := zac.mk H
  clear H
  go_enter Try.func44, Try.ntmps44
  go_wp2
  repeat (go_quiet (fail); try go_wp2)
  go_loopg [5] k (fun kq v5 w' => ∃ (x5_1 : Int), v5 = .int .i64 x5_1 ∧ zac (za7.l0 kq l0 l1 x5_1 = some r) ∧ zac (kq ≤ k) ∧ zam w w')
  case atStart => exact ⟨(0), Yfs, H', ⟨Nat.le_refl _⟩, by repeat (first | exact zam.refl _ | apply zam.step)⟩
  case round =>
   clear H'
   obtain ⟨x5_1, rfl, HA, HK1, ⟨m1, rfl⟩⟩ := hrel
   cases gk with
   | zero => exact absurd HA.out (by simp [za7.l0])
   | succ k1 =>
    have H := HA.out;clear HA
    simp only [za7.l0] at H
    by_cases c4 : x5_1 < (l0.length : Int)
    ·rw [if_pos c4] at H
     have c4b0 := decide_eq_true c4
     clear c4
     by_cases c5 : 0 ≤ x5_1
     ·rw [if_pos c5] at H
      have c5b0 := decide_eq_true c5
      clear c5
      by_cases c6 : x5_1 < (l1.length : Int)
      ·rw [if_pos c6] at H
       have c6b0 := decide_eq_true c6
       clear c6
       by_cases c7 : (rd l0 x5_1) = (rd l1 x5_1)
       ·rw [if_pos c7] at H
        have c7b0 : ((rd l0 x5_1) == (rd l1 x5_1)) = true := beq_iff_eq.mpr c7
        have c7b1 : ((rd l0 x5_1) != (rd l1 x5_1)) = false := bne_eq_false_iff_eq.mpr c7
        clear c7
        have H' := zac.mk H
        clear H
        have p101 : 0 ≤ (x5_1 : Int) := Yod
        have q101 : x5_1 < (l0.length : Int) := Yod
        obtain ⟨ad101, e101, hx101_0⟩ := Kd.zbe HR0.out x5_1 p101 q101
        cases e101
        replace p101 := eq_true p101
        replace q101 := eq_true q101
        have p102 : 0 ≤ (x5_1 : Int) := Yod
        have q102 : x5_1 < (l1.length : Int) := Yod
        obtain ⟨ad102, e102, hx102_0⟩ := Kd.zbe HR1.out x5_1 p102 q102
        cases e102
        replace p102 := eq_true p102
        replace q102 := eq_true q102
        go_wp2
        repeat (go_quiet (fail); try go_wp2)
        go_roundg k1
        case measure => have := HK1.out; omega
        case rel => exact ⟨(wrap64 (x5_1 + 1)), Yfs, H', ⟨by have := HK1.out; omega⟩, by repeat (first | exact zam.refl _ | apply zam.step)⟩
       ·rw [if_neg c7] at H
        have c7b0 : ((rd l0 x5_1) == (rd l1 x5_1)) = false := beq_eq_false_iff_ne.mpr c7
        have c7b1 : ((rd l0 x5_1) != (rd l1 x5_1)) = true := bne_iff_ne.mpr c7
        obtain rfl := Option.some.inj H
        have p101 : 0 ≤ (x5_1 : Int) := Yod
        have q101 : x5_1 < (l0.length : Int) := Yod
        obtain ⟨ad101, e101, hx101_0⟩ := Kd.zbe HR0.out x5_1 p101 q101
        cases e101
        replace p101 := eq_true p101
        replace q101 := eq_true q101
        have p102 : 0 ≤ (x5_1 : Int) := Yod
        have q102 : x5_1 < (l1.length : Int) := Yod
        obtain ⟨ad102, e102, hx102_0⟩ := Kd.zbe HR1.out x5_1 p102 q102
        cases e102
        replace p102 := eq_true p102
        replace q102 := eq_true q102
        go_wp2
        repeat (go_quiet (fail); try go_wp2)
        go_ret
        exact ⟨Yfs, by repeat (first | exact zam.refl _ | apply zam.step)⟩
      ·rw [if_neg c6] at H
       exact absurd H (by simp)
     ·rw [if_neg c5] at H
      exact absurd H (by simp)
    ·rw [if_neg c4] at H
     have c4b0 := decide_eq_false c4
     clear c4;obtain rfl := Option.some.inj H;go_wp2
     repeat (go_quiet (fail); try go_wp2)
     go_ret
     exact ⟨Yfs, by repeat (first | exact zam.refl _ | apply zam.step)⟩
 ·rw [if_neg c3] at H
  have c3b0 : ((l0.length : Int) == (l1.length : Int)) = false := beq_eq_false_iff_ne.mpr c3
  have c3b1 : ((l0.length : Int) != (l1.length : Int)) = true := bne_iff_ne.mpr c3
  have c3b2 : (l0.length == l1.length) = false := by first | simpa using c3 | (simp at c3 ⊢; omega)
  obtain rfl := Option.some.inj H
  go_enter Try.func44, Try.ntmps44
  go_wp2
  repeat (go_quiet (fail); try go_wp2)
  go_ret
  exact ⟨Yfs, by repeat (first | exact zam.refl _ | apply zam.step)⟩
def zbp.f (k : Nat) (l0 : List Int) (l1 : List Int) : Option (Bool) := (za7.f k l0 l1).bind fun t103 => (some t103)
theorem zbp.calls (k : Nat) (A0 : Option Addr) (c0 : Nat) (l0 : List Int) (A1 : Option Addr) (c1 : Nat) (l1 : List Int) (r : Bool) (w : World) (hr0 : Kd.C (Kd.int .i64) w A0 l0.length l0) (hc0 : l0.length ≤ c0) (hr1 : Kd.C (Kd.int .i64) w A1 l1.length l1) (hc1 : l1.length ≤ c1) (h : zbp.f k l0 l1 = some r) :
  Calls Try.prog 24 #[.slice A0 l0.length c0, .slice A1 l1.length c1] w fun e w' => e = .returned (.bool r) ∧ zam w w' := by
 have HR0 := zac.mk hr0;have HC0 := zac.mk hc0;clear hr0 hc0;have HR1 := zac.mk hr1;have HC1 := zac.mk hc1;clear hr1 hc1
 have H : ((za7.f k l0 l1).bind fun t103 => (some t103)) = some r := h
 clear h;replace H := Option.bind_eq_some_iff.mp H
 obtain ⟨t103, A30, H⟩ := H
 replace H : (some t103) = some r := H
 have A3 := zac.mk A30;clear A30;obtain rfl := Option.some.inj H
 go_enter Try.func24, Try.ntmps24
 go_wp2_with (first | ((with_reducible refine zaw (f := 44) rfl ?_); refine Ygl (some 7) Try.func44 #[.slice A0 l0.length c0, .slice A1 l1.length c1] ?_; (with_reducible refine (za7.calls k _ _ l0 _ _ l1 t103 _ ?side1 HC0.out ?side3 HC1.out A3.out).mono ?_); (case side1 => repeat (first | exact HR0.out | (with_reducible refine Kd.C_alloc ?_ _) | (with_reducible refine Kd.C_drewN ?_ _) | (with_reducible refine Kd.C_drew ?_))); (case side3 => repeat (first | exact HR1.out | (with_reducible refine Kd.C_alloc ?_ _) | (with_reducible refine Kd.C_drewN ?_ _) | (with_reducible refine Kd.C_drew ?_))); rintro e w' ⟨rfl, ⟨nd, rfl⟩⟩; refine ⟨_, rfl, ?_⟩))
 go_ret
 exact ⟨Yfs, by repeat (first | exact zam.refl _ | apply zam.step)⟩
def zbp.Pure : Prop := ∀ (l0 : List Int) (l1 : List Int), l0.length ≤ maxLen → l0.length * 8 ≤ 140737488351232 → (∀ x ∈ l0, (Lit.int .i64 x).wf = true) → l1.length ≤ maxLen → l1.length * 8 ≤ 140737488351232 → (∀ x ∈ l1, (Lit.int .i64 x).wf = true) → ∃ k, zbp.f k l0 l1 = some true
end Go.Proofs.ZZ.PInts
end
