import Derived.Test.YtgdmjpehofdnpaaGreatProg
import Derived.Below
import Derived.Deep.Draws
import Derived.Deep.AppendLies
import Derived.Maps.AppendAt
import Derived.OwnWalk
import Derived.Laws.BytesArg
import Derived.Laws.MakeOwn
import Derived.Laws.OwnMore
import Derived.Deep.OwnRows
import Derived.Tactics
import Derived.Lib.ConvBytes
import Derived.Laws.Slices
import Derived.WalkKit
import Derived.KernelRfl
import Derived.RowKit3
import Derived.Deep.LoopGhost
import Derived.Deep.QuietTactic
import Derived.BigQuiet
import Derived.WideLaws
import Derived.Deep.DeepCutAuto
import Derived.Deep.CutBlock
import Derived.Deep.RegionHeld3
import Derived.Laws.Rows
import Derived.Lib.AppendStr
import Derived.ArgAppend
import Derived.Laws.IdiomCopy
import Derived.OrdersHeld
import Derived.Laws.BitsLemmas
import Derived.RowKit
import Derived.Lib.Strings
import Derived.Lib.Bytealg
import Derived.Lib.Slices
import Derived.Lib.Walk
import Derived.Test.YtgdmjpehofdnpaaGreatPackItemPrefixes3
section
namespace Go.Proofs.YtgdmjpehofdnpaaGreat.LAwake
open Go Go.RowKit Go.Shelf Go.Maps Go.Proofs.YtgdmjpehofdnpaaGreatW.PrintWords Go.Proofs.YtgdmjpehofdnpaaGreatW.PrintLast Go.Proofs.YtgdmjpehofdnpaaGreat.Fl Go.Proofs.YtgdmjpehofdnpaaGreat.Grow Go.Proofs.YtgdmjpehofdnpaaGreat.Deri Go.Proofs.YtgdmjpehofdnpaaGreat.Begin Go.Proofs.YtgdmjpehofdnpaaGreat.Begun Go.Proofs.YtgdmjpehofdnpaaGreat.LrK Go.Proofs.YtgdmjpehofdnpaaGreat.LSeq Go.Proofs.YtgdmjpehofdnpaaGreat.LLex Go.Proofs.YtgdmjpehofdnpaaGreat.LFlat Go.Proofs.YtgdmjpehofdnpaaGreat.LClos Go.Proofs.YtgdmjpehofdnpaaGreat.LInv Go.Proofs.YtgdmjpehofdnpaaGreat.LStep Go.Proofs.YtgdmjpehofdnpaaGreat.LEq Go.Proofs.YtgdmjpehofdnpaaGreat.LAll
set_option linter.unusedVariables false
set_option linter.unusedSimpArgs false
def ex0 : List ByteArray := [⟨#[120]⟩, ⟨#[121]⟩]
def ex1 : List ByteArray := [⟨#[97]⟩]
def exI (n : Int) : I := (n, ⟨#[]⟩, ⟨#[]⟩)
def exP : List P := [(2, [exI 0, exI 2], 0), (2, [exI 1], 0)]
def exE : List Bool := [false, false, false]
def exF : List (List Int) := [[0], [1], [0, 1]]
def exS0 : List Lr := [(-1, 0, 2), (0, 0, 2), (1, 0, 2)]
def exC : List Lr := [(-1, 0, 2), (1, 0, 2), (0, 0, 2)]
def exA : List (List Lr) := match allV (gotoV 2 exP exE exF 20) 3 20 0 [exS0] with | some (some l) => l | _ => []
def exR : List Lr := match closV 2 exP exE exF 20 [] (stepV 2 exP 2 exS0) with | some l => l | _ => []
theorem ex_e : growV stepD exP 20 (List.replicate 3 false) = some exE := by decide +kernel
theorem ex_f : growV (stepF 3 exE) exP 20 (initV 3 2) = some exF := by decide +kernel
theorem ex_c : closV 2 exP exE exF 20 [] [(-1, 0, 2)] = some exC := by decide +kernel
theorem ex_s : srtL exC = exS0 := by decide +kernel
theorem ex_a : allV (gotoV 2 exP exE exF 20) 3 20 0 [exS0] = some (some exA) := by decide +kernel
theorem exA_len : exA.length = 5 := by decide +kernel
theorem exA_0 : exA[0]? = some exS0 := by decide +kernel
theorem ex_r : closV 2 exP exE exF 20 [] (stepV 2 exP 2 exS0) = some exR := by decide +kernel
theorem exG_len : (srtL exR).length = 1 := by decide +kernel
theorem ex_ps : ∀ p ∈ exP, PrOk 3 p ∧ p.2.1.length ≤ 1000 := by
 intro p hp
 simp only [exP, List.mem_cons, List.not_mem_nil, or_false] at hp
 rcases hp with rfl | rfl
 ·refine ⟨⟨by decide, by decide, ?_⟩, by decide⟩
  intro i hi
  simp only [exI, List.mem_cons, List.not_mem_nil, or_false] at hi
  rcases hi with rfl | rfl <;> exact ⟨by decide, by decide⟩
 ·refine ⟨⟨by decide, by decide, ?_⟩, by decide⟩
  intro i hi
  simp only [exI, List.mem_cons, List.not_mem_nil, or_false] at hi
  subst hi
  exact ⟨by decide, by decide⟩
theorem exC2 {α : Type} {d : Kd α} {W : World} {g : Nat} {t : TypeId} {cs1 cs2 : List Value} {a b : α} (hs1 : cs1.length = d.sz) (hs2 : cs2.length = d.sz) (hb : W.heap[g]? = some (.cells (cs1 ++ cs2).toArray t (0, 0))) (h1 : d.K W a cs1) (h2 : d.K W b cs2) : Kd.C d W (some ⟨g, 0, none⟩) 2 [a, b] := by
 refine ⟨rfl, by decide, fun _ => ⟨_, rfl, fun j p hj => ?_⟩⟩
 match j, hj with
 | 0, hj =>
  cases hj
  refine ⟨cs1, hs1, h1, fun i u hu => ?_⟩
  rw [add_plain, zac hb]
  have hi := (List.getElem?_eq_some_iff.1 hu).1
  rw [List.getElem?_toArray, List.getElem?_append_left (by omega)]
  simpa using hu
 | 1, hj =>
  cases hj
  refine ⟨cs2, hs2, h2, fun i u hu => ?_⟩
  rw [add_plain, zac hb, List.getElem?_toArray, List.getElem?_append_right (by omega), Nat.one_mul, hs1]
  simpa using hu
 | j + 2, hj => simp at hj
theorem exC1 {α : Type} {d : Kd α} {W : World} {g : Nat} {t : TypeId} {cs1 : List Value} {a : α} (hs1 : cs1.length = d.sz) (hb : W.heap[g]? = some (.cells cs1.toArray t (0, 0))) (h1 : d.K W a cs1) : Kd.C d W (some ⟨g, 0, none⟩) 1 [a] := by
 refine ⟨rfl, by decide, fun _ => ⟨_, rfl, fun j p hj => ?_⟩⟩
 match j, hj with
 | 0, hj =>
  cases hj
  refine ⟨cs1, hs1, h1, fun i u hu => ?_⟩
  rw [add_plain, zac hb, List.getElem?_toArray]
  simpa using hu
 | j + 1, hj => simp at hj
theorem exC3 {α : Type} {d : Kd α} {W : World} {g : Nat} {t : TypeId} {cs1 cs2 cs3 : List Value} {a b c : α} (hs1 : cs1.length = d.sz) (hs2 : cs2.length = d.sz) (hs3 : cs3.length = d.sz) (hb : W.heap[g]? = some (.cells (cs1 ++ (cs2 ++ cs3)).toArray t (0, 0))) (h1 : d.K W a cs1) (h2 : d.K W b cs2) (h3 : d.K W c cs3) : Kd.C d W (some ⟨g, 0, none⟩) 3 [a, b, c] := by
 refine ⟨rfl, by decide, fun _ => ⟨_, rfl, fun j p hj => ?_⟩⟩
 match j, hj with
 | 0, hj =>
  cases hj
  refine ⟨cs1, hs1, h1, fun i u hu => ?_⟩
  have hi := (List.getElem?_eq_some_iff.1 hu).1
  rw [add_plain, zac hb, List.getElem?_toArray, List.getElem?_append_left (by omega)]
  simpa using hu
 | 1, hj =>
  cases hj
  refine ⟨cs2, hs2, h2, fun i u hu => ?_⟩
  have hi := (List.getElem?_eq_some_iff.1 hu).1
  rw [add_plain, zac hb, List.getElem?_toArray, List.getElem?_append_right (by omega), List.getElem?_append_left (by omega), Nat.one_mul, hs1]
  simpa using hu
 | 2, hj =>
  cases hj
  refine ⟨cs3, hs3, h3, fun i u hu => ?_⟩
  rw [add_plain, zac hb, List.getElem?_toArray, List.getElem?_append_right (by omega), List.getElem?_append_right (by omega)]
  have e : 2 * d.sz + i - cs1.length - cs2.length = i := by omega
  rw [e]
  exact hu
 | j + 3, hj => simp at hj
theorem C_nine {W : World} {g : Nat} (h : W.heap[g]? = some (.cells #[.int .i64 (-1), .int .i64 0, .int .i64 2, .int .i64 0, .int .i64 0, .int .i64 2, .int .i64 1, .int .i64 0, .int .i64 2] 50 (0, 0))) : Kd.C kLr W (some ⟨g, 0, none⟩) 3 exS0 := by
 have hK : ∀ a b c : Int, kLr.K W ((a, b, c) : Lr) [.int .i64 a, .int .i64 b, .int .i64 c] := fun a b c => ⟨[.int .i64 a], [.int .i64 b, .int .i64 c], rfl, rfl, ⟨[.int .i64 b], [.int .i64 c], rfl, rfl, rfl⟩⟩
 exact exC3 (d := kLr) (cs1 := [.int .i64 (-1), .int .i64 0, .int .i64 2]) (cs2 := [.int .i64 0, .int .i64 0, .int .i64 2]) (cs3 := [.int .i64 1, .int .i64 0, .int .i64 2]) rfl rfl rfl h (hK _ _ _) (hK _ _ _) (hK _ _ _)
def smS (x : Lr) : PSame.S50 := ⟨x.1, x.2.1, x.2.2⟩
theorem ex_same : PSame.zay.f 10 (exS0.map smS) (exS0.map smS) = some true := by decide +kernel
theorem same_calls (A : Option Addr) (c : Nat) (B : Option Addr) (d : Nat) (w : World) (hA : Kd.C kLr w A exS0.length exS0) (hc : exS0.length ≤ c) (hB : Kd.C kLr w B 3 exS0) (hd : 3 ≤ d := by decide) :
  Calls Tryz.prog 19 #[.slice A exS0.length c, .slice B 3 d] w fun e w' => e = .returned (.bool true) ∧ Below w.heap.size w w' := by
 have h1 := C_of (e := PSame.k50) (f := smS) rfl (fun _ _ _ h => h) hA
 have h2 := C_of (e := PSame.k50) (f := smS) rfl (fun _ _ _ h => h) hB
 refine (PSame.zay.calls 10 A c (exS0.map smS) B d (exS0.map smS) true w h1 hc h2 hd ex_same).mono ?_
 rintro e w' ⟨rfl, ⟨nd, rfl⟩⟩
 exact ⟨rfl, zab (Below.refl _ _) nd⟩
set_option maxRecDepth 100000 in
set_option maxHeartbeats 8000000 in
theorem awake_calls (w : World) : Calls Tryz.prog 7 #[] w fun e w' => e = .returned (.bool true) ∧ Below w.heap.size w w' := by
 obtain ⟨W1, hW1⟩ : ∃ X, w.alloc (.cells #[.string ⟨#[120]⟩, .string ⟨#[121]⟩] 9) = X := ⟨_, rfl⟩
 obtain ⟨g1, hg1⟩ : ∃ b, W1.heap.size = b := ⟨_, rfl⟩
 obtain ⟨W2, hW2⟩ : ∃ X, W1.alloc (.cells #[.string ⟨#[97]⟩] 9) = X := ⟨_, rfl⟩
 obtain ⟨g2, hg2⟩ : ∃ b, W2.heap.size = b := ⟨_, rfl⟩
 obtain ⟨W3, hW3⟩ : ∃ X, W2.alloc (.cells #[.int .i64 0, .string ⟨#[]⟩, .string ⟨#[]⟩, .int .i64 2, .string ⟨#[]⟩, .string ⟨#[]⟩] 44) = X := ⟨_, rfl⟩
 obtain ⟨g3, hg3⟩ : ∃ b, W3.heap.size = b := ⟨_, rfl⟩
 obtain ⟨W4, hW4⟩ : ∃ X, W3.alloc (.cells #[.int .i64 1, .string ⟨#[]⟩, .string ⟨#[]⟩] 44) = X := ⟨_, rfl⟩
 obtain ⟨g4, hg4⟩ : ∃ b, W4.heap.size = b := ⟨_, rfl⟩
 obtain ⟨W5, hW5⟩ : ∃ X, W4.alloc (.cells #[.int .i64 2, .slice (some ⟨g2, 0, none⟩) 2 2, .int .i64 0, .int .i64 2, .slice (some ⟨g3, 0, none⟩) 1 1, .int .i64 0] 42) = X := ⟨_, rfl⟩
 obtain ⟨b5, hb5⟩ : ∃ b, W5.heap.size = b := ⟨_, rfl⟩
 obtain ⟨W6, hW6⟩ : ∃ X, W5.alloc (.cells #[.slice (some ⟨w.heap.size, 0, none⟩) 2 2, .slice (some ⟨g1, 0, none⟩) 1 1, .slice (some ⟨g4, 0, none⟩) 2 2] 25) = X := ⟨_, rfl⟩
 have k1 : W1.heap[w.heap.size]? = some (.cells #[.string ⟨#[120]⟩, .string ⟨#[121]⟩] 9 (0, 0)) := by rw [← hW1]; exact zbi _ _
 have k2 : W2.heap[g1]? = some (.cells #[.string ⟨#[97]⟩] 9 (0, 0)) := by rw [← hW2, ← hg1]; exact zbi _ _
 have k3 : W3.heap[g2]? = some (.cells #[.int .i64 0, .string ⟨#[]⟩, .string ⟨#[]⟩, .int .i64 2, .string ⟨#[]⟩, .string ⟨#[]⟩] 44 (0, 0)) := by rw [← hW3, ← hg2]; exact zbi _ _
 have k4 : W4.heap[g3]? = some (.cells #[.int .i64 1, .string ⟨#[]⟩, .string ⟨#[]⟩] 44 (0, 0)) := by rw [← hW4, ← hg3]; exact zbi _ _
 have k5 : W5.heap[g4]? = some (.cells #[.int .i64 2, .slice (some ⟨g2, 0, none⟩) 2 2, .int .i64 0, .int .i64 2, .slice (some ⟨g3, 0, none⟩) 1 1, .int .i64 0] 42 (0, 0)) := by rw [← hW5, ← hg4]; exact zbi _ _
 have k6 : W6.heap[b5]? = some (.cells #[.slice (some ⟨w.heap.size, 0, none⟩) 2 2, .slice (some ⟨g1, 0, none⟩) 1 1, .slice (some ⟨g4, 0, none⟩) 2 2] 25 (0, 0)) := by rw [← hW6, ← hb5]; exact zbi _ _
 have e1 : Below w.heap.size w W1 := by rw [← hW1]; exact (Below.refl _ _).alloc (Nat.le_refl _) _
 have e2 : Below W1.heap.size W1 W2 := by rw [← hW2]; exact (Below.refl _ _).alloc (Nat.le_refl _) _
 have e3 : Below W2.heap.size W2 W3 := by rw [← hW3]; exact (Below.refl _ _).alloc (Nat.le_refl _) _
 have e4 : Below W3.heap.size W3 W4 := by rw [← hW4]; exact (Below.refl _ _).alloc (Nat.le_refl _) _
 have e5 : Below W4.heap.size W4 W5 := by rw [← hW5]; exact (Below.refl _ _).alloc (Nat.le_refl _) _
 have e6 : Below W5.heap.size W5 W6 := by rw [← hW6]; exact (Below.refl _ _).alloc (Nat.le_refl _) _
 have kI : ∀ n : Int, ∀ W, Fl.kI.K W (exI n) [.int .i64 n, .string ⟨#[]⟩, .string ⟨#[]⟩] := fun n W => ⟨[.int .i64 n], [.string ⟨#[]⟩, .string ⟨#[]⟩], rfl, rfl, ⟨[.string ⟨#[]⟩], [.string ⟨#[]⟩], rfl, rfl, rfl⟩⟩
 have hK : (⟨some ⟨w.heap.size, 0, none⟩, some ⟨g1, 0, none⟩, some ⟨g4, 0, none⟩, 2, 1, 2, ex0, ex1, exP⟩ : FG).K W6 := by
  refine ⟨exC2 (cs1 := [.string ⟨#[120]⟩]) (cs2 := [.string ⟨#[121]⟩]) rfl rfl (zar (zar (zar (zar (zar k1 e2) e3) e4) e5) e6) rfl rfl, Nat.le_refl _, exC1 (cs1 := [.string ⟨#[97]⟩]) rfl (zar (zar (zar (zar k2 e3) e4) e5) e6) rfl, Nat.le_refl _, ?_, Nat.le_refl _⟩
  refine exC2 (d := kP) (cs1 := [.int .i64 2, .slice (some ⟨g2, 0, none⟩) 2 2, .int .i64 0]) (cs2 := [.int .i64 2, .slice (some ⟨g3, 0, none⟩) 1 1, .int .i64 0]) rfl rfl (zar k5 e6) ?_ ?_
  ·exact ⟨[.int .i64 2], [.slice (some ⟨g2, 0, none⟩) 2 2, .int .i64 0], rfl, rfl, ⟨[.slice (some ⟨g2, 0, none⟩) 2 2], [.int .i64 0], rfl, ⟨_, 2, rfl, Nat.le_refl _, exC2 (d := Fl.kI) (cs1 := [.int .i64 0, .string ⟨#[]⟩, .string ⟨#[]⟩]) (cs2 := [.int .i64 2, .string ⟨#[]⟩, .string ⟨#[]⟩]) rfl rfl (zar (zar (zar k3 e4) e5) e6) (kI 0 _) (kI 2 _)⟩, rfl⟩⟩
  ·exact ⟨[.int .i64 2], [.slice (some ⟨g3, 0, none⟩) 1 1, .int .i64 0], rfl, rfl, ⟨[.slice (some ⟨g3, 0, none⟩) 1 1], [.int .i64 0], rfl, ⟨_, 1, rfl, Nat.le_refl _, exC1 (d := Fl.kI) (cs1 := [.int .i64 1, .string ⟨#[]⟩, .string ⟨#[]⟩]) rfl (zar (zar k4 e5) e6) (kI 1 _)⟩, rfl⟩⟩
 have hr : Rdy (⟨some ⟨w.heap.size, 0, none⟩, some ⟨g1, 0, none⟩, some ⟨g4, 0, none⟩, 2, 1, 2, ex0, ex1, exP⟩ : FG) 20 exE exF := ⟨by show (2 : Nat) + 1 ≤ 999999; decide, by show (1 : Nat) ≤ ex1.length; decide, by show exP.length ≤ 1000000; decide, ex_ps, ex_e, ex_f⟩
 have hs0 : startV 2 exP exE exF 20 = some exS0 := by unfold startV; rw [show ((2 : Nat) : Int) = 2 from rfl, ex_c, Option.map_some, ex_s]
 have hall := allF_calls _ W6 hK 20 exE exF hr 3 rfl exS0 hs0 (by decide) (some exA) ex_a
 have hfirst := fun W (hb : Below W6.heap.size W6 W) => firstF_calls _ W (hK.below hb) 20 exE exF hr exC ex_c
 have hgt := fun A c W (hb : Below W6.heap.size W6 W) (hC : Kd.C kLr W A exS0.length exS0) => gotoF_calls _ W (hK.below hb) 20 exE exF hr exS0 A c 2 hC (by decide) exR ex_r
 have h6w : Below w.heap.size w W6 := by
  have h2 := e1.trans (e2.mono e1.size)
  have h3 := h2.trans (e3.mono h2.size)
  have h4 := h3.trans (e4.mono h3.size)
  have h5 := h4.trans (e5.mono h4.size)
  exact h5.trans (e6.mono h5.size)
 rw [ex_s] at hfirst
 have c0 : W6.cell? ⟨b5, 0, none⟩ = some (.slice (some ⟨w.heap.size, 0, none⟩) 2 2) := zac k6 0
 have c1 : W6.cell? ⟨b5, 1, none⟩ = some (.slice (some ⟨g1, 0, none⟩) 1 1) := zac k6 1
 have c2 : W6.cell? ⟨b5, 2, none⟩ = some (.slice (some ⟨g4, 0, none⟩) 2 2) := zac k6 2
 have K6 := Lib.hid k6
 simp only [FG.val, FG.row, show ex0.length = 2 from rfl, show ex1.length = 1 from rfl, show exP.length = 2 from rfl] at hall hfirst hgt
 clear hK hr hs0 k1 k2 k3 k4 k5 k6 e1 e2 e3 e4 e5 e6 kI
 go_enter Tryz.func7, Tryz.ntmps7
 go_wp2_with (go_at_call 8; refine hall.mono ?_; rintro e W7 ⟨v7, n7, rfl, rfl, hR7, hB7⟩; obtain ⟨A7, c7, rfl⟩ := Kd.zbt hR7; obtain ⟨_, _, hC7⟩ := Kd.R_reads' hR7; rw [show (some exA).getD [] = exA from rfl, exA_len] at hC7; rw [show (some exA).getD [] = exA from rfl, exA_len]; rw [show errV (some exA) = 0 from rfl])
 rename_i K3 hK3
 obtain ⟨ad7', a0, A70, c70, rfl, ha0, hl70, f70, hC70⟩ := atLs hC7 0 (by decide)
 rw [exA_0] at ha0
 obtain rfl := Option.some.inj ha0
 obtain ⟨ad7, h7⟩ : ∃ a, ad7' = a := ⟨_, rfl⟩
 subst h7
 have f7 : W7.cell? ad7' = some (.slice A70 exS0.length c70) := by simpa [Addr.add] using f70
 obtain ⟨Wd, hWd⟩ : ∃ X, W7.drew = X := ⟨_, rfl⟩
 have hb7d : Below W7.heap.size W7 Wd := by rw [← hWd]; exact zbb (Below.refl _ _)
 have hbd : Below W6.heap.size W6 Wd := hB7.trans (hb7d.mono hB7.size)
 have hHeld : (fun X => X.cell? ⟨b5, 0, none⟩ = some (.slice (some ⟨w.heap.size, 0, none⟩) 2 2) ∧ X.cell? ⟨b5, 1, none⟩ = some (.slice (some ⟨g1, 0, none⟩) 1 1) ∧ X.cell? ⟨b5, 2, none⟩ = some (.slice (some ⟨g4, 0, none⟩) 2 2) ∧ X.cell? ad7' = some (.slice A70 exS0.length c70)) Wd := ⟨zaq hbd c0, zaq hbd c1, zaq hbd c2, zaq hb7d f7⟩
 have hb0 : Below Wd.heap.size Wd Wd := Below.refl _ _
 have hHeldX : (fun X => X.cell? ⟨b5, 0, none⟩ = some (.slice (some ⟨w.heap.size, 0, none⟩) 2 2) ∧ X.cell? ⟨b5, 1, none⟩ = some (.slice (some ⟨g1, 0, none⟩) 1 1) ∧ X.cell? ⟨b5, 2, none⟩ = some (.slice (some ⟨g4, 0, none⟩) 2 2) ∧ X.cell? ad7' = some (.slice A70 exS0.length c70)) W7.drew := by rw [hWd]; exact hHeld
 have keep3 : ∀ X Y : World, Below X.heap.size X Y → (fun X => X.cell? ⟨b5, 0, none⟩ = some (.slice (some ⟨w.heap.size, 0, none⟩) 2 2) ∧ X.cell? ⟨b5, 1, none⟩ = some (.slice (some ⟨g1, 0, none⟩) 1 1) ∧ X.cell? ⟨b5, 2, none⟩ = some (.slice (some ⟨g4, 0, none⟩) 2 2) ∧ X.cell? ad7' = some (.slice A70 exS0.length c70)) X → (fun X => X.cell? ⟨b5, 0, none⟩ = some (.slice (some ⟨w.heap.size, 0, none⟩) 2 2) ∧ X.cell? ⟨b5, 1, none⟩ = some (.slice (some ⟨g1, 0, none⟩) 1 1) ∧ X.cell? ⟨b5, 2, none⟩ = some (.slice (some ⟨g4, 0, none⟩) 2 2) ∧ X.cell? ad7' = some (.slice A70 exS0.length c70)) Y := fun X Y h hh => ⟨zaq h hh.1, zaq h hh.2.1, zaq h hh.2.2.1, zaq h hh.2.2.2⟩
 have hfirst := fun W (hb : Below Wd.heap.size Wd W) => hfirst W (hbd.trans (hb.mono hbd.size))
 have hgoto := fun W (hb : Below Wd.heap.size Wd W) => hgt A70 c70 W (hbd.trans (hb.mono hbd.size)) (Kd.zax (Kd.zax hC70 hb7d) hb)
 refine Ahd.wp_qz (zb0 (S := (fun X => X.cell? ⟨b5, 0, none⟩ = some (.slice (some ⟨w.heap.size, 0, none⟩) 2 2) ∧ X.cell? ⟨b5, 1, none⟩ = some (.slice (some ⟨g1, 0, none⟩) 1 1) ∧ X.cell? ⟨b5, 2, none⟩ = some (.slice (some ⟨g4, 0, none⟩) 2 2) ∧ X.cell? ad7' = some (.slice A70 exS0.length c70))) (ds := []) #[Nf,Nf,Nf,Nf,Nf,Nf,Nf,Nf,Nf,Nf,Nf,Nf,Nf,Nf,Nf,Nf,Nf,Nf,Nf,Nf,Nf,Nf,Nf,Nf,Nf,Nf] (by kernel_rfl) rfl rfl hHeldX (fun h0_ => ?_))
 clear h0_
 rw [hWd]
 refine take_ (i := 0) (N := (some 20)) (v := ?_) (a' := ?_) (Ymk 26 1) rfl rfl (by kernel_rfl) (fun _ _ _ h => h) (Or.inl ⟨by rfl, ?_⟩) hHeld ?_ ?_
 rotate_left
 ·rintro w' ⟨s0, s1, s2, s3⟩
  go_simp
  with_reducible rfl
 rotate_left; · simp only [Act.put, Y1, Y2, Y3]; rfl
 refine pure_ (i := 2) (N := (some 22)) (v := ?_) (a' := ?_) (Ymk 26 5) rfl rfl (by kernel_rfl) (fun _ _ _ h => h) (Or.inl ⟨by rfl, ?_⟩) ?_ ?_
 rotate_left; · intro w'; go_simp; with_reducible rfl
 rotate_left; · simp only [Act.put, Y1, Y2, Y3]; rfl
 refine pure_ (i := 3) (N := (some 23)) (v := ?_) (a' := ?_) (Ymk 26 13) rfl rfl (by kernel_rfl) (fun _ _ _ h => h) (Or.inl ⟨by rfl, ?_⟩) ?_ ?_
 rotate_left; · intro w'; go_simp; with_reducible rfl
 rotate_left; · simp only [Act.put, Y1, Y2, Y3]; rfl
 refine pure_ (i := 4) (N := (some 24)) (v := ?_) (a' := ?_) (Ymk 26 29) rfl rfl (by kernel_rfl) (fun _ _ _ h => h) (Or.inl ⟨by rfl, ?_⟩) ?_ ?_
 rotate_left; · intro w'; go_simp; with_reducible rfl
 rotate_left; · simp only [Act.put, Y1, Y2, Y3]; rfl
 refine join_ (σ := Option Addr × Nat × Nat) 20 #[Yt,Yt,Yt,Yt,Yt,Yt,Nf,Nf,Nf,Nf,Nf,Nf,Nf,Nf,Nf,Nf,Nf,Nf,Nf,Nf,Nf,Nf,Nf,Nf,Nf,Nf] (fun s => [(21, .slice s.1 exS0.length s.2.1), (25, .slice (some ⟨s.2.2, 0, none⟩) 3 3)]) (fun s w' => Below Wd.heap.size Wd w' ∧ Kd.C kLr w' s.1 exS0.length exS0 ∧ exS0.length ≤ s.2.1 ∧ w'.heap[s.2.2]? = some (.cells #[.int .i64 (-1), .int .i64 0, .int .i64 2, .int .i64 0, .int .i64 0, .int .i64 2, .int .i64 1, .int .i64 0, .int .i64 2] 50 (0, 0)) ∧ (fun X => X.cell? ⟨b5, 0, none⟩ = some (.slice (some ⟨w.heap.size, 0, none⟩) 2 2) ∧ X.cell? ⟨b5, 1, none⟩ = some (.slice (some ⟨g1, 0, none⟩) 1 1) ∧ X.cell? ⟨b5, 2, none⟩ = some (.slice (some ⟨g4, 0, none⟩) 2 2) ∧ X.cell? ad7' = some (.slice A70 exS0.length c70)) w') ?_ ?_
 rotate_left
 ·intro hCont
  refine two_ (i := 1) (j := 5) (Ni := (some 21)) (Nj := (some 25)) #[Yt,Yt,Yt,Yt,Yt,Nf,Nf,Nf,Nf,Nf,Nf,Nf,Nf,Nf,Nf,Nf,Nf,Nf,Nf,Nf,Nf,Nf,Nf,Nf,Nf,Nf] #[Yt,Nf,Yt,Yt,Yt,Yt,Nf,Nf,Nf,Nf,Nf,Nf,Nf,Nf,Nf,Nf,Nf,Nf,Nf,Nf,Nf,Nf,Nf,Nf,Nf,Nf] rfl rfl rfl rfl (by kernel_rfl) (by decide) (by decide) (fun K hK => ?_) (fun K hK => ?_)
  ·skip
   refine goes_ Tryz.func13 (by kernel_rfl) rfl #[.agg #[.slice (some ⟨w.heap.size, 0, none⟩) 2 2, .slice (some ⟨g1, 0, none⟩) 1 1, .slice (some ⟨g4, 0, none⟩) 2 2]] (by rfl) rfl rfl (by first | rfl | (simp [Act.eval]; done) | (simp [go_sem]; done)) ?_
   refine (hfirst Wd hb0).mono ?_
   rintro e W8 ⟨v8, rfl, hR8, hB8⟩
   obtain ⟨A8, c8, rfl, hl8, hC8⟩ := Kd.R_reads hR8
   refine ⟨_, rfl, ?_⟩
   have hb8 := hb0.trans (hB8.mono hb0.size)
   have hh8 := keep3 _ _ hB8 hHeld
   refine hK.out _ _ hh8 (fun h0_ => ?_)
   clear hK K h0_
   refine norm_ (a' := ?_) ?_ ?_
   rotate_left
   ·show Act.put _ (some 21) _ = _
    simp only [Act.put, Y1, Y2, Y3]
    rfl
   refine one_ (i := 5) (N := (some 25)) (Ymk 26 63) rfl rfl (by kernel_rfl) (by decide) (fun K hK => ?_)
   refine zb7 (w1 := W8.alloc (.cells #[.int .i64 (-1), .int .i64 0, .int .i64 2, .int .i64 0, .int .i64 0, .int .i64 2, .int .i64 1, .int .i64 0, .int .i64 2] 50)) (v := .slice (some ⟨W8.heap.size, 0, none⟩) 3 3) (by rfl) rfl ?_ ?_
   ·go_simp
   obtain ⟨W9, hW9⟩ : ∃ X, W8.alloc (.cells #[.int .i64 (-1), .int .i64 0, .int .i64 2, .int .i64 0, .int .i64 0, .int .i64 2, .int .i64 1, .int .i64 0, .int .i64 2] 50) = X := ⟨_, rfl⟩
   have bb9 : W9.heap[W8.heap.size]? = some (.cells #[.int .i64 (-1), .int .i64 0, .int .i64 2, .int .i64 0, .int .i64 0, .int .i64 2, .int .i64 1, .int .i64 0, .int .i64 2] 50 (0, 0)) := by rw [← hW9]; exact zbi _ _
   have hB9 : Below W8.heap.size W8 W9 := by rw [← hW9]; exact (Below.refl _ _).alloc (Nat.le_refl _) _
   rw [hW9]
   clear hW9
   have hb9 := hb8.trans (hB9.mono hb8.size)
   have hh9 := keep3 _ _ hB9 hh8
   refine hK.out _ _ hh9 (fun h0_ => ?_)
   clear hK K h0_
   refine norm_ (a' := ?_) ?_ ?_
   rotate_left
   ·show Act.put _ (some 25) _ = _
    simp only [Act.put, Y1, Y2, Y3]
    rfl
   exact norm_ (by first | (simp only [putAll, Act.put, Y1, Y2, Y3]; done) | (simp only [putAll, Act.put, Y1, Y2, Y3]; rfl)) (hCont (A8, c8, W8.heap.size) _ ⟨hb9, Kd.zax hC8 hB9, hl8, bb9, hh9⟩)
  ·skip
   refine zb7 (w1 := Wd.alloc (.cells #[.int .i64 (-1), .int .i64 0, .int .i64 2, .int .i64 0, .int .i64 0, .int .i64 2, .int .i64 1, .int .i64 0, .int .i64 2] 50)) (v := .slice (some ⟨Wd.heap.size, 0, none⟩) 3 3) (by rfl) rfl ?_ ?_
   ·go_simp
   obtain ⟨W9, hW9⟩ : ∃ X, Wd.alloc (.cells #[.int .i64 (-1), .int .i64 0, .int .i64 2, .int .i64 0, .int .i64 0, .int .i64 2, .int .i64 1, .int .i64 0, .int .i64 2] 50) = X := ⟨_, rfl⟩
   have bb9 : W9.heap[Wd.heap.size]? = some (.cells #[.int .i64 (-1), .int .i64 0, .int .i64 2, .int .i64 0, .int .i64 0, .int .i64 2, .int .i64 1, .int .i64 0, .int .i64 2] 50 (0, 0)) := by rw [← hW9]; exact zbi _ _
   have hB9 : Below Wd.heap.size Wd W9 := by rw [← hW9]; exact (Below.refl _ _).alloc (Nat.le_refl _) _
   rw [hW9]
   clear hW9
   have hb9 := hb0.trans (hB9.mono hb0.size)
   have hh9 := keep3 _ _ hB9 hHeld
   refine hK.out _ _ hh9 (fun h0_ => ?_)
   clear hK K h0_
   refine norm_ (a' := ?_) ?_ ?_
   rotate_left
   ·show Act.put _ (some 25) _ = _
    simp only [Act.put, Y1, Y2, Y3]
    rfl
   refine one_ (i := 1) (N := (some 21)) (Ymk 26 63) rfl rfl (by kernel_rfl) (by decide) (fun K hK => ?_)
   refine goes_ Tryz.func13 (by kernel_rfl) rfl #[.agg #[.slice (some ⟨w.heap.size, 0, none⟩) 2 2, .slice (some ⟨g1, 0, none⟩) 1 1, .slice (some ⟨g4, 0, none⟩) 2 2]] (by rfl) rfl rfl (by first | rfl | (simp [Act.eval]; done) | (simp [go_sem]; done)) ?_
   refine (hfirst W9 hb9).mono ?_
   rintro e W8 ⟨v8, rfl, hR8, hB8⟩
   obtain ⟨A8, c8, rfl, hl8, hC8⟩ := Kd.R_reads hR8
   refine ⟨_, rfl, ?_⟩
   have hb8 := hb9.trans (hB8.mono hb9.size)
   have hh8 := keep3 _ _ hB8 hh9
   refine hK.out _ _ hh8 (fun h0_ => ?_)
   clear hK K h0_
   refine norm_ (a' := ?_) ?_ ?_
   rotate_left
   ·show Act.put _ (some 21) _ = _
    simp only [Act.put, Y1, Y2, Y3]
    rfl
   exact norm_ (by first | (simp only [putAll, Act.put, Y1, Y2, Y3]; done) | (simp only [putAll, Act.put, Y1, Y2, Y3]; rfl)) (hCont (A8, c8, Wd.heap.size) _ ⟨hb8, hC8, hl8, zar bb9 hB8, hh8⟩)
 rintro ⟨A8, c8, g9⟩ W10 ⟨hb10, hC8, hl8, hg9, hh10⟩
 refine norm_ (a' := ?_) ?_ ?_
 rotate_left
 ·simp only [putAll, Act.put, Y1, Y2, Y3]
  rfl
 refine one_ (i := 6) (N := (some 26)) (Ymk 26 127) rfl rfl (by kernel_rfl) (by decide) (fun K hK => ?_)
 refine goes_ Tryz.func19 (by kernel_rfl) rfl #[.slice A8 exS0.length c8, .slice (some ⟨g9, 0, none⟩) 3 3] (by rfl) rfl rfl (by first | rfl | (simp [Act.eval]; done) | (simp [go_sem]; done)) ?_
 refine (same_calls A8 c8 (some ⟨g9, 0, none⟩) 3 W10 hC8 hl8 (C_nine hg9)).mono ?_
 rintro e W11 ⟨rfl, hB11⟩
 refine ⟨_, rfl, ?_⟩
 have hb11 := hb10.trans (hB11.mono hb10.size)
 have hh11 := keep3 _ _ hB11 hh10
 refine hK.out _ _ hh11 (fun h0_ => ?_)
 clear hK K h0_
 refine pure_ (i := 7) (N := (some 27)) (v := ?_) (a' := ?_) (Ymk 26 255) rfl rfl (by kernel_rfl) (fun _ _ _ h => h) (Or.inl ⟨by rfl, ?_⟩) ?_ ?_
 rotate_left; · intro w'; go_simp; with_reducible rfl
 rotate_left; · simp only [Act.put, Y1, Y2, Y3]; rfl
 refine pure_ (i := 8) (N := (some 28)) (v := ?_) (a' := ?_) (Ymk 26 511) rfl rfl (by kernel_rfl) (fun _ _ _ h => h) (Or.inl ⟨by rfl, ?_⟩) ?_ ?_
 rotate_left; · intro w'; go_simp; with_reducible rfl
 rotate_left; · simp only [Act.put, Y1, Y2, Y3]; rfl
 refine pure_ (i := 9) (N := (some 29)) (v := ?_) (a' := ?_) (Ymk 26 1023) rfl rfl (by kernel_rfl) (fun _ _ _ h => h) (Or.inl ⟨by rfl, ?_⟩) ?_ ?_
 rotate_left; · intro w'; go_simp; with_reducible rfl
 rotate_left; · simp only [Act.put, Y1, Y2, Y3]; rfl
 refine pure_ (i := 10) (N := (some 30)) (v := ?_) (a' := ?_) (Ymk 26 2047) rfl rfl (by kernel_rfl) (fun _ _ _ h => h) (Or.inl ⟨by rfl, ?_⟩) ?_ ?_
 rotate_left; · intro w'; go_simp; with_reducible rfl
 rotate_left; · simp only [Act.put, Y1, Y2, Y3]; rfl
 refine pure_ (i := 11) (N := (some 31)) (v := ?_) (a' := ?_) (Ymk 26 4095) rfl rfl (by kernel_rfl) (fun _ _ _ h => h) (Or.inl ⟨by rfl, ?_⟩) ?_ ?_
 rotate_left; · intro w'; go_simp; with_reducible rfl
 rotate_left; · simp only [Act.put, Y1, Y2, Y3]; rfl
 refine pure_ (i := 12) (N := (some 32)) (v := ?_) (a' := ?_) (Ymk 26 8191) rfl rfl (by kernel_rfl) (fun _ _ _ h => h) (Or.inl ⟨by rfl, ?_⟩) ?_ ?_
 rotate_left; · intro w'; go_simp; with_reducible rfl
 rotate_left; · simp only [Act.put, Y1, Y2, Y3]; rfl
 refine pure_ (i := 13) (N := (some 33)) (v := ?_) (a' := ?_) (Ymk 26 16383) rfl rfl (by kernel_rfl) (fun _ _ _ h => h) (Or.inl ⟨by rfl, ?_⟩) ?_ ?_
 rotate_left; · intro w'; go_simp; with_reducible rfl
 rotate_left; · simp only [Act.put, Y1, Y2, Y3]; rfl
 refine pure_ (i := 14) (N := (some 34)) (v := ?_) (a' := ?_) (Ymk 26 32767) rfl rfl (by kernel_rfl) (fun _ _ _ h => h) (Or.inl ⟨by rfl, ?_⟩) ?_ ?_
 rotate_left; · intro w'; go_simp; with_reducible rfl
 rotate_left; · simp only [Act.put, Y1, Y2, Y3]; rfl
 refine pure_ (i := 15) (N := (some 35)) (v := ?_) (a' := ?_) (Ymk 26 65535) rfl rfl (by kernel_rfl) (fun _ _ _ h => h) (Or.inl ⟨by rfl, ?_⟩) ?_ ?_
 rotate_left; · intro w'; go_simp; with_reducible rfl
 rotate_left; · simp only [Act.put, Y1, Y2, Y3]; rfl
 refine pure_ (i := 16) (N := (some 36)) (v := ?_) (a' := ?_) (Ymk 26 131071) rfl rfl (by kernel_rfl) (fun _ _ _ h => h) (Or.inl ⟨by rfl, ?_⟩) ?_ ?_
 rotate_left; · intro w'; go_simp; with_reducible rfl
 rotate_left; · simp only [Act.put, Y1, Y2, Y3]; rfl
 refine take_ (i := 17) (N := (some 37)) (v := ?_) (a' := ?_) (Ymk 26 262143) rfl rfl (by kernel_rfl) (fun _ _ _ h => h) (Or.inl ⟨by rfl, ?_⟩) hh11 ?_ ?_
 rotate_left
 ·rintro w' ⟨s0, s1, s2, s3⟩
  go_simp
  with_reducible rfl
 rotate_left; · simp only [Act.put, Y1, Y2, Y3]; rfl
 refine pure_ (i := 18) (N := (some 38)) (v := ?_) (a' := ?_) (Ymk 26 524287) rfl rfl (by kernel_rfl) (fun _ _ _ h => h) (Or.inl ⟨by rfl, ?_⟩) ?_ ?_
 rotate_left; · intro w'; go_simp; with_reducible rfl
 rotate_left; · simp only [Act.put, Y1, Y2, Y3]; rfl
 refine pure_ (i := 19) (N := (some 39)) (v := ?_) (a' := ?_) (Ymk 26 1048575) rfl rfl (by kernel_rfl) (fun _ _ _ h => h) (Or.inl ⟨by rfl, ?_⟩) ?_ ?_
 rotate_left; · intro w'; go_simp; with_reducible rfl
 rotate_left; · simp only [Act.put, Y1, Y2, Y3]; rfl
 refine take_ (i := 20) (N := (some 40)) (v := ?_) (a' := ?_) (Ymk 26 2097151) rfl rfl (by kernel_rfl) (fun _ _ _ h => h) (Or.inl ⟨by rfl, ?_⟩) hh11 ?_ ?_
 rotate_left
 ·rintro w' ⟨s0, s1, s2, s3⟩
  go_simp
  with_reducible rfl
 rotate_left; · simp only [Act.put, Y1, Y2, Y3]; rfl
 refine one_ (i := 21) (N := (some 41)) (Ymk 26 4194303) rfl rfl (by kernel_rfl) (by decide) (fun K hK => ?_)
 refine goes_ Tryz.func14 (by kernel_rfl) rfl #[.agg #[.slice (some ⟨w.heap.size, 0, none⟩) 2 2, .slice (some ⟨g1, 0, none⟩) 1 1, .slice (some ⟨g4, 0, none⟩) 2 2], .slice A70 exS0.length c70, .int .i64 2] (by rfl) rfl rfl (by first | rfl | (simp [Act.eval]; done) | (simp [go_sem]; done)) ?_
 refine (hgoto W11 hb11).mono ?_
 rintro e W12 ⟨v12, rfl, hR12, hB12⟩
 obtain ⟨A12, c12, rfl⟩ := Kd.zbt hR12
 rw [exG_len]
 refine ⟨_, rfl, ?_⟩
 have hb12 := hb11.trans (hB12.mono hb11.size)
 have hh12 := keep3 _ _ hB12 hh11
 refine hK.out _ _ hh12 (fun h0_ => ?_)
 clear hK K h0_
 refine pure_ (i := 22) (N := (some 42)) (v := ?_) (a' := ?_) (Ymk 26 8388607) rfl rfl (by kernel_rfl) (fun _ _ _ h => h) (Or.inl ⟨by rfl, ?_⟩) ?_ ?_
 rotate_left; · intro w'; go_simp; with_reducible rfl
 rotate_left; · simp only [Act.put, Y1, Y2, Y3]; rfl
 refine pure_ (i := 23) (N := (some 43)) (v := ?_) (a' := ?_) (Ymk 26 16777215) rfl rfl (by kernel_rfl) (fun _ _ _ h => h) (Or.inl ⟨by rfl, ?_⟩) ?_ ?_
 rotate_left; · intro w'; go_simp; with_reducible rfl
 rotate_left; · simp only [Act.put, Y1, Y2, Y3]; rfl
 refine pure_ (i := 24) (N := (some 44)) (v := ?_) (a' := ?_) (Ymk 26 33554431) rfl rfl (by kernel_rfl) (fun _ _ _ h => h) (Or.inl ⟨by rfl, ?_⟩) ?_ ?_
 rotate_left; · intro w'; go_simp; with_reducible rfl
 rotate_left; · simp only [Act.put, Y1, Y2, Y3]; rfl
 refine pure_ (i := 25) (N := (some 0)) (v := ?_) (a' := ?_) (Ymk 26 67108863) rfl rfl (by kernel_rfl) (fun _ _ _ h => h) (Or.inl ⟨by rfl, ?_⟩) ?_ ?_
 rotate_left; · intro w'; go_simp; with_reducible rfl
 rotate_left; · simp only [Act.put, Y1, Y2, Y3]; rfl
 refine done_ (by kernel_rfl) ?_
 refine hK3 _ _ ?_
 go_wp2;go_ret
 have h6d := h6w.trans (hbd.mono h6w.size)
 exact ⟨rfl, h6d.trans (hb12.mono h6d.size)⟩
end Go.Proofs.YtgdmjpehofdnpaaGreat.LAwake
end
section
namespace Go.Proofs.YtgdmjpehofdnpaaGreat.PItemPrefixes
open Go.RowKit Go.Proofs.YtgdmjpehofdnpaaGreatW.PrintWords Go.Proofs.YtgdmjpehofdnpaaGreatW.PrintLast Go.Proofs.YtgdmjpehofdnpaaGreatW.PrintMore
attribute [local go_sem] zcb zcc zcj zci zb6 zb4 zcf zce
set_option linter.unusedVariables false
set_option linter.unusedSimpArgs false
def errW : Option Int → Value
 | none => .nilIface
 | some c => .iface 0 (.int .i64 c)
theorem za2 : errW none = .nilIface := rfl
theorem za3 (c : Int) : errW (some c) = .iface 0 (.int .i64 c) := rfl
theorem info3 : (Tryz.prog.info? 3).map (fun i => (i.zero, i.size, i.bytes)) = some (some (.int .i64 0), 1, 8) := by kernel_rfl
theorem info4 : (Tryz.prog.info? 4).map (fun i => (i.zero, i.size, i.bytes)) = some (some (.bool false), 1, 1) := by kernel_rfl
structure S44 where
 f0 : Int
 f1 : ByteArray
 f2 : ByteArray
def z44 : S44 := ⟨(0 : Int), (⟨#[]⟩ : ByteArray), (⟨#[]⟩ : ByteArray)⟩
def k44 : Kd S44 := Kd.iso (Kd.pair (Kd.int .i64) (Kd.pair Kd.string Kd.string)) (fun x : S44 => (x.f0, x.f1, x.f2))
theorem k44_open {w : World} {x : S44} {cs : List Value} (h : k44.K w x cs) : cs = [.int .i64 x.f0, .string x.f1, .string x.f2] := by
 obtain ⟨_, _, rfl, rfl, ⟨_, _, rfl, rfl, rfl⟩⟩ := h
 exact rfl
theorem k44_mkM (w : World) (base : Nat) (ok : Nat → Prop) (x : S44)  : k44.M w base ok x [.int .i64 x.f0, .string x.f1, .string x.f2] := ⟨[.int .i64 x.f0], [.string x.f1, .string x.f2], rfl, rfl, ⟨[.string x.f1], [.string x.f2], rfl, rfl, rfl⟩⟩
def zba (xs : List S44) (i : Int) : S44 := xs.getD i.toNat z44
theorem at_T44 {w : World} {A : Option Addr} {n : Nat} {xs : List S44} (h : Kd.C k44 w A n xs) (i : Int) (h0 : 0 ≤ i) (h1 : i < n) : ∃ ad , A = some ad ∧ w.cell? (ad.add (i.toNat * 3)) = some (.int .i64 (zba xs i).f0) ∧ w.cell? ⟨(ad.add (i.toNat * 3)).block, (ad.add (i.toNat * 3)).off + 1, none⟩ = some (.string (zba xs i).f1) ∧ w.cell? ⟨(ad.add (i.toNat * 3)).block, (ad.add (i.toNat * 3)).off + 2, none⟩ = some (.string (zba xs i).f2) := by
 obtain ⟨ad, c, e, _, hK, hc0⟩ := Kd.C_get h z44 i h0 h1
 have hc : ∀ j u, c[j]? = some u → w.cell? (ad.add (i.toNat * 3 + j)) = some u := hc0
 obtain rfl := k44_open hK
 exact ⟨ad, e, hc 0 _ rfl, by rw [← zbs _ _ 1 (by omega)]; exact hc 1 _ rfl, by rw [← zbs _ _ 2 (by omega)]; exact hc 2 _ rfl⟩
structure S42 where
 f0 : Int
 f1 : (List S44)
 f2 : Int
def z42 : S42 := ⟨(0 : Int), ([] : List S44), (0 : Int)⟩
def k42 : Kd S42 := Kd.iso (Kd.pair (Kd.int .i64) (Kd.pair (Kd.slice 44 k44) (Kd.int .i64))) (fun x : S42 => (x.f0, x.f1, x.f2))
theorem k42_open {w : World} {x : S42} {cs : List Value} (h : k42.K w x cs) : ∃ A1 c1, cs = [.int .i64 x.f0, .slice A1 x.f1.length c1, .int .i64 x.f2] ∧ x.f1.length ≤ c1 ∧ k44.C w A1 x.f1.length x.f1 := by
 obtain ⟨_, _, rfl, rfl, ⟨_, _, rfl, ⟨A1, c1, rfl, l1, g1⟩, rfl⟩⟩ := h
 exact ⟨A1, c1, rfl, l1, g1⟩
theorem k42_mk (w : World) (x : S42) {A1 : Option Addr} {c1 : Nat} (l1 : x.f1.length ≤ c1) (g1 : k44.C w A1 x.f1.length x.f1) : k42.K w x [.int .i64 x.f0, .slice A1 x.f1.length c1, .int .i64 x.f2] := ⟨[.int .i64 x.f0], [.slice A1 x.f1.length c1, .int .i64 x.f2], rfl, rfl, ⟨[.slice A1 x.f1.length c1], [.int .i64 x.f2], rfl, ⟨A1, c1, rfl, l1, g1⟩, rfl⟩⟩
def zae (xs : List S42) (i : Int) : S42 := xs.getD i.toNat z42
theorem at_T42 {w : World} {A : Option Addr} {n : Nat} {xs : List S42} (h : Kd.C k42 w A n xs) (i : Int) (h0 : 0 ≤ i) (h1 : i < n) : ∃ ad A1 c1, A = some ad ∧ w.cell? (ad.add (i.toNat * 3)) = some (.int .i64 (zae xs i).f0) ∧ w.cell? ⟨(ad.add (i.toNat * 3)).block, (ad.add (i.toNat * 3)).off + 1, none⟩ = some (.slice A1 (zae xs i).f1.length c1) ∧ w.cell? ⟨(ad.add (i.toNat * 3)).block, (ad.add (i.toNat * 3)).off + 2, none⟩ = some (.int .i64 (zae xs i).f2) ∧ (zae xs i).f1.length ≤ c1 ∧ k44.C w A1 (zae xs i).f1.length (zae xs i).f1 := by
 obtain ⟨ad, c, e, _, hK, hc0⟩ := Kd.C_get h z42 i h0 h1
 have hc : ∀ j u, c[j]? = some u → w.cell? (ad.add (i.toNat * 3 + j)) = some u := hc0
 obtain ⟨A1, c1, rfl, l1, g1⟩ := k42_open hK
 exact ⟨ad, A1, c1, e, hc 0 _ rfl, by rw [← zbs _ _ 1 (by omega)]; exact hc 1 _ rfl, by rw [← zbs _ _ 2 (by omega)]; exact hc 2 _ rfl, l1, g1⟩
structure S50 where
 f0 : Int
 f1 : Int
 f2 : Int
def z50 : S50 := ⟨(0 : Int), (0 : Int), (0 : Int)⟩
def k50 : Kd S50 := Kd.iso (Kd.pair (Kd.int .i64) (Kd.pair (Kd.int .i64) (Kd.int .i64))) (fun x : S50 => (x.f0, x.f1, x.f2))
theorem k50_open {w : World} {x : S50} {cs : List Value} (h : k50.K w x cs) : cs = [.int .i64 x.f0, .int .i64 x.f1, .int .i64 x.f2] := by
 obtain ⟨_, _, rfl, rfl, ⟨_, _, rfl, rfl, rfl⟩⟩ := h
 exact rfl
def zbj (xs : List S50) (i : Int) : S50 := xs.getD i.toNat z50
theorem at_T50 {w : World} {A : Option Addr} {n : Nat} {xs : List S50} (h : Kd.C k50 w A n xs) (i : Int) (h0 : 0 ≤ i) (h1 : i < n) : ∃ ad , A = some ad ∧ w.cell? (ad.add (i.toNat * 3)) = some (.int .i64 (zbj xs i).f0) ∧ w.cell? ⟨(ad.add (i.toNat * 3)).block, (ad.add (i.toNat * 3)).off + 1, none⟩ = some (.int .i64 (zbj xs i).f1) ∧ w.cell? ⟨(ad.add (i.toNat * 3)).block, (ad.add (i.toNat * 3)).off + 2, none⟩ = some (.int .i64 (zbj xs i).f2) := by
 obtain ⟨ad, c, e, _, hK, hc0⟩ := Kd.C_get h z50 i h0 h1
 have hc : ∀ j u, c[j]? = some u → w.cell? (ad.add (i.toNat * 3 + j)) = some u := hc0
 obtain rfl := k50_open hK
 exact ⟨ad, e, hc 0 _ rfl, by rw [← zbs _ _ 1 (by omega)]; exact hc 1 _ rfl, by rw [← zbs _ _ 2 (by omega)]; exact hc 2 _ rfl⟩
structure S25 where
 f0 : (List ByteArray)
 f1 : (List ByteArray)
 f2 : (List S42)
def z25 : S25 := ⟨([] : List ByteArray), ([] : List ByteArray), ([] : List S42)⟩
end Go.Proofs.YtgdmjpehofdnpaaGreat.PItemPrefixes
end
section
namespace Go.Proofs.YtgdmjpehofdnpaaGreat.PItemPrefixes
open Go.RowKit Go.Proofs.YtgdmjpehofdnpaaGreatW.PrintWords Go.Proofs.YtgdmjpehofdnpaaGreatW.PrintLast Go.Proofs.YtgdmjpehofdnpaaGreatW.PrintMore
attribute [local go_sem] zcb zcc zcj zci zb6 zb4 zcf zce
set_option linter.unusedVariables false
set_option linter.unusedSimpArgs false
theorem eqA50 (d : Nat) (w : World) (x0 y0 : Int) (x1 y1 : Int) (x2 y2 : Int) :
  (Op.equalIn (d + 2) 50 (.agg #[.int .i64 x0, .int .i64 x1, .int .i64 x2]) (.agg #[.int .i64 y0, .int .i64 y1, .int .i64 y2])).run Tryz.prog w = .ok (x0 == y0 && (x1 == y1 && (x2 == y2))) w := by
 refine eqA_of Tryz.underlying50 (by kernel_rfl) ?_
 refine eqf_cons (by rfl) (by go_simp; rfl) (by go_simp; rfl) (by go_simp) ?_
 refine eqf_cons (by rfl) (by go_simp; rfl) (by go_simp; rfl) (by go_simp) ?_
 exact eqf_last (by rfl) (by go_simp; rfl) (by go_simp; rfl) (by go_simp)
end Go.Proofs.YtgdmjpehofdnpaaGreat.PItemPrefixes
end
section
namespace Go.Proofs.YtgdmjpehofdnpaaGreat.PItemPrefixes
open Go.RowKit Go.Proofs.YtgdmjpehofdnpaaGreatW.PrintWords Go.Proofs.YtgdmjpehofdnpaaGreatW.PrintLast Go.Proofs.YtgdmjpehofdnpaaGreatW.PrintMore
attribute [local go_sem] zcb zcc zcj zci zb6 zb4 zcf zce
set_option linter.unusedVariables false
set_option linter.unusedSimpArgs false
def za4.l0 : Nat → Int → Int → List ByteArray → List ByteArray → List (S42) → Option (Bool)
 | 0, _, _, _, _, _ => none
 | k + 1, x3, x4, x102000, x102001, x102002 => if x4 < (x102002.length : Int) then (if x3 ≥ 0 then (if 0 ≤ x4 then (za4.l0 k (wrap64 ((wrap64 (x3 - 1)) - (((zae x102002 x4).f1).length : Int))) (wrap64 (x4 + 1)) x102000 x102001 x102002) else (none)) else (some (decide (x3 ≥ 0)))) else (some (decide (x3 ≥ 0)))
def za4.f (k : Nat) (l0_0 : List ByteArray) (l0_1 : List ByteArray) (l0_2 : List (S42)) : Option (Bool) := za4.l0 k (wrap64 ((wrap64 (20000 - (l0_0.length : Int))) - (l0_1.length : Int))) 0 l0_0 l0_1 l0_2
theorem za4.zbw : ∀ k, (∀ y0 y1 y2 y3 y4, LeO (za4.l0 k y0 y1 y2 y3 y4) (za4.l0 (k + 1) y0 y1 y2 y3 y4))
 | 0 => fun _ _ _ _ _ r h => by simp [za4.l0] at h
 | k + 1 => by
  have ih0 := za4.zbw k
  ·intro y0 y1 y2 y3 y4
   unfold za4.l0
   repeat' first
   | (with_reducible exact ih0 _ _ _ _ _)
   | (with_reducible exact LeO.refl _)
   | (with_reducible exact LeO.none _)
   | (with_reducible refine LeO.ite ?_ ?_)
   | (with_reducible refine LeO.bind ?_ (fun _ => ?_))
   | exact ih0 _ _ _ _ _
   | exact LeO.none _
   | refine LeO.ite ?_ ?_
   | refine LeO.bind ?_ (fun _ => ?_)
theorem za4.mono : ∀ a0 a1 a2 k, LeO (za4.f k a0 a1 a2) (za4.f (k + 1) a0 a1 a2) := by
 intro a0 a1 a2 k
 have ih0 := za4.zbw k
 unfold za4.f
 repeat' first
   | (with_reducible exact ih0 _ _ _ _ _)
   | (with_reducible exact LeO.refl _)
   | (with_reducible exact LeO.none _)
   | (with_reducible refine LeO.ite ?_ ?_)
   | (with_reducible refine LeO.bind ?_ (fun _ => ?_))
   | exact ih0 _ _ _ _ _
   | exact LeO.none _
   | refine LeO.ite ?_ ?_
   | refine LeO.bind ?_ (fun _ => ?_)
set_option maxHeartbeats 8000000 in
set_option maxRecDepth 100000 in
theorem za4.calls (k : Nat) (A0_0 : Option Addr) (c0_0 : Nat) (l0_0 : List ByteArray) (A0_1 : Option Addr) (c0_1 : Nat) (l0_1 : List ByteArray) (A0_2 : Option Addr) (c0_2 : Nat) (l0_2 : List (S42)) (r : Bool) (w : World) (hr0_0 : Kd.C Kd.string w A0_0 l0_0.length l0_0) (hc0_0 : l0_0.length ≤ c0_0) (hr0_1 : Kd.C Kd.string w A0_1 l0_1.length l0_1) (hc0_1 : l0_1.length ≤ c0_1) (hr0_2 : Kd.C k42 w A0_2 l0_2.length l0_2) (hc0_2 : l0_2.length ≤ c0_2) (h : za4.f k l0_0 l0_1 l0_2 = some r) :
  Calls Tryz.prog 24 #[.agg #[.slice A0_0 l0_0.length c0_0, .slice A0_1 l0_1.length c0_1, .slice A0_2 l0_2.length c0_2]] w fun e w' => e = .returned (.bool r) ∧ Below w.heap.size w w' := by
 have hu25 := Tryz.underlying25
 have HR0_0 := zaa.mk hr0_0;have HC0_0 := zaa.mk hc0_0;clear hr0_0 hc0_0;have HR0_1 := zaa.mk hr0_1;have HC0_1 := zaa.mk hc0_1;clear hr0_1 hc0_1;have HR0_2 := zaa.mk hr0_2;have HC0_2 := zaa.mk hc0_2;clear hr0_2 hc0_2
 have HB := zaa.mk (Below.refl w.heap.size w)
 have H : (za4.l0 k (wrap64 ((wrap64 (20000 - (l0_0.length : Int))) - (l0_1.length : Int))) 0 l0_0 l0_1 l0_2) = some r := h
 clear h
 have H' := zaa.mk H
 clear H
 go_enter Tryz.func24, Tryz.ntmps24
 go_wp2_with (first | ((with_reducible refine zbh (N := 1) rfl ?_); refine zbe ?hg (N := 1) ?hd (cs := #[.slice A0_0 l0_0.length c0_0, .slice A0_1 l0_1.length c0_1, .slice A0_2 l0_2.length c0_2]) (t := 25) ?hr ?_; (case hd => rfl); (case hg => rfl); (case hr => first | (go_simp; done) | (go_simp; rfl)); intro gb101 hg w2 hbox hb; have n0_ := zaa.mk (zaw (by repeat (first | (with_reducible first | exact HB.out | apply zah | apply zab | apply zaf) | exact HB.out)) hb); have n1_ := zaa.mk (hbox); have n2_ := zaa.mk ((by rw [hg]; exact (zas (by repeat (first | (with_reducible first | exact HB.out | apply zah | apply zab | apply zaf) | exact HB.out))) : w.heap.size ≤ gb101)); have n3_ := zaa.mk ((by rw [hg]; exact (zas (by repeat (first | (with_reducible first | exact HB.out | apply zah | apply zab | apply zaf) | exact HB.out))) : w.heap.size ≤ gb101)); clear HB; have HB := n0_; have BK101 := n1_; have GW101 := n2_; have GE101 := n3_; clear n0_ n1_ n2_ n3_; clear hb hbox hg; have hcz3_0 : w2.cell? ⟨gb101, 0, none⟩ = some (.slice A0_0 l0_0.length c0_0) := (zac BK101.out 0).trans rfl; have hcz3_1 : w2.cell? ⟨gb101, 1, none⟩ = some (.slice A0_1 l0_1.length c0_1) := (zac BK101.out 1).trans rfl; have hcz3_2 : w2.cell? ⟨gb101, 2, none⟩ = some (.slice A0_2 l0_2.length c0_2) := (zac BK101.out 2).trans rfl; have hfz3_0 := zak BK101.out 0; have hfz3_1 := zak BK101.out 1; have hfz3_2 := zak BK101.out 2))
 go_loopg [3, 4] k (fun kq v3 v4 w' => ∃ (x3_1 : Int) (x4_1 : Int), v3 = .int .i64 x3_1 ∧ v4 = .int .i64 x4_1 ∧ zaa (za4.l0 kq x3_1 x4_1 l0_0 l0_1 l0_2 = some r) ∧ zaa (kq ≤ k) ∧ zaa (w'.heap[gb101]? = some (.cells #[(.slice A0_0 l0_0.length c0_0), (.slice A0_1 l0_1.length c0_1), (.slice A0_2 l0_2.length c0_2)] 25 (0, 0))) ∧ zaa (Below w.heap.size w w'))
 case atStart => exact ⟨(wrap64 ((wrap64 (20000 - (l0_0.length : Int))) - (l0_1.length : Int))), (0), (by first | rfl | (simp; done) | (simp [*]; done)), (by first | rfl | (simp; done) | (simp [*]; done)), H', ⟨Nat.le_refl _⟩, ⟨by (with_reducible repeat (first | refine zam ?_ _ | refine zaj ?_ | refine zai ?_ _)); exact BK101.out⟩, ⟨by repeat (first | (with_reducible first | exact HB.out | apply zah | apply zab | apply zaf | refine zal ?_ GE101.out) | exact HB.out)⟩⟩
 case round =>
  clear H';(try clear c2);(try clear p2);(try clear hcz3_0);(try clear hcz3_1);(try clear hcz3_2);(try clear hfz3_0);(try clear hfz3_1);(try clear hfz3_2)
  obtain ⟨x3_1, x4_1, rfl, rfl, HA, HK1, BK101, HB⟩ := hrel
  cases gk with
  | zero => exact absurd HA.out (by simp [za4.l0])
  | succ k1 =>
   have H := HA.out;clear HA
   simp only [za4.l0] at H
   by_cases c4 : x4_1 < (l0_2.length : Int)
   ·rw [if_pos c4] at H
    have c4b0 : decide (x4_1 < (l0_2.length : Int)) = true := decide_eq_true c4
    clear c4
    by_cases c5 : x3_1 ≥ 0
    ·rw [if_pos c5] at H
     have c5b0 : decide (0 ≤ x3_1) = true := decide_eq_true c5
     clear c5
     by_cases c6 : 0 ≤ x4_1
     ·rw [if_pos c6] at H
      have c6b0 : decide (0 ≤ x4_1) = true := decide_eq_true c6
      clear c6
      have H' := zaa.mk H
      clear H
      have hcz7_0 : wr.cell? ⟨gb101, 0, none⟩ = some (.slice A0_0 l0_0.length c0_0) := (zac BK101.out 0).trans rfl
      have hcz7_1 : wr.cell? ⟨gb101, 1, none⟩ = some (.slice A0_1 l0_1.length c0_1) := (zac BK101.out 1).trans rfl
      have hcz7_2 : wr.cell? ⟨gb101, 2, none⟩ = some (.slice A0_2 l0_2.length c0_2) := (zac BK101.out 2).trans rfl
      have hfz7_0 := zak BK101.out 0
      have hfz7_1 := zak BK101.out 1
      have hfz7_2 := zak BK101.out 2
      have p102 : 0 ≤ (x4_1 : Int) := of_decide_eq_true (by first | (with_reducible assumption) | assumption)
      have q102 : x4_1 < (l0_2.length : Int) := of_decide_eq_true (by first | (with_reducible assumption) | assumption)
      obtain ⟨ad102, A102_1, c102_1, e102, hx102_0, hx102_1, hx102_2, hl102_1, hi102_1⟩ := at_T42 HR0_2.out x4_1 p102 q102
      cases e102
      replace hx102_0 := (HB.out.cell (World.block_lt_of_cell? w _ hx102_0)).trans hx102_0
      replace hx102_1 := (HB.out.cell (World.block_lt_of_cell? w _ hx102_1)).trans hx102_1
      replace hx102_2 := (HB.out.cell (World.block_lt_of_cell? w _ hx102_2)).trans hx102_2
      have HR102_1 := zaa.mk hi102_1;have HC102_1 := zaa.mk hl102_1;clear hi102_1 hl102_1
      replace p102 := eq_true p102
      replace q102 := eq_true q102
      go_wp2
      go_roundg k1
      case measure => have := HK1.out; omega
      case rel => exact ⟨(wrap64 ((wrap64 (x3_1 - 1)) - (((zae l0_2 x4_1).f1).length : Int))), (wrap64 (x4_1 + 1)), (by first | rfl | (simp; done) | (simp [*]; done)), (by first | rfl | (simp; done) | (simp [*]; done)), H', ⟨by have := HK1.out; omega⟩, ⟨by (with_reducible repeat (first | refine zam ?_ _ | refine zaj ?_ | refine zai ?_ _)); exact BK101.out⟩, ⟨by repeat (first | (with_reducible first | exact HB.out | apply zah | apply zab | apply zaf | refine zal ?_ GE101.out) | exact HB.out)⟩⟩
     ·rw [if_neg c6] at H
      exact absurd H (by simp)
    ·rw [if_neg c5] at H
     have c5b0 : decide (0 ≤ x3_1) = false := decide_eq_false c5
     clear c5;obtain rfl := Option.some.inj H
     have hcz8_0 : wr.cell? ⟨gb101, 0, none⟩ = some (.slice A0_0 l0_0.length c0_0) := (zac BK101.out 0).trans rfl
     have hcz8_1 : wr.cell? ⟨gb101, 1, none⟩ = some (.slice A0_1 l0_1.length c0_1) := (zac BK101.out 1).trans rfl
     have hcz8_2 : wr.cell? ⟨gb101, 2, none⟩ = some (.slice A0_2 l0_2.length c0_2) := (zac BK101.out 2).trans rfl
     have hfz8_0 := zak BK101.out 0
     have hfz8_1 := zak BK101.out 1
     have hfz8_2 := zak BK101.out 2
     go_wp2;go_ret
     exact ⟨by first | rfl | (simp [za2, za3] <;> rfl) | (simp [*, za2, za3] <;> rfl), by repeat (first | (with_reducible first | exact HB.out | apply zah | apply zab | apply zaf | refine zal ?_ GE101.out) | exact HB.out)⟩
   ·rw [if_neg c4] at H
    have c4b0 : decide (x4_1 < (l0_2.length : Int)) = false := decide_eq_false c4
    clear c4;obtain rfl := Option.some.inj H
    have hcz9_0 : wr.cell? ⟨gb101, 0, none⟩ = some (.slice A0_0 l0_0.length c0_0) := (zac BK101.out 0).trans rfl
    have hcz9_1 : wr.cell? ⟨gb101, 1, none⟩ = some (.slice A0_1 l0_1.length c0_1) := (zac BK101.out 1).trans rfl
    have hcz9_2 : wr.cell? ⟨gb101, 2, none⟩ = some (.slice A0_2 l0_2.length c0_2) := (zac BK101.out 2).trans rfl
    have hfz9_0 := zak BK101.out 0
    have hfz9_1 := zak BK101.out 1
    have hfz9_2 := zak BK101.out 2
    go_wp2;go_ret
    exact ⟨by first | rfl | (simp [za2, za3] <;> rfl) | (simp [*, za2, za3] <;> rfl), by repeat (first | (with_reducible first | exact HB.out | apply zah | apply zab | apply zaf | refine zal ?_ GE101.out) | exact HB.out)⟩
def zau.l0 : Nat → List ByteArray → Int → Option (Bool)
 | 0, _, _ => none
 | k + 1, x0, x3 => if x3 < (x0.length : Int) then (if 0 ≤ x3 then (if (rdOf ByteArray.empty x0 x3).toList = ([] : List UInt8) then (some false) else (if ((rdOf ByteArray.empty x0 x3).size : Int) > 80 then (some false) else (zau.l0 k x0 (wrap64 (x3 + 1))))) else (none)) else (some true)
def zau.f (k : Nat) (l0 : List ByteArray) : Option (Bool) := zau.l0 k l0 0
theorem zau.zbw : ∀ k, (∀ y0 y1, LeO (zau.l0 k y0 y1) (zau.l0 (k + 1) y0 y1))
 | 0 => fun _ _ r h => by simp [zau.l0] at h
 | k + 1 => by
  have ih0 := zau.zbw k
  ·intro y0 y1
   unfold zau.l0
   repeat' first
   | (with_reducible exact ih0 _ _)
   | (with_reducible exact LeO.refl _)
   | (with_reducible exact LeO.none _)
   | (with_reducible refine LeO.ite ?_ ?_)
   | (with_reducible refine LeO.bind ?_ (fun _ => ?_))
   | exact ih0 _ _
   | exact LeO.none _
   | refine LeO.ite ?_ ?_
   | refine LeO.bind ?_ (fun _ => ?_)
theorem zau.mono : ∀ a0 k, LeO (zau.f k a0) (zau.f (k + 1) a0) := by
 intro a0 k
 have ih0 := zau.zbw k
 unfold zau.f
 repeat' first
   | (with_reducible exact ih0 _ _)
   | (with_reducible exact LeO.refl _)
   | (with_reducible exact LeO.none _)
   | (with_reducible refine LeO.ite ?_ ?_)
   | (with_reducible refine LeO.bind ?_ (fun _ => ?_))
   | exact ih0 _ _
   | exact LeO.none _
   | refine LeO.ite ?_ ?_
   | refine LeO.bind ?_ (fun _ => ?_)
set_option maxHeartbeats 8000000 in
set_option maxRecDepth 100000 in
theorem zau.calls (k : Nat) (A0 : Option Addr) (c0 : Nat) (l0 : List ByteArray) (r : Bool) (w : World) (hr0 : Kd.C Kd.string w A0 l0.length l0) (hc0 : l0.length ≤ c0) (h : zau.f k l0 = some r) :
  Calls Tryz.prog 42 #[.slice A0 l0.length c0] w fun e w' => e = .returned (.bool r) ∧ za8 w w' := by
 have HR0 := zaa.mk hr0;have HC0 := zaa.mk hc0;clear hr0 hc0
 have H : (zau.l0 k l0 0) = some r := h
 clear h
 have H' := zaa.mk H
 clear H
 go_enter Tryz.func42, Tryz.ntmps42
 go_wp2
 go_loopg [3] k (fun kq v3 w' => ∃ (x3_1 : Int), v3 = .int .i64 x3_1 ∧ zaa (zau.l0 kq l0 x3_1 = some r) ∧ zaa (kq ≤ k) ∧ za8 w w')
 case atStart => exact ⟨(0), (by first | rfl | (simp; done) | (simp [*]; done)), H', ⟨Nat.le_refl _⟩, by repeat (first | exact za8.refl _ | apply za8.step)⟩
 case round =>
  clear H'
  obtain ⟨x3_1, rfl, HA, HK1, ⟨m1, rfl⟩⟩ := hrel
  cases gk with
  | zero => exact absurd HA.out (by simp [zau.l0])
  | succ k1 =>
   have H := HA.out;clear HA
   simp only [zau.l0] at H
   by_cases c2 : x3_1 < (l0.length : Int)
   ·rw [if_pos c2] at H
    have c2b0 : decide (x3_1 < (l0.length : Int)) = true := decide_eq_true c2
    clear c2
    by_cases c3 : 0 ≤ x3_1
    ·rw [if_pos c3] at H
     have c3b0 : decide (0 ≤ x3_1) = true := decide_eq_true c3
     clear c3
     by_cases c4 : (rdOf ByteArray.empty l0 x3_1).toList = ([] : List UInt8)
     ·rw [if_pos c4] at H
      have c4b0 : ((rdOf ByteArray.empty l0 x3_1).toList == ([] : List UInt8)) = true := beq_iff_eq.mpr c4
      have c4b1 : ((rdOf ByteArray.empty l0 x3_1).toList != ([] : List UInt8)) = false := bne_eq_false_iff_eq.mpr c4
      clear c4;obtain rfl := Option.some.inj H
      have p103 : 0 ≤ (x3_1 : Int) := of_decide_eq_true (by first | (with_reducible assumption) | assumption)
      have q103 : x3_1 < (l0.length : Int) := of_decide_eq_true (by first | (with_reducible assumption) | assumption)
      obtain ⟨ad103, e103, hx103_0⟩ := Kd.at_string HR0.out x3_1 p103 q103
      cases e103
      replace p103 := eq_true p103
      replace q103 := eq_true q103
      go_wp2;go_ret
      exact ⟨by first | rfl | (simp; done) | (simp [*]; done), by repeat (first | exact za8.refl _ | apply za8.step)⟩
     ·rw [if_neg c4] at H
      have c4b0 : ((rdOf ByteArray.empty l0 x3_1).toList == ([] : List UInt8)) = false := beq_eq_false_iff_ne.mpr c4
      have c4b1 : ((rdOf ByteArray.empty l0 x3_1).toList != ([] : List UInt8)) = true := bne_iff_ne.mpr c4
      by_cases c5 : ((rdOf ByteArray.empty l0 x3_1).size : Int) > 80
      ·rw [if_pos c5] at H
       have c5b0 : decide (80 < ((rdOf ByteArray.empty l0 x3_1).size : Int)) = true := decide_eq_true c5
       have c5b1 : decide (80 < (rdOf ByteArray.empty l0 x3_1).size) = true := decide_eq_true (by omega)
       clear c5;obtain rfl := Option.some.inj H
       have p103 : 0 ≤ (x3_1 : Int) := of_decide_eq_true (by first | (with_reducible assumption) | assumption)
       have q103 : x3_1 < (l0.length : Int) := of_decide_eq_true (by first | (with_reducible assumption) | assumption)
       obtain ⟨ad103, e103, hx103_0⟩ := Kd.at_string HR0.out x3_1 p103 q103
       cases e103
       replace p103 := eq_true p103
       replace q103 := eq_true q103
       have p104 : 0 ≤ (x3_1 : Int) := of_decide_eq_true (by first | (with_reducible assumption) | assumption)
       have q104 : x3_1 < (l0.length : Int) := of_decide_eq_true (by first | (with_reducible assumption) | assumption)
       obtain ⟨ad104, e104, hx104_0⟩ := Kd.at_string HR0.out x3_1 p104 q104
       obtain rfl : ad103 = ad104 := (by injection e104)
       replace p104 := eq_true p104
       replace q104 := eq_true q104
       go_wp2;go_ret
       exact ⟨by first | rfl | (simp; done) | (simp [*]; done), by repeat (first | exact za8.refl _ | apply za8.step)⟩
      ·rw [if_neg c5] at H
       have c5b0 : decide (80 < ((rdOf ByteArray.empty l0 x3_1).size : Int)) = false := decide_eq_false c5
       have c5b1 : decide (80 < (rdOf ByteArray.empty l0 x3_1).size) = false := decide_eq_false (by omega)
       clear c5
       have H' := zaa.mk H
       clear H
       have p103 : 0 ≤ (x3_1 : Int) := of_decide_eq_true (by first | (with_reducible assumption) | assumption)
       have q103 : x3_1 < (l0.length : Int) := of_decide_eq_true (by first | (with_reducible assumption) | assumption)
       obtain ⟨ad103, e103, hx103_0⟩ := Kd.at_string HR0.out x3_1 p103 q103
       cases e103
       replace p103 := eq_true p103
       replace q103 := eq_true q103
       have p104 : 0 ≤ (x3_1 : Int) := of_decide_eq_true (by first | (with_reducible assumption) | assumption)
       have q104 : x3_1 < (l0.length : Int) := of_decide_eq_true (by first | (with_reducible assumption) | assumption)
       obtain ⟨ad104, e104, hx104_0⟩ := Kd.at_string HR0.out x3_1 p104 q104
       obtain rfl : ad103 = ad104 := (by injection e104)
       replace p104 := eq_true p104
       replace q104 := eq_true q104
       go_wp2
       go_roundg k1
       case measure => have := HK1.out; omega
       case rel => exact ⟨(wrap64 (x3_1 + 1)), (by first | rfl | (simp; done) | (simp [*]; done)), H', ⟨by have := HK1.out; omega⟩, by repeat (first | exact za8.refl _ | apply za8.step)⟩
    ·rw [if_neg c3] at H
     exact absurd H (by simp)
   ·rw [if_neg c2] at H
    have c2b0 : decide (x3_1 < (l0.length : Int)) = false := decide_eq_false c2
    clear c2;obtain rfl := Option.some.inj H;go_wp2;go_ret
    exact ⟨by first | rfl | (simp; done) | (simp [*]; done), by repeat (first | exact za8.refl _ | apply za8.step)⟩
def zby.f (a0 : Int) : Option (Bool) := if a0 ≥ 97 then (if a0 ≤ 122 then (some true) else (if a0 ≥ 65 then (if a0 ≤ 90 then (some true) else (some (a0 == 95))) else (some (a0 == 95)))) else (if a0 ≥ 65 then (if a0 ≤ 90 then (some true) else (some (a0 == 95))) else (some (a0 == 95)))
set_option maxHeartbeats 8000000 in
set_option maxRecDepth 100000 in
theorem zby.calls (a0 : Int) (r : Bool) (w : World) (h : zby.f a0 = some r) :
  Calls Tryz.prog 66 #[.int .u8 a0] w fun e w' => e = .returned (.bool r) ∧ za8 w w' := by
 have H : (if a0 ≥ 97 then (if a0 ≤ 122 then (some true) else (if a0 ≥ 65 then (if a0 ≤ 90 then (some true) else (some (a0 == 95))) else (some (a0 == 95)))) else (if a0 ≥ 65 then (if a0 ≤ 90 then (some true) else (some (a0 == 95))) else (some (a0 == 95)))) = some r := h
 clear h
 by_cases c2 : a0 ≥ 97
 ·rw [if_pos c2] at H
  have c2b0 : decide (97 ≤ a0) = true := decide_eq_true c2
  clear c2
  by_cases c3 : a0 ≤ 122
  ·rw [if_pos c3] at H
   have c3b0 : decide (a0 ≤ 122) = true := decide_eq_true c3
   clear c3;obtain rfl := Option.some.inj H
   go_enter Tryz.func66, Tryz.ntmps66
   go_wp2;go_ret
   exact ⟨by first | rfl | (simp; done) | (simp [*]; done), by repeat (first | exact za8.refl _ | apply za8.step)⟩
  ·rw [if_neg c3] at H
   have c3b0 : decide (a0 ≤ 122) = false := decide_eq_false c3
   clear c3
   by_cases c4 : a0 ≥ 65
   ·rw [if_pos c4] at H
    have c4b0 : decide (65 ≤ a0) = true := decide_eq_true c4
    clear c4
    by_cases c5 : a0 ≤ 90
    ·rw [if_pos c5] at H
     have c5b0 : decide (a0 ≤ 90) = true := decide_eq_true c5
     clear c5;obtain rfl := Option.some.inj H
     go_enter Tryz.func66, Tryz.ntmps66
     go_wp2;go_ret
     exact ⟨by first | rfl | (simp; done) | (simp [*]; done), by repeat (first | exact za8.refl _ | apply za8.step)⟩
    ·rw [if_neg c5] at H
     have c5b0 : decide (a0 ≤ 90) = false := decide_eq_false c5
     clear c5;obtain rfl := Option.some.inj H
     go_enter Tryz.func66, Tryz.ntmps66
     go_wp2;go_ret
     exact ⟨by first | rfl | (simp; done) | (simp [*]; done), by repeat (first | exact za8.refl _ | apply za8.step)⟩
   ·rw [if_neg c4] at H
    have c4b0 : decide (65 ≤ a0) = false := decide_eq_false c4
    clear c4;obtain rfl := Option.some.inj H
    go_enter Tryz.func66, Tryz.ntmps66
    go_wp2;go_ret
    exact ⟨by first | rfl | (simp; done) | (simp [*]; done), by repeat (first | exact za8.refl _ | apply za8.step)⟩
 ·rw [if_neg c2] at H
  have c2b0 : decide (97 ≤ a0) = false := decide_eq_false c2
  clear c2
  by_cases c6 : a0 ≥ 65
  ·rw [if_pos c6] at H
   have c6b0 : decide (65 ≤ a0) = true := decide_eq_true c6
   clear c6
   by_cases c7 : a0 ≤ 90
   ·rw [if_pos c7] at H
    have c7b0 : decide (a0 ≤ 90) = true := decide_eq_true c7
    clear c7;obtain rfl := Option.some.inj H
    go_enter Tryz.func66, Tryz.ntmps66
    go_wp2;go_ret
    exact ⟨by first | rfl | (simp; done) | (simp [*]; done), by repeat (first | exact za8.refl _ | apply za8.step)⟩
   ·rw [if_neg c7] at H
    have c7b0 : decide (a0 ≤ 90) = false := decide_eq_false c7
    clear c7;obtain rfl := Option.some.inj H
    go_enter Tryz.func66, Tryz.ntmps66
    go_wp2;go_ret
    exact ⟨by first | rfl | (simp; done) | (simp [*]; done), by repeat (first | exact za8.refl _ | apply za8.step)⟩
  ·rw [if_neg c6] at H
   have c6b0 : decide (65 ≤ a0) = false := decide_eq_false c6
   clear c6;obtain rfl := Option.some.inj H
   go_enter Tryz.func66, Tryz.ntmps66
   go_wp2;go_ret
   exact ⟨by first | rfl | (simp; done) | (simp [*]; done), by repeat (first | exact za8.refl _ | apply za8.step)⟩
def zbz.f (a0 : Int) : Option (Bool) := if a0 ≥ 48 then (some (decide (a0 ≤ 57))) else (some false)
set_option maxHeartbeats 8000000 in
set_option maxRecDepth 100000 in
theorem zbz.calls (a0 : Int) (r : Bool) (w : World) (h : zbz.f a0 = some r) :
  Calls Tryz.prog 67 #[.int .u8 a0] w fun e w' => e = .returned (.bool r) ∧ za8 w w' := by
 have H : (if a0 ≥ 48 then (some (decide (a0 ≤ 57))) else (some false)) = some r := h
 clear h
 by_cases c2 : a0 ≥ 48
 ·rw [if_pos c2] at H
  have c2b0 : decide (48 ≤ a0) = true := decide_eq_true c2
  clear c2;obtain rfl := Option.some.inj H
  go_enter Tryz.func67, Tryz.ntmps67
  go_wp2;go_ret
  exact ⟨by first | rfl | (simp; done) | (simp [*]; done), by repeat (first | exact za8.refl _ | apply za8.step)⟩
 ·rw [if_neg c2] at H
  have c2b0 : decide (48 ≤ a0) = false := decide_eq_false c2
  clear c2;obtain rfl := Option.some.inj H
  go_enter Tryz.func67, Tryz.ntmps67
  go_wp2;go_ret
  exact ⟨by first | rfl | (simp; done) | (simp [*]; done), by repeat (first | exact za8.refl _ | apply za8.step)⟩
def zaz.l0 : Nat → ByteArray → Int → Option (Bool)
 | 0, _, _ => none
 | k + 1, x0, x3 => if x3 < (x0.size : Int) then (if 0 ≤ x3 then ((zby.f (bt x0 x3)).bind fun t105 => (if t105 = true then (zaz.l0 k x0 (wrap64 (x3 + 1))) else (if x3 = 0 then (some false) else ((zbz.f (bt x0 x3)).bind fun t106 => (if t106 = true then (zaz.l0 k x0 (wrap64 (x3 + 1))) else (some false)))))) else (none)) else (if x0.toList = ([] : List UInt8) then (some false) else (some (decide ((x0.size : Int) ≤ 32))))
def zaz.f (k : Nat) (a0 : ByteArray) : Option (Bool) := zaz.l0 k a0 0
theorem zaz.zbw : ∀ k, (∀ y0 y1, LeO (zaz.l0 k y0 y1) (zaz.l0 (k + 1) y0 y1))
 | 0 => fun _ _ r h => by simp [zaz.l0] at h
 | k + 1 => by
  have ih0 := zaz.zbw k
  ·intro y0 y1
   unfold zaz.l0
   repeat' first
   | (with_reducible exact ih0 _ _)
   | (with_reducible exact LeO.refl _)
   | (with_reducible exact LeO.none _)
   | (with_reducible refine LeO.ite ?_ ?_)
   | (with_reducible refine LeO.bind ?_ (fun _ => ?_))
   | exact ih0 _ _
   | exact LeO.none _
   | refine LeO.ite ?_ ?_
   | refine LeO.bind ?_ (fun _ => ?_)
theorem zaz.mono : ∀ a0 k, LeO (zaz.f k a0) (zaz.f (k + 1) a0) := by
 intro a0 k
 have ih0 := zaz.zbw k
 unfold zaz.f
 repeat' first
   | (with_reducible exact ih0 _ _)
   | (with_reducible exact LeO.refl _)
   | (with_reducible exact LeO.none _)
   | (with_reducible refine LeO.ite ?_ ?_)
   | (with_reducible refine LeO.bind ?_ (fun _ => ?_))
   | exact ih0 _ _
   | exact LeO.none _
   | refine LeO.ite ?_ ?_
   | refine LeO.bind ?_ (fun _ => ?_)
set_option maxHeartbeats 8000000 in
set_option maxRecDepth 100000 in
theorem zaz.calls (k : Nat) (a0 : ByteArray) (r : Bool) (w : World) (h : zaz.f k a0 = some r) :
  Calls Tryz.prog 55 #[.string a0] w fun e w' => e = .returned (.bool r) ∧ za8 w w' := by
 have H : (zaz.l0 k a0 0) = some r := h
 clear h
 have H' := zaa.mk H
 clear H
 go_enter Tryz.func55, Tryz.ntmps55
 go_wp2
 go_loopg [3] k (fun kq v3 w' => ∃ (x3_1 : Int), v3 = .int .i64 x3_1 ∧ zaa (zaz.l0 kq a0 x3_1 = some r) ∧ zaa (kq ≤ k) ∧ za8 w w')
 case atStart => exact ⟨(0), (by first | rfl | (simp; done) | (simp [*]; done)), H', ⟨Nat.le_refl _⟩, by repeat (first | exact za8.refl _ | apply za8.step)⟩
 case round =>
  clear H'
  obtain ⟨x3_1, rfl, HA, HK1, ⟨m1, rfl⟩⟩ := hrel
  cases gk with
  | zero => exact absurd HA.out (by simp [zaz.l0])
  | succ k1 =>
   have H := HA.out;clear HA
   simp only [zaz.l0] at H
   by_cases c2 : x3_1 < (a0.size : Int)
   ·rw [if_pos c2] at H
    have c2b0 : decide (x3_1 < (a0.size : Int)) = true := decide_eq_true c2
    clear c2
    by_cases c3 : 0 ≤ x3_1
    ·rw [if_pos c3] at H
     have c3b0 : decide (0 ≤ x3_1) = true := decide_eq_true c3
     clear c3;replace H := Option.bind_eq_some_iff.mp H
     obtain ⟨t105, A50, H⟩ := H
     replace H : (if t105 = true then (zaz.l0 k1 a0 (wrap64 (x3_1 + 1))) else (if x3_1 = 0 then (some false) else ((zbz.f (bt a0 x3_1)).bind fun t106 => (if t106 = true then (zaz.l0 k1 a0 (wrap64 (x3_1 + 1))) else (some false))))) = some r := H
     have A5 := zaa.mk A50;clear A50
     by_cases c6 : t105 = true
     ·subst c6
      have H1 : (zaz.l0 k1 a0 (wrap64 (x3_1 + 1))) = some r := by rw [if_pos rfl] at H; exact H
      clear H;have H := H1;clear H1
      have H' := zaa.mk H
      clear H
      have p4 : 0 ≤ (x3_1 : Int) := of_decide_eq_true (by first | (with_reducible assumption) | assumption)
      have q4 : x3_1 < (a0.size : Int) := of_decide_eq_true (by first | (with_reducible assumption) | assumption)
      have hx4 := bt_at a0 x3_1
      replace p4 := eq_true p4
      replace q4 := eq_true q4
      go_wp2_with (first | ((with_reducible refine zbo (f := 66) rfl ?_); refine zb9 (some 13) rfl rfl Tryz.func66 (by kernel_rfl) rfl #[.int .u8 (bt a0 x3_1)] rfl (by (try simp only [List.map_toArray, List.map_cons, List.map_nil]); first | done | rfl | (simp only [List.length_drop, List.length_take]; rfl)) ?_; (with_reducible refine (zby.calls (bt a0 x3_1) true _ A5.out).mono ?_); rintro e w' ⟨rfl, ⟨nd, rfl⟩⟩; refine ⟨_, rfl, ?_⟩))
      go_roundg k1
      case measure => have := HK1.out; omega
      case rel => exact ⟨(wrap64 (x3_1 + 1)), (by first | rfl | (simp; done) | (simp [*]; done)), H', ⟨by have := HK1.out; omega⟩, by repeat (first | exact za8.refl _ | apply za8.step)⟩
     ·replace c6 := Bool.eq_false_iff.mpr c6
      subst c6
      have H1 : (if x3_1 = 0 then (some false) else ((zbz.f (bt a0 x3_1)).bind fun t106 => (if t106 = true then (zaz.l0 k1 a0 (wrap64 (x3_1 + 1))) else (some false)))) = some r := by rw [if_neg (show ¬ (false = true) by decide)] at H; exact H
      clear H;have H := H1;clear H1
      by_cases c7 : x3_1 = 0
      ·rw [if_pos c7] at H
       have c7b0 : (x3_1 == 0) = true := beq_iff_eq.mpr c7
       have c7b1 : (x3_1 != 0) = false := bne_eq_false_iff_eq.mpr c7
       clear c7;obtain rfl := Option.some.inj H
       have p4 : 0 ≤ (x3_1 : Int) := of_decide_eq_true (by first | (with_reducible assumption) | assumption)
       have q4 : x3_1 < (a0.size : Int) := of_decide_eq_true (by first | (with_reducible assumption) | assumption)
       have hx4 := bt_at a0 x3_1
       replace p4 := eq_true p4
       replace q4 := eq_true q4
       go_wp2_with (first | ((with_reducible refine zbo (f := 66) rfl ?_); refine zb9 (some 13) rfl rfl Tryz.func66 (by kernel_rfl) rfl #[.int .u8 (bt a0 x3_1)] rfl (by (try simp only [List.map_toArray, List.map_cons, List.map_nil]); first | done | rfl | (simp only [List.length_drop, List.length_take]; rfl)) ?_; (with_reducible refine (zby.calls (bt a0 x3_1) false _ A5.out).mono ?_); rintro e w' ⟨rfl, ⟨nd, rfl⟩⟩; refine ⟨_, rfl, ?_⟩))
       go_ret
       exact ⟨by first | rfl | (simp; done) | (simp [*]; done), by repeat (first | exact za8.refl _ | apply za8.step)⟩
      ·rw [if_neg c7] at H
       have c7b0 : (x3_1 == 0) = false := beq_eq_false_iff_ne.mpr c7
       have c7b1 : (x3_1 != 0) = true := bne_iff_ne.mpr c7
       replace H := Option.bind_eq_some_iff.mp H
       obtain ⟨t106, A90, H⟩ := H
       replace H : (if t106 = true then (zaz.l0 k1 a0 (wrap64 (x3_1 + 1))) else (some false)) = some r := H
       have A9 := zaa.mk A90;clear A90
       by_cases c10 : t106 = true
       ·subst c10
        have H1 : (zaz.l0 k1 a0 (wrap64 (x3_1 + 1))) = some r := by rw [if_pos rfl] at H; exact H
        clear H;have H := H1;clear H1
        have H' := zaa.mk H
        clear H
        have p4 : 0 ≤ (x3_1 : Int) := of_decide_eq_true (by first | (with_reducible assumption) | assumption)
        have q4 : x3_1 < (a0.size : Int) := of_decide_eq_true (by first | (with_reducible assumption) | assumption)
        have hx4 := bt_at a0 x3_1
        replace p4 := eq_true p4
        replace q4 := eq_true q4
        go_wp2_with (first | ((with_reducible refine zbo (f := 66) rfl ?_); refine zb9 (some 13) rfl rfl Tryz.func66 (by kernel_rfl) rfl #[.int .u8 (bt a0 x3_1)] rfl (by (try simp only [List.map_toArray, List.map_cons, List.map_nil]); first | done | rfl | (simp only [List.length_drop, List.length_take]; rfl)) ?_; (with_reducible refine (zby.calls (bt a0 x3_1) false _ A5.out).mono ?_); rintro e w' ⟨rfl, ⟨nd, rfl⟩⟩; refine ⟨_, rfl, ?_⟩; have p8 : 0 ≤ (x3_1 : Int) := of_decide_eq_true (by first | (with_reducible assumption) | assumption); have q8 : x3_1 < (a0.size : Int) := of_decide_eq_true (by first | (with_reducible assumption) | assumption); have hx8 := bt_at a0 x3_1; replace p8 := eq_true p8; replace q8 := eq_true q8) | (go_at_call 67; (with_reducible refine (zbz.calls (bt a0 x3_1) true _ A9.out).mono ?_); rintro e w' ⟨rfl, ⟨nd, rfl⟩⟩))
        go_roundg k1
        case measure => have := HK1.out; omega
        case rel => exact ⟨(wrap64 (x3_1 + 1)), (by first | rfl | (simp; done) | (simp [*]; done)), H', ⟨by have := HK1.out; omega⟩, by repeat (first | exact za8.refl _ | apply za8.step)⟩
       ·replace c10 := Bool.eq_false_iff.mpr c10
        subst c10
        have H1 : (some false) = some r := by rw [if_neg (show ¬ (false = true) by decide)] at H; exact H
        clear H;have H := H1;clear H1;obtain rfl := Option.some.inj H
        have p4 : 0 ≤ (x3_1 : Int) := of_decide_eq_true (by first | (with_reducible assumption) | assumption)
        have q4 : x3_1 < (a0.size : Int) := of_decide_eq_true (by first | (with_reducible assumption) | assumption)
        have hx4 := bt_at a0 x3_1
        replace p4 := eq_true p4
        replace q4 := eq_true q4
        go_wp2_with (first | ((with_reducible refine zbo (f := 66) rfl ?_); refine zb9 (some 13) rfl rfl Tryz.func66 (by kernel_rfl) rfl #[.int .u8 (bt a0 x3_1)] rfl (by (try simp only [List.map_toArray, List.map_cons, List.map_nil]); first | done | rfl | (simp only [List.length_drop, List.length_take]; rfl)) ?_; (with_reducible refine (zby.calls (bt a0 x3_1) false _ A5.out).mono ?_); rintro e w' ⟨rfl, ⟨nd, rfl⟩⟩; refine ⟨_, rfl, ?_⟩; have p8 : 0 ≤ (x3_1 : Int) := of_decide_eq_true (by first | (with_reducible assumption) | assumption); have q8 : x3_1 < (a0.size : Int) := of_decide_eq_true (by first | (with_reducible assumption) | assumption); have hx8 := bt_at a0 x3_1; replace p8 := eq_true p8; replace q8 := eq_true q8) | (go_at_call 67; (with_reducible refine (zbz.calls (bt a0 x3_1) false _ A9.out).mono ?_); rintro e w' ⟨rfl, ⟨nd, rfl⟩⟩))
        go_ret
        exact ⟨by first | rfl | (simp; done) | (simp [*]; done), by repeat (first | exact za8.refl _ | apply za8.step)⟩
    ·rw [if_neg c3] at H
     exact absurd H (by simp)
   ·rw [if_neg c2] at H
    have c2b0 : decide (x3_1 < (a0.size : Int)) = false := decide_eq_false c2
    clear c2
    by_cases c11 : a0.toList = ([] : List UInt8)
    ·rw [if_pos c11] at H
     have c11b0 : (a0.toList == ([] : List UInt8)) = true := beq_iff_eq.mpr c11
     have c11b1 : (a0.toList != ([] : List UInt8)) = false := bne_eq_false_iff_eq.mpr c11
     clear c11;obtain rfl := Option.some.inj H;go_wp2;go_ret
     exact ⟨by first | rfl | (simp; done) | (simp [*]; done), by repeat (first | exact za8.refl _ | apply za8.step)⟩
    ·rw [if_neg c11] at H
     have c11b0 : (a0.toList == ([] : List UInt8)) = false := beq_eq_false_iff_ne.mpr c11
     have c11b1 : (a0.toList != ([] : List UInt8)) = true := bne_iff_ne.mpr c11
     obtain rfl := Option.some.inj H;go_wp2;go_ret
     exact ⟨by first | rfl | (simp; done) | (simp [*]; done), by repeat (first | exact za8.refl _ | apply za8.step)⟩
def za1.f (k : Nat) (a0 : ByteArray) : Option (Bool) := if a0.toList = ([] : List UInt8) then (some true) else ((zaz.f k a0).bind fun t107 => (some t107))
theorem za1.mono : ∀ a0 k, LeO (za1.f k a0) (za1.f (k + 1) a0) := by
 intro a0 k
 unfold za1.f
 repeat' first
   | (with_reducible exact zaz.mono _ _)
   | (with_reducible exact LeO.refl _)
   | (with_reducible exact LeO.none _)
   | (with_reducible refine LeO.ite ?_ ?_)
   | (with_reducible refine LeO.bind ?_ (fun _ => ?_))
   | exact zaz.mono _ _
   | exact LeO.none _
   | refine LeO.ite ?_ ?_
   | refine LeO.bind ?_ (fun _ => ?_)
set_option maxHeartbeats 8000000 in
set_option maxRecDepth 100000 in
theorem za1.calls (k : Nat) (a0 : ByteArray) (r : Bool) (w : World) (h : za1.f k a0 = some r) :
  Calls Tryz.prog 43 #[.string a0] w fun e w' => e = .returned (.bool r) ∧ za8 w w' := by
 have H : (if a0.toList = ([] : List UInt8) then (some true) else ((zaz.f k a0).bind fun t107 => (some t107))) = some r := h
 clear h
 by_cases c2 : a0.toList = ([] : List UInt8)
 ·rw [if_pos c2] at H
  have c2b0 : (a0.toList == ([] : List UInt8)) = true := beq_iff_eq.mpr c2
  have c2b1 : (a0.toList != ([] : List UInt8)) = false := bne_eq_false_iff_eq.mpr c2
  clear c2;obtain rfl := Option.some.inj H
  go_enter Tryz.func43, Tryz.ntmps43
  go_wp2;go_ret
  exact ⟨by first | rfl | (simp; done) | (simp [*]; done), by repeat (first | exact za8.refl _ | apply za8.step)⟩
 ·rw [if_neg c2] at H
  have c2b0 : (a0.toList == ([] : List UInt8)) = false := beq_eq_false_iff_ne.mpr c2
  have c2b1 : (a0.toList != ([] : List UInt8)) = true := bne_iff_ne.mpr c2
  replace H := Option.bind_eq_some_iff.mp H
  obtain ⟨t107, A30, H⟩ := H
  replace H : (some t107) = some r := H
  have A3 := zaa.mk A30;clear A30;obtain rfl := Option.some.inj H
  go_enter Tryz.func43, Tryz.ntmps43
  go_wp2_with (first | (go_at_call 55; (with_reducible refine (zaz.calls k a0 t107 _ A3.out).mono ?_); rintro e w' ⟨rfl, ⟨nd, rfl⟩⟩))
  go_ret
  exact ⟨by first | rfl | (simp; done) | (simp [*]; done), by repeat (first | exact za8.refl _ | apply za8.step)⟩
end Go.Proofs.YtgdmjpehofdnpaaGreat.PItemPrefixes
end
section
namespace Go.Proofs.YtgdmjpehofdnpaaGreat.PItemPrefixes
open Go.RowKit Go.Proofs.YtgdmjpehofdnpaaGreatW.PrintWords Go.Proofs.YtgdmjpehofdnpaaGreatW.PrintLast Go.Proofs.YtgdmjpehofdnpaaGreatW.PrintMore
attribute [local go_sem] zcb zcc zcj zci zb6 zb4 zcf zce
set_option linter.unusedVariables false
set_option linter.unusedSimpArgs false
mutual
def zan.j0 : Nat → Int → Bool → List ByteArray → List ByteArray → List (S42) → Option (Bool)
 | 0, _, _, _, _, _ => none
 | k + 1, x3, x40, x109000, x109001, x109002 => if x40 = true then (some false) else (zan.l0 k x3 0 x109000 x109001 x109002)
def zan.l0 : Nat → Int → Int → List ByteArray → List ByteArray → List (S42) → Option (Bool)
 | 0, _, _, _, _, _ => none
 | k + 1, x3, x4, x109000, x109001, x109002 => if x4 < (x109002.length : Int) then (if 0 ≤ x4 then (if ((zae x109002 x4).f0) < (x109000.length : Int) then (zan.j2 k x3 x4 true x109000 x109001 x109002 ((zae x109002 x4).f0) ((zae x109002 x4).f1) ((zae x109002 x4).f2)) else (if ((zae x109002 x4).f0) ≥ x3 then (zan.j2 k x3 x4 true x109000 x109001 x109002 ((zae x109002 x4).f0) ((zae x109002 x4).f1) ((zae x109002 x4).f2)) else (if x4 > 0 then (if 0 ≤ (wrap64 (x4 - 1)) then (if (wrap64 (x4 - 1)) < (x109002.length : Int) then (if ((zae x109002 (wrap64 (x4 - 1))).f0) > ((zae x109002 x4).f0) then (zan.j2 k x3 x4 true x109000 x109001 x109002 ((zae x109002 x4).f0) ((zae x109002 x4).f1) ((zae x109002 x4).f2)) else (if (((zae x109002 x4).f1).length : Int) > 64 then (zan.j2 k x3 x4 true x109000 x109001 x109002 ((zae x109002 x4).f0) ((zae x109002 x4).f1) ((zae x109002 x4).f2)) else (if ((zae x109002 x4).f2) < (-10000) then (zan.j2 k x3 x4 true x109000 x109001 x109002 ((zae x109002 x4).f0) ((zae x109002 x4).f1) ((zae x109002 x4).f2)) else (zan.j2 k x3 x4 (decide (((zae x109002 x4).f2) > 10000)) x109000 x109001 x109002 ((zae x109002 x4).f0) ((zae x109002 x4).f1) ((zae x109002 x4).f2))))) else (none)) else (none)) else (if (((zae x109002 x4).f1).length : Int) > 64 then (zan.j2 k x3 x4 true x109000 x109001 x109002 ((zae x109002 x4).f0) ((zae x109002 x4).f1) ((zae x109002 x4).f2)) else (if ((zae x109002 x4).f2) < (-10000) then (zan.j2 k x3 x4 true x109000 x109001 x109002 ((zae x109002 x4).f0) ((zae x109002 x4).f1) ((zae x109002 x4).f2)) else (zan.j2 k x3 x4 (decide (((zae x109002 x4).f2) > 10000)) x109000 x109001 x109002 ((zae x109002 x4).f0) ((zae x109002 x4).f1) ((zae x109002 x4).f2))))))) else (none)) else (some true)
def zan.j2 : Nat → Int → Int → Bool → List ByteArray → List ByteArray → List (S42) → Int → List (S44) → Int → Option (Bool)
 | 0, _, _, _, _, _, _, _, _, _ => none
 | k + 1, x3, x4, x96, x109000, x109001, x109002, x113000, x113001, x113002 => if x96 = true then (some false) else (zan.l1 k x3 x4 0 x109000 x109001 x109002 x113000 x113001 x113002)
def zan.l1 : Nat → Int → Int → Int → List ByteArray → List ByteArray → List (S42) → Int → List (S44) → Int → Option (Bool)
 | 0, _, _, _, _, _, _, _, _, _ => none
 | k + 1, x3, x4, x6, x109000, x109001, x109002, x113000, x113001, x113002 => if x6 < (x113001.length : Int) then (if 0 ≤ x6 then (if ((zba x113001 x6).f0) < 0 then (some false) else (if ((zba x113001 x6).f0) ≥ x3 then (some false) else ((za1.f k ((zba x113001 x6).f1)).bind fun t116 => (if t116 = true then ((za1.f k ((zba x113001 x6).f2)).bind fun t117 => (if t117 = true then (zan.l1 k x3 x4 (wrap64 (x6 + 1)) x109000 x109001 x109002 x113000 x113001 x113002) else (some false))) else (some false))))) else (none)) else (zan.l0 k x3 (wrap64 (x4 + 1)) x109000 x109001 x109002)
end
def zan.f (k : Nat) (l0_0 : List ByteArray) (l0_1 : List ByteArray) (l0_2 : List (S42)) : Option (Bool) := if (l0_1.length : Int) = 0 then (zan.j0 k (wrap64 ((l0_0.length : Int) + (l0_1.length : Int))) true l0_0 l0_1 l0_2) else (if (wrap64 ((l0_0.length : Int) + (l0_1.length : Int))) > 600 then (zan.j0 k (wrap64 ((l0_0.length : Int) + (l0_1.length : Int))) true l0_0 l0_1 l0_2) else (if (l0_2.length : Int) > 400 then (zan.j0 k (wrap64 ((l0_0.length : Int) + (l0_1.length : Int))) true l0_0 l0_1 l0_2) else ((zau.f k l0_0).bind fun t109 => (if t109 = true then ((zau.f k l0_1).bind fun t110 => (zan.j0 k (wrap64 ((l0_0.length : Int) + (l0_1.length : Int))) (!t110) l0_0 l0_1 l0_2)) else (zan.j0 k (wrap64 ((l0_0.length : Int) + (l0_1.length : Int))) true l0_0 l0_1 l0_2)))))
theorem zan.zbw : ∀ k, (∀ y0 y1 y2 y3 y4, LeO (zan.j0 k y0 y1 y2 y3 y4) (zan.j0 (k + 1) y0 y1 y2 y3 y4)) ∧ (∀ y0 y1 y2 y3 y4, LeO (zan.l0 k y0 y1 y2 y3 y4) (zan.l0 (k + 1) y0 y1 y2 y3 y4)) ∧ (∀ y0 y1 y2 y3 y4 y5 y6 y7 y8, LeO (zan.j2 k y0 y1 y2 y3 y4 y5 y6 y7 y8) (zan.j2 (k + 1) y0 y1 y2 y3 y4 y5 y6 y7 y8)) ∧ (∀ y0 y1 y2 y3 y4 y5 y6 y7 y8, LeO (zan.l1 k y0 y1 y2 y3 y4 y5 y6 y7 y8) (zan.l1 (k + 1) y0 y1 y2 y3 y4 y5 y6 y7 y8))
 | 0 => ⟨fun _ _ _ _ _ r h => by simp [zan.j0] at h, fun _ _ _ _ _ r h => by simp [zan.l0] at h, fun _ _ _ _ _ _ _ _ _ r h => by simp [zan.j2] at h, fun _ _ _ _ _ _ _ _ _ r h => by simp [zan.l1] at h⟩
 | k + 1 => by
  obtain ⟨ih0, ih1, ih2, ih3⟩ := zan.zbw k
  refine ⟨?_, ?_, ?_, ?_⟩
  ·intro y0 y1 y2 y3 y4
   unfold zan.j0
   repeat' first
   | (with_reducible exact ih0 _ _ _ _ _)
   | (with_reducible exact ih1 _ _ _ _ _)
   | (with_reducible exact ih2 _ _ _ _ _ _ _ _ _)
   | (with_reducible exact ih3 _ _ _ _ _ _ _ _ _)
   | (with_reducible exact za1.mono _ _)
   | (with_reducible exact zau.mono _ _)
   | (with_reducible exact LeO.refl _)
   | (with_reducible exact LeO.none _)
   | (with_reducible refine LeO.ite ?_ ?_)
   | (with_reducible refine LeO.bind ?_ (fun _ => ?_))
   | exact ih0 _ _ _ _ _
   | exact ih1 _ _ _ _ _
   | exact ih2 _ _ _ _ _ _ _ _ _
   | exact ih3 _ _ _ _ _ _ _ _ _
   | exact za1.mono _ _
   | exact zau.mono _ _
   | exact LeO.none _
   | refine LeO.ite ?_ ?_
   | refine LeO.bind ?_ (fun _ => ?_)
  ·intro y0 y1 y2 y3 y4
   unfold zan.l0
   repeat' first
   | (with_reducible exact ih0 _ _ _ _ _)
   | (with_reducible exact ih1 _ _ _ _ _)
   | (with_reducible exact ih2 _ _ _ _ _ _ _ _ _)
   | (with_reducible exact ih3 _ _ _ _ _ _ _ _ _)
   | (with_reducible exact za1.mono _ _)
   | (with_reducible exact zau.mono _ _)
   | (with_reducible exact LeO.refl _)
   | (with_reducible exact LeO.none _)
   | (with_reducible refine LeO.ite ?_ ?_)
   | (with_reducible refine LeO.bind ?_ (fun _ => ?_))
   | exact ih0 _ _ _ _ _
   | exact ih1 _ _ _ _ _
   | exact ih2 _ _ _ _ _ _ _ _ _
   | exact ih3 _ _ _ _ _ _ _ _ _
   | exact za1.mono _ _
   | exact zau.mono _ _
   | exact LeO.none _
   | refine LeO.ite ?_ ?_
   | refine LeO.bind ?_ (fun _ => ?_)
  ·intro y0 y1 y2 y3 y4 y5 y6 y7 y8
   unfold zan.j2
   repeat' first
   | (with_reducible exact ih0 _ _ _ _ _)
   | (with_reducible exact ih1 _ _ _ _ _)
   | (with_reducible exact ih2 _ _ _ _ _ _ _ _ _)
   | (with_reducible exact ih3 _ _ _ _ _ _ _ _ _)
   | (with_reducible exact za1.mono _ _)
   | (with_reducible exact zau.mono _ _)
   | (with_reducible exact LeO.refl _)
   | (with_reducible exact LeO.none _)
   | (with_reducible refine LeO.ite ?_ ?_)
   | (with_reducible refine LeO.bind ?_ (fun _ => ?_))
   | exact ih0 _ _ _ _ _
   | exact ih1 _ _ _ _ _
   | exact ih2 _ _ _ _ _ _ _ _ _
   | exact ih3 _ _ _ _ _ _ _ _ _
   | exact za1.mono _ _
   | exact zau.mono _ _
   | exact LeO.none _
   | refine LeO.ite ?_ ?_
   | refine LeO.bind ?_ (fun _ => ?_)
  ·intro y0 y1 y2 y3 y4 y5 y6 y7 y8
   unfold zan.l1
   repeat' first
   | (with_reducible exact ih0 _ _ _ _ _)
   | (with_reducible exact ih1 _ _ _ _ _)
   | (with_reducible exact ih2 _ _ _ _ _ _ _ _ _)
   | (with_reducible exact ih3 _ _ _ _ _ _ _ _ _)
   | (with_reducible exact za1.mono _ _)
   | (with_reducible exact zau.mono _ _)
   | (with_reducible exact LeO.refl _)
   | (with_reducible exact LeO.none _)
   | (with_reducible refine LeO.ite ?_ ?_)
   | (with_reducible refine LeO.bind ?_ (fun _ => ?_))
   | exact ih0 _ _ _ _ _
   | exact ih1 _ _ _ _ _
   | exact ih2 _ _ _ _ _ _ _ _ _
   | exact ih3 _ _ _ _ _ _ _ _ _
   | exact za1.mono _ _
   | exact zau.mono _ _
   | exact LeO.none _
   | refine LeO.ite ?_ ?_
   | refine LeO.bind ?_ (fun _ => ?_)
theorem zan.mono : ∀ a0 a1 a2 k, LeO (zan.f k a0 a1 a2) (zan.f (k + 1) a0 a1 a2) := by
 intro a0 a1 a2 k
 obtain ⟨ih0, ih1, ih2, ih3⟩ := zan.zbw k
 unfold zan.f
 repeat' first
   | (with_reducible exact ih0 _ _ _ _ _)
   | (with_reducible exact ih1 _ _ _ _ _)
   | (with_reducible exact ih2 _ _ _ _ _ _ _ _ _)
   | (with_reducible exact ih3 _ _ _ _ _ _ _ _ _)
   | (with_reducible exact za1.mono _ _)
   | (with_reducible exact zau.mono _ _)
   | (with_reducible exact LeO.refl _)
   | (with_reducible exact LeO.none _)
   | (with_reducible refine LeO.ite ?_ ?_)
   | (with_reducible refine LeO.bind ?_ (fun _ => ?_))
   | exact ih0 _ _ _ _ _
   | exact ih1 _ _ _ _ _
   | exact ih2 _ _ _ _ _ _ _ _ _
   | exact ih3 _ _ _ _ _ _ _ _ _
   | exact za1.mono _ _
   | exact zau.mono _ _
   | exact LeO.none _
   | refine LeO.ite ?_ ?_
   | refine LeO.bind ?_ (fun _ => ?_)
set_option maxHeartbeats 8000000 in
set_option maxRecDepth 100000 in
theorem zan.calls (k : Nat) (A0_0 : Option Addr) (c0_0 : Nat) (l0_0 : List ByteArray) (A0_1 : Option Addr) (c0_1 : Nat) (l0_1 : List ByteArray) (A0_2 : Option Addr) (c0_2 : Nat) (l0_2 : List (S42)) (r : Bool) (w : World) (hr0_0 : Kd.C Kd.string w A0_0 l0_0.length l0_0) (hc0_0 : l0_0.length ≤ c0_0) (hr0_1 : Kd.C Kd.string w A0_1 l0_1.length l0_1) (hc0_1 : l0_1.length ≤ c0_1) (hr0_2 : Kd.C k42 w A0_2 l0_2.length l0_2) (hc0_2 : l0_2.length ≤ c0_2) (h : zan.f k l0_0 l0_1 l0_2 = some r) :
  Calls Tryz.prog 25 #[.agg #[.slice A0_0 l0_0.length c0_0, .slice A0_1 l0_1.length c0_1, .slice A0_2 l0_2.length c0_2]] w fun e w' => e = .returned (.bool r) ∧ Below w.heap.size w w' := by
 have hu25 := Tryz.underlying25
 have hu42 := Tryz.underlying42
 have hu44 := Tryz.underlying44
 have HR0_0 := zaa.mk hr0_0;have HC0_0 := zaa.mk hc0_0;clear hr0_0 hc0_0;have HR0_1 := zaa.mk hr0_1;have HC0_1 := zaa.mk hc0_1;clear hr0_1 hc0_1;have HR0_2 := zaa.mk hr0_2;have HC0_2 := zaa.mk hc0_2;clear hr0_2 hc0_2
 have HB := zaa.mk (Below.refl w.heap.size w)
 have H : (if (l0_1.length : Int) = 0 then (zan.j0 k (wrap64 ((l0_0.length : Int) + (l0_1.length : Int))) true l0_0 l0_1 l0_2) else (if (wrap64 ((l0_0.length : Int) + (l0_1.length : Int))) > 600 then (zan.j0 k (wrap64 ((l0_0.length : Int) + (l0_1.length : Int))) true l0_0 l0_1 l0_2) else (if (l0_2.length : Int) > 400 then (zan.j0 k (wrap64 ((l0_0.length : Int) + (l0_1.length : Int))) true l0_0 l0_1 l0_2) else ((zau.f k l0_0).bind fun t109 => (if t109 = true then ((zau.f k l0_1).bind fun t110 => (zan.j0 k (wrap64 ((l0_0.length : Int) + (l0_1.length : Int))) (!t110) l0_0 l0_1 l0_2)) else (zan.j0 k (wrap64 ((l0_0.length : Int) + (l0_1.length : Int))) true l0_0 l0_1 l0_2)))))) = some r := h
 clear h;have HC2 := zaa.mk H;clear H
 go_enter Tryz.func25, Tryz.ntmps25
 go_upto_region 2 with (first | ((with_reducible refine zbh (N := 1) rfl ?_); (try (refine zbk (by rfl) ?_; dsimp only)); refine zbe ?hg (N := 1) ?hd (cs := #[.slice A0_0 l0_0.length c0_0, .slice A0_1 l0_1.length c0_1, .slice A0_2 l0_2.length c0_2]) (t := 25) ?hr ?_; (case hd => rfl); (case hg => rfl); (case hr => first | (go_simp; done) | (go_simp; rfl)); intro gb108 hg w3 hbox hb; have n0_ := zaa.mk (zaw (by repeat (first | (with_reducible first | exact HB.out | apply zah | apply zab | apply zaf) | exact HB.out)) hb); have n1_ := zaa.mk (hbox); have n2_ := zaa.mk ((by rw [hg]; exact (zas (by repeat (first | (with_reducible first | exact HB.out | apply zah | apply zab | apply zaf) | exact HB.out))) : w.heap.size ≤ gb108)); have n3_ := zaa.mk ((by rw [hg]; exact (zas (by repeat (first | (with_reducible first | exact HB.out | apply zah | apply zab | apply zaf) | exact HB.out))) : w.heap.size ≤ gb108)); clear HB; have HB := n0_; have BK108 := n1_; have GW108 := n2_; have GE108 := n3_; clear n0_ n1_ n2_ n3_; clear hb hbox hg; have hcz4_0 : w3.cell? ⟨gb108, 0, none⟩ = some (.slice A0_0 l0_0.length c0_0) := (zac BK108.out 0).trans rfl; have hcz4_1 : w3.cell? ⟨gb108, 1, none⟩ = some (.slice A0_1 l0_1.length c0_1) := (zac BK108.out 1).trans rfl; have hcz4_2 : w3.cell? ⟨gb108, 2, none⟩ = some (.slice A0_2 l0_2.length c0_2) := (zac BK108.out 2).trans rfl; have hfz4_0 := zak BK108.out 0; have hfz4_1 := zak BK108.out 1; have hfz4_2 := zak BK108.out 2))
 repeat (go_quiet (first | ((with_reducible refine zbh (N := 1) rfl ?_); (try (refine zbk (by rfl) ?_; dsimp only)); refine zbe ?hg (N := 1) ?hd (cs := #[.slice A0_0 l0_0.length c0_0, .slice A0_1 l0_1.length c0_1, .slice A0_2 l0_2.length c0_2]) (t := 25) ?hr ?_; (case hd => rfl); (case hg => rfl); (case hr => first | (go_simp; done) | (go_simp; rfl)); intro gb108 hg w3 hbox hb; have n0_ := zaa.mk (zaw (by repeat (first | (with_reducible first | exact HB.out | apply zah | apply zab | apply zaf) | exact HB.out)) hb); have n1_ := zaa.mk (hbox); have n2_ := zaa.mk ((by rw [hg]; exact (zas (by repeat (first | (with_reducible first | exact HB.out | apply zah | apply zab | apply zaf) | exact HB.out))) : w.heap.size ≤ gb108)); have n3_ := zaa.mk ((by rw [hg]; exact (zas (by repeat (first | (with_reducible first | exact HB.out | apply zah | apply zab | apply zaf) | exact HB.out))) : w.heap.size ≤ gb108)); clear HB; have HB := n0_; have BK108 := n1_; have GW108 := n2_; have GE108 := n3_; clear n0_ n1_ n2_ n3_; clear hb hbox hg; have hcz4_0 : w3.cell? ⟨gb108, 0, none⟩ = some (.slice A0_0 l0_0.length c0_0) := (zac BK108.out 0).trans rfl; have hcz4_1 : w3.cell? ⟨gb108, 1, none⟩ = some (.slice A0_1 l0_1.length c0_1) := (zac BK108.out 1).trans rfl; have hcz4_2 : w3.cell? ⟨gb108, 2, none⟩ = some (.slice A0_2 l0_2.length c0_2) := (zac BK108.out 2).trans rfl; have hfz4_0 := zak BK108.out 0; have hfz4_1 := zak BK108.out 1; have hfz4_2 := zak BK108.out 2)); go_upto_region 2 with (first | ((with_reducible refine zbh (N := 1) rfl ?_); (try (refine zbk (by rfl) ?_; dsimp only)); refine zbe ?hg (N := 1) ?hd (cs := #[.slice A0_0 l0_0.length c0_0, .slice A0_1 l0_1.length c0_1, .slice A0_2 l0_2.length c0_2]) (t := 25) ?hr ?_; (case hd => rfl); (case hg => rfl); (case hr => first | (go_simp; done) | (go_simp; rfl)); intro gb108 hg w3 hbox hb; have n0_ := zaa.mk (zaw (by repeat (first | (with_reducible first | exact HB.out | apply zah | apply zab | apply zaf) | exact HB.out)) hb); have n1_ := zaa.mk (hbox); have n2_ := zaa.mk ((by rw [hg]; exact (zas (by repeat (first | (with_reducible first | exact HB.out | apply zah | apply zab | apply zaf) | exact HB.out))) : w.heap.size ≤ gb108)); have n3_ := zaa.mk ((by rw [hg]; exact (zas (by repeat (first | (with_reducible first | exact HB.out | apply zah | apply zab | apply zaf) | exact HB.out))) : w.heap.size ≤ gb108)); clear HB; have HB := n0_; have BK108 := n1_; have GW108 := n2_; have GE108 := n3_; clear n0_ n1_ n2_ n3_; clear hb hbox hg; have hcz4_0 : w3.cell? ⟨gb108, 0, none⟩ = some (.slice A0_0 l0_0.length c0_0) := (zac BK108.out 0).trans rfl; have hcz4_1 : w3.cell? ⟨gb108, 1, none⟩ = some (.slice A0_1 l0_1.length c0_1) := (zac BK108.out 1).trans rfl; have hcz4_2 : w3.cell? ⟨gb108, 2, none⟩ = some (.slice A0_2 l0_2.length c0_2) := (zac BK108.out 2).trans rfl; have hfz4_0 := zak BK108.out 0; have hfz4_1 := zak BK108.out 1; have hfz4_2 := zak BK108.out 2)))
 (try simp only [Act.put, Y1, Y2, Y3])
 go_cut [40] (fun v40 wc => ∃ (kq : Nat) (x40_1 : Bool), v40 = .bool x40_1 ∧ zaa (zan.j0 kq (wrap64 ((l0_0.length : Int) + (l0_1.length : Int))) x40_1 l0_0 l0_1 l0_2 = some r) ∧ zaa (kq ≤ k) ∧ zaa (wc.heap[gb108]? = some (.cells #[(.slice A0_0 l0_0.length c0_0), (.slice A0_1 l0_1.length c0_1), (.slice A0_2 l0_2.length c0_2)] 25 (0, 0))) ∧ zaa (Below w.heap.size w wc))
 case first =>
  have H := HC2.out;clear HC2
  by_cases c5 : (l0_1.length : Int) = 0
  ·rw [if_pos c5] at H
   have c5b0 : ((l0_1.length : Int) == 0) = true := beq_iff_eq.mpr c5
   have c5b1 : ((l0_1.length : Int) != 0) = false := bne_eq_false_iff_eq.mpr c5
   clear c5
   (first | rw [c5b0] | (simp only [i64_w, i32_w]; rw [c5b0]) | skip)
   have H' := zaa.mk H
   clear H
   have hcz6_0 : w3.cell? ⟨gb108, 0, none⟩ = some (.slice A0_0 l0_0.length c0_0) := (zac BK108.out 0).trans rfl
   have hcz6_1 : w3.cell? ⟨gb108, 1, none⟩ = some (.slice A0_1 l0_1.length c0_1) := (zac BK108.out 1).trans rfl
   have hcz6_2 : w3.cell? ⟨gb108, 2, none⟩ = some (.slice A0_2 l0_2.length c0_2) := (zac BK108.out 2).trans rfl
   have hfz6_0 := zak BK108.out 0
   have hfz6_1 := zak BK108.out 1
   have hfz6_2 := zak BK108.out 2
   go_wp2
   repeat (go_quiet (fail); try go_wp2)
   go_meet
   case rel => exact ⟨_, (true), (by first | rfl | (simp; done) | (simp [*]; done)), H', ⟨by first | omega | exact Nat.le_refl _⟩, ⟨by (with_reducible repeat (first | refine zam ?_ _ | refine zaj ?_ | refine zai ?_ _)); exact BK108.out⟩, ⟨by repeat (first | (with_reducible first | exact HB.out | apply zah | apply zab | apply zaf | refine zal ?_ GE108.out) | exact HB.out)⟩⟩
  ·rw [if_neg c5] at H
   have c5b0 : ((l0_1.length : Int) == 0) = false := beq_eq_false_iff_ne.mpr c5
   have c5b1 : ((l0_1.length : Int) != 0) = true := bne_iff_ne.mpr c5
   have c5b2 : ¬ (l0_1 = []) := fun h_ => c5 (by rw [h_]; rfl)
   (first | rw [c5b0] | (simp only [i64_w, i32_w]; rw [c5b0]) | skip)
   by_cases c7 : (wrap64 ((l0_0.length : Int) + (l0_1.length : Int))) > 600
   ·rw [if_pos c7] at H
    have c7b0 : decide (600 < (wrap64 ((l0_0.length : Int) + (l0_1.length : Int)))) = true := decide_eq_true c7
    clear c7
    have H' := zaa.mk H
    clear H
    have hcz8_0 : w3.cell? ⟨gb108, 0, none⟩ = some (.slice A0_0 l0_0.length c0_0) := (zac BK108.out 0).trans rfl
    have hcz8_1 : w3.cell? ⟨gb108, 1, none⟩ = some (.slice A0_1 l0_1.length c0_1) := (zac BK108.out 1).trans rfl
    have hcz8_2 : w3.cell? ⟨gb108, 2, none⟩ = some (.slice A0_2 l0_2.length c0_2) := (zac BK108.out 2).trans rfl
    have hfz8_0 := zak BK108.out 0
    have hfz8_1 := zak BK108.out 1
    have hfz8_2 := zak BK108.out 2
    go_wp2
    repeat (go_quiet (fail); try go_wp2)
    go_meet
    case rel => exact ⟨_, (true), (by first | rfl | (simp; done) | (simp [*]; done)), H', ⟨by first | omega | exact Nat.le_refl _⟩, ⟨by (with_reducible repeat (first | refine zam ?_ _ | refine zaj ?_ | refine zai ?_ _)); exact BK108.out⟩, ⟨by repeat (first | (with_reducible first | exact HB.out | apply zah | apply zab | apply zaf | refine zal ?_ GE108.out) | exact HB.out)⟩⟩
   ·rw [if_neg c7] at H
    have c7b0 : decide (600 < (wrap64 ((l0_0.length : Int) + (l0_1.length : Int)))) = false := decide_eq_false c7
    clear c7
    by_cases c9 : (l0_2.length : Int) > 400
    ·rw [if_pos c9] at H
     have c9b0 : decide (400 < (l0_2.length : Int)) = true := decide_eq_true c9
     have c9b1 : decide (400 < l0_2.length) = true := decide_eq_true (by omega)
     clear c9
     have H' := zaa.mk H
     clear H
     have hcz10_0 : w3.cell? ⟨gb108, 0, none⟩ = some (.slice A0_0 l0_0.length c0_0) := (zac BK108.out 0).trans rfl
     have hcz10_1 : w3.cell? ⟨gb108, 1, none⟩ = some (.slice A0_1 l0_1.length c0_1) := (zac BK108.out 1).trans rfl
     have hcz10_2 : w3.cell? ⟨gb108, 2, none⟩ = some (.slice A0_2 l0_2.length c0_2) := (zac BK108.out 2).trans rfl
     have hfz10_0 := zak BK108.out 0
     have hfz10_1 := zak BK108.out 1
     have hfz10_2 := zak BK108.out 2
     go_wp2
     repeat (go_quiet (fail); try go_wp2)
     go_meet
     case rel => exact ⟨_, (true), (by first | rfl | (simp; done) | (simp [*]; done)), H', ⟨by first | omega | exact Nat.le_refl _⟩, ⟨by (with_reducible repeat (first | refine zam ?_ _ | refine zaj ?_ | refine zai ?_ _)); exact BK108.out⟩, ⟨by repeat (first | (with_reducible first | exact HB.out | apply zah | apply zab | apply zaf | refine zal ?_ GE108.out) | exact HB.out)⟩⟩
    ·rw [if_neg c9] at H
     have c9b0 : decide (400 < (l0_2.length : Int)) = false := decide_eq_false c9
     have c9b1 : decide (400 < l0_2.length) = false := decide_eq_false (by omega)
     clear c9;replace H := Option.bind_eq_some_iff.mp H
     obtain ⟨t109, A110, H⟩ := H
     replace H : (if t109 = true then ((zau.f k l0_1).bind fun t110 => (zan.j0 k (wrap64 ((l0_0.length : Int) + (l0_1.length : Int))) (!t110) l0_0 l0_1 l0_2)) else (zan.j0 k (wrap64 ((l0_0.length : Int) + (l0_1.length : Int))) true l0_0 l0_1 l0_2)) = some r := H
     have A11 := zaa.mk A110;clear A110
     by_cases c12 : t109 = true
     ·subst c12
      have H1 : ((zau.f k l0_1).bind fun t110 => (zan.j0 k (wrap64 ((l0_0.length : Int) + (l0_1.length : Int))) (!t110) l0_0 l0_1 l0_2)) = some r := by rw [if_pos rfl] at H; exact H
      clear H;have H := H1;clear H1;replace H := Option.bind_eq_some_iff.mp H
      obtain ⟨t110, A130, H⟩ := H
      replace H : (zan.j0 k (wrap64 ((l0_0.length : Int) + (l0_1.length : Int))) (!t110) l0_0 l0_1 l0_2) = some r := H
      have A13 := zaa.mk A130;clear A130
      have H' := zaa.mk H
      clear H
      have hcz14_0 : w3.cell? ⟨gb108, 0, none⟩ = some (.slice A0_0 l0_0.length c0_0) := (zac BK108.out 0).trans rfl
      have hcz14_1 : w3.cell? ⟨gb108, 1, none⟩ = some (.slice A0_1 l0_1.length c0_1) := (zac BK108.out 1).trans rfl
      have hcz14_2 : w3.cell? ⟨gb108, 2, none⟩ = some (.slice A0_2 l0_2.length c0_2) := (zac BK108.out 2).trans rfl
      have hfz14_0 := zak BK108.out 0
      have hfz14_1 := zak BK108.out 1
      have hfz14_2 := zak BK108.out 2
      go_wp2_with (first | (go_at_call 42; (with_reducible refine (zau.calls k _ _ l0_0 true _ ?side1 ?side2 A11.out).mono ?_); (case side1 => repeat (first | exact (Kd.zax HR0_0.out HB.out) | (with_reducible refine Kd.za6 ?_ _) | (with_reducible refine Kd.za7 ?_ _) | (with_reducible refine Kd.za9 ?_))); (case side2 => exact HC0_0.out); rintro e w' ⟨rfl, ⟨nd, rfl⟩⟩; (try first | exact ⟨rfl, _, World.drewN_drewN _ _ _⟩ | exact ⟨rfl, _, Eq.trans (World.drewN_drewN _ _ _) (congrArg (World.drewN _) (Nat.add_assoc _ _ _))⟩)) | (go_at_call 42; (with_reducible refine (zau.calls k _ _ l0_1 t110 _ ?side1 ?side2 A13.out).mono ?_); (case side1 => repeat (first | exact (Kd.zax HR0_1.out (by repeat (first | (with_reducible first | exact HB.out | apply zah | apply zab | apply zaf | refine zal ?_ GE108.out) | exact HB.out))) | (with_reducible refine Kd.za6 ?_ _) | (with_reducible refine Kd.za7 ?_ _) | (with_reducible refine Kd.za9 ?_))); (case side2 => exact HC0_1.out); rintro e w' ⟨rfl, ⟨nd, rfl⟩⟩; (try first | exact ⟨rfl, _, World.drewN_drewN _ _ _⟩ | exact ⟨rfl, _, Eq.trans (World.drewN_drewN _ _ _) (congrArg (World.drewN _) (Nat.add_assoc _ _ _))⟩)))
      repeat (go_quiet (first | (go_at_call 42; (with_reducible refine (zau.calls k _ _ l0_0 true _ ?side1 ?side2 A11.out).mono ?_); (case side1 => repeat (first | exact (Kd.zax HR0_0.out HB.out) | (with_reducible refine Kd.za6 ?_ _) | (with_reducible refine Kd.za7 ?_ _) | (with_reducible refine Kd.za9 ?_))); (case side2 => exact HC0_0.out); rintro e w' ⟨rfl, ⟨nd, rfl⟩⟩; (try first | exact ⟨rfl, _, World.drewN_drewN _ _ _⟩ | exact ⟨rfl, _, Eq.trans (World.drewN_drewN _ _ _) (congrArg (World.drewN _) (Nat.add_assoc _ _ _))⟩)) | (go_at_call 42; (with_reducible refine (zau.calls k _ _ l0_1 t110 _ ?side1 ?side2 A13.out).mono ?_); (case side1 => repeat (first | exact (Kd.zax HR0_1.out (by repeat (first | (with_reducible first | exact HB.out | apply zah | apply zab | apply zaf | refine zal ?_ GE108.out) | exact HB.out))) | (with_reducible refine Kd.za6 ?_ _) | (with_reducible refine Kd.za7 ?_ _) | (with_reducible refine Kd.za9 ?_))); (case side2 => exact HC0_1.out); rintro e w' ⟨rfl, ⟨nd, rfl⟩⟩; (try first | exact ⟨rfl, _, World.drewN_drewN _ _ _⟩ | exact ⟨rfl, _, Eq.trans (World.drewN_drewN _ _ _) (congrArg (World.drewN _) (Nat.add_assoc _ _ _))⟩))); try go_wp2_with (first | (go_at_call 42; (with_reducible refine (zau.calls k _ _ l0_0 true _ ?side1 ?side2 A11.out).mono ?_); (case side1 => repeat (first | exact (Kd.zax HR0_0.out HB.out) | (with_reducible refine Kd.za6 ?_ _) | (with_reducible refine Kd.za7 ?_ _) | (with_reducible refine Kd.za9 ?_))); (case side2 => exact HC0_0.out); rintro e w' ⟨rfl, ⟨nd, rfl⟩⟩; (try first | exact ⟨rfl, _, World.drewN_drewN _ _ _⟩ | exact ⟨rfl, _, Eq.trans (World.drewN_drewN _ _ _) (congrArg (World.drewN _) (Nat.add_assoc _ _ _))⟩)) | (go_at_call 42; (with_reducible refine (zau.calls k _ _ l0_1 t110 _ ?side1 ?side2 A13.out).mono ?_); (case side1 => repeat (first | exact (Kd.zax HR0_1.out (by repeat (first | (with_reducible first | exact HB.out | apply zah | apply zab | apply zaf | refine zal ?_ GE108.out) | exact HB.out))) | (with_reducible refine Kd.za6 ?_ _) | (with_reducible refine Kd.za7 ?_ _) | (with_reducible refine Kd.za9 ?_))); (case side2 => exact HC0_1.out); rintro e w' ⟨rfl, ⟨nd, rfl⟩⟩; (try first | exact ⟨rfl, _, World.drewN_drewN _ _ _⟩ | exact ⟨rfl, _, Eq.trans (World.drewN_drewN _ _ _) (congrArg (World.drewN _) (Nat.add_assoc _ _ _))⟩))))
      go_meet
      case rel => exact ⟨_, (!t110), (by first | rfl | (simp; done) | (simp [*]; done)), H', ⟨by first | omega | exact Nat.le_refl _⟩, ⟨by (with_reducible repeat (first | refine zam ?_ _ | refine zaj ?_ | refine zai ?_ _)); exact BK108.out⟩, ⟨by repeat (first | (with_reducible first | exact HB.out | apply zah | apply zab | apply zaf | refine zal ?_ GE108.out) | exact HB.out)⟩⟩
     ·replace c12 := Bool.eq_false_iff.mpr c12
      subst c12
      have H1 : (zan.j0 k (wrap64 ((l0_0.length : Int) + (l0_1.length : Int))) true l0_0 l0_1 l0_2) = some r := by rw [if_neg (show ¬ (false = true) by decide)] at H; exact H
      clear H;have H := H1;clear H1
      have H' := zaa.mk H
      clear H
      have hcz15_0 : w3.cell? ⟨gb108, 0, none⟩ = some (.slice A0_0 l0_0.length c0_0) := (zac BK108.out 0).trans rfl
      have hcz15_1 : w3.cell? ⟨gb108, 1, none⟩ = some (.slice A0_1 l0_1.length c0_1) := (zac BK108.out 1).trans rfl
      have hcz15_2 : w3.cell? ⟨gb108, 2, none⟩ = some (.slice A0_2 l0_2.length c0_2) := (zac BK108.out 2).trans rfl
      have hfz15_0 := zak BK108.out 0
      have hfz15_1 := zak BK108.out 1
      have hfz15_2 := zak BK108.out 2
      go_wp2_with (first | (go_at_call 42; (with_reducible refine (zau.calls k _ _ l0_0 false _ ?side1 ?side2 A11.out).mono ?_); (case side1 => repeat (first | exact (Kd.zax HR0_0.out HB.out) | (with_reducible refine Kd.za6 ?_ _) | (with_reducible refine Kd.za7 ?_ _) | (with_reducible refine Kd.za9 ?_))); (case side2 => exact HC0_0.out); rintro e w' ⟨rfl, ⟨nd, rfl⟩⟩; (try first | exact ⟨rfl, _, World.drewN_drewN _ _ _⟩ | exact ⟨rfl, _, Eq.trans (World.drewN_drewN _ _ _) (congrArg (World.drewN _) (Nat.add_assoc _ _ _))⟩)))
      repeat (go_quiet (first | (go_at_call 42; (with_reducible refine (zau.calls k _ _ l0_0 false _ ?side1 ?side2 A11.out).mono ?_); (case side1 => repeat (first | exact (Kd.zax HR0_0.out HB.out) | (with_reducible refine Kd.za6 ?_ _) | (with_reducible refine Kd.za7 ?_ _) | (with_reducible refine Kd.za9 ?_))); (case side2 => exact HC0_0.out); rintro e w' ⟨rfl, ⟨nd, rfl⟩⟩; (try first | exact ⟨rfl, _, World.drewN_drewN _ _ _⟩ | exact ⟨rfl, _, Eq.trans (World.drewN_drewN _ _ _) (congrArg (World.drewN _) (Nat.add_assoc _ _ _))⟩))); try go_wp2_with (first | (go_at_call 42; (with_reducible refine (zau.calls k _ _ l0_0 false _ ?side1 ?side2 A11.out).mono ?_); (case side1 => repeat (first | exact (Kd.zax HR0_0.out HB.out) | (with_reducible refine Kd.za6 ?_ _) | (with_reducible refine Kd.za7 ?_ _) | (with_reducible refine Kd.za9 ?_))); (case side2 => exact HC0_0.out); rintro e w' ⟨rfl, ⟨nd, rfl⟩⟩; (try first | exact ⟨rfl, _, World.drewN_drewN _ _ _⟩ | exact ⟨rfl, _, Eq.trans (World.drewN_drewN _ _ _) (congrArg (World.drewN _) (Nat.add_assoc _ _ _))⟩))))
      go_meet
      case rel => exact ⟨_, (true), (by first | rfl | (simp; done) | (simp [*]; done)), H', ⟨by first | omega | exact Nat.le_refl _⟩, ⟨by (with_reducible repeat (first | refine zam ?_ _ | refine zaj ?_ | refine zai ?_ _)); exact BK108.out⟩, ⟨by repeat (first | (with_reducible first | exact HB.out | apply zah | apply zab | apply zaf | refine zal ?_ GE108.out) | exact HB.out)⟩⟩
 case rest =>
  clear HC2;(try clear c1);(try clear c2);(try clear p2);(try clear c5);(try clear c5b0);(try clear c5b1);(try clear c5b2);(try clear p6);(try clear c7);(try clear c7b0);(try clear c9);(try clear c9b0);(try clear c9b1);(try clear c12);(try clear hcz10_0);(try clear hcz10_1);(try clear hcz10_2);(try clear hcz14_0);(try clear hcz14_1);(try clear hcz14_2);(try clear hcz15_0);(try clear hcz15_1);(try clear hcz15_2);(try clear hcz4_0);(try clear hcz4_1);(try clear hcz4_2);(try clear hcz6_0);(try clear hcz6_1);(try clear hcz6_2);(try clear hcz8_0);(try clear hcz8_1);(try clear hcz8_2);(try clear hfz10_0);(try clear hfz10_1);(try clear hfz10_2);(try clear hfz14_0);(try clear hfz14_1);(try clear hfz14_2);(try clear hfz15_0);(try clear hfz15_1);(try clear hfz15_2);(try clear hfz4_0);(try clear hfz4_1);(try clear hfz4_2);(try clear hfz6_0);(try clear hfz6_1);(try clear hfz6_2);(try clear hfz8_0);(try clear hfz8_1);(try clear hfz8_2)
  obtain ⟨kq, x40_1, rfl, HA, HJ1, BK108, HB⟩ := hcut
  cases kq with
  | zero => exact absurd HA.out (by simp [zan.j0])
  | succ kj1 =>
   have H := HA.out;clear HA
   simp only [zan.j0] at H
   by_cases c16 : x40_1 = true
   ·subst c16
    have H1 : (some false) = some r := by rw [if_pos rfl] at H; exact H
    clear H;have H := H1;clear H1;obtain rfl := Option.some.inj H;go_wp2
    repeat (go_quiet (fail); try go_wp2)
    go_ret
    exact ⟨by first | rfl | (simp [za2, za3] <;> rfl) | (simp [*, za2, za3] <;> rfl), by repeat (first | (with_reducible first | exact HB.out | apply zah | apply zab | apply zaf | refine zal ?_ GE108.out) | exact HB.out)⟩
   ·replace c16 := Bool.eq_false_iff.mpr c16
    subst c16
    have H1 : (zan.l0 kj1 (wrap64 ((l0_0.length : Int) + (l0_1.length : Int))) 0 l0_0 l0_1 l0_2) = some r := by rw [if_neg (show ¬ (false = true) by decide)] at H; exact H
    clear H;have H := H1;clear H1
    have H' := zaa.mk H
    clear H;go_wp2
    repeat (go_quiet (fail); try go_wp2)
    go_loopg [4] kj1 (fun kq v4 w' => ∃ (x4_2 : Int), v4 = .int .i64 x4_2 ∧ zaa (zan.l0 kq (wrap64 ((l0_0.length : Int) + (l0_1.length : Int))) x4_2 l0_0 l0_1 l0_2 = some r) ∧ zaa (kq ≤ kj1) ∧ zaa (w'.heap[gb108]? = some (.cells #[(.slice A0_0 l0_0.length c0_0), (.slice A0_1 l0_1.length c0_1), (.slice A0_2 l0_2.length c0_2)] 25 (0, 0))) ∧ zaa (Below w.heap.size w w'))
    case atStart => exact ⟨(0), (by first | rfl | (simp; done) | (simp [*]; done)), H', ⟨Nat.le_refl _⟩, ⟨by (with_reducible repeat (first | refine zam ?_ _ | refine zaj ?_ | refine zai ?_ _)); exact BK108.out⟩, ⟨by repeat (first | (with_reducible first | exact HB.out | apply zah | apply zab | apply zaf | refine zal ?_ GE108.out) | exact HB.out)⟩⟩
    case round =>
     clear H';(try clear c1);(try clear c2);(try clear p2);(try clear c5);(try clear c5b0);(try clear c5b1);(try clear c5b2);(try clear p6);(try clear c7);(try clear c7b0);(try clear c9);(try clear c9b0);(try clear c9b1);(try clear c12);(try clear c16);(try clear hcz10_0);(try clear hcz10_1);(try clear hcz10_2);(try clear hcz14_0);(try clear hcz14_1);(try clear hcz14_2);(try clear hcz15_0);(try clear hcz15_1);(try clear hcz15_2);(try clear hcz4_0);(try clear hcz4_1);(try clear hcz4_2);(try clear hcz6_0);(try clear hcz6_1);(try clear hcz6_2);(try clear hcz8_0);(try clear hcz8_1);(try clear hcz8_2);(try clear hfz10_0);(try clear hfz10_1);(try clear hfz10_2);(try clear hfz14_0);(try clear hfz14_1);(try clear hfz14_2);(try clear hfz15_0);(try clear hfz15_1);(try clear hfz15_2);(try clear hfz4_0);(try clear hfz4_1);(try clear hfz4_2);(try clear hfz6_0);(try clear hfz6_1);(try clear hfz6_2);(try clear hfz8_0);(try clear hfz8_1);(try clear hfz8_2);(try clear p2);(try clear p6)
     obtain ⟨x4_2, rfl, HA, HK2, BK108, HB⟩ := hrel
     cases gk with
     | zero => exact absurd HA.out (by simp [zan.l0])
     | succ k2 =>
      have H := HA.out;clear HA
      simp only [zan.l0] at H
      by_cases c17 : x4_2 < (l0_2.length : Int)
      ·rw [if_pos c17] at H
       have c17b0 : decide (x4_2 < (l0_2.length : Int)) = true := decide_eq_true c17
       clear c17
       by_cases c18 : 0 ≤ x4_2
       ·rw [if_pos c18] at H
        have c18b0 : decide (0 ≤ x4_2) = true := decide_eq_true c18
        clear c18;have HC19 := zaa.mk H;clear H
        have hcz20_0 : wr.cell? ⟨gb108, 0, none⟩ = some (.slice A0_0 l0_0.length c0_0) := (zac BK108.out 0).trans rfl
        have hcz20_1 : wr.cell? ⟨gb108, 1, none⟩ = some (.slice A0_1 l0_1.length c0_1) := (zac BK108.out 1).trans rfl
        have hcz20_2 : wr.cell? ⟨gb108, 2, none⟩ = some (.slice A0_2 l0_2.length c0_2) := (zac BK108.out 2).trans rfl
        have hfz20_0 := zak BK108.out 0
        have hfz20_1 := zak BK108.out 1
        have hfz20_2 := zak BK108.out 2
        have p111 : 0 ≤ (x4_2 : Int) := of_decide_eq_true (by first | (with_reducible assumption) | assumption)
        have q111 : x4_2 < (l0_2.length : Int) := of_decide_eq_true (by first | (with_reducible assumption) | assumption)
        obtain ⟨ad111, A111_1, c111_1, e111, hx111_0, hx111_1, hx111_2, hl111_1, hi111_1⟩ := at_T42 HR0_2.out x4_2 p111 q111
        cases e111
        replace hx111_0 := (HB.out.cell (World.block_lt_of_cell? w _ hx111_0)).trans hx111_0
        replace hx111_1 := (HB.out.cell (World.block_lt_of_cell? w _ hx111_1)).trans hx111_1
        replace hx111_2 := (HB.out.cell (World.block_lt_of_cell? w _ hx111_2)).trans hx111_2
        have HR111_1 := zaa.mk hi111_1;have HC111_1 := zaa.mk hl111_1;clear hi111_1 hl111_1
        replace p111 := eq_true p111
        replace q111 := eq_true q111
        go_upto_region 8 with (first | ((with_reducible refine zbh (N := 5) rfl ?_); (try (refine zbk (by rfl) ?_; dsimp only)); refine zbe ?hg (N := 5) ?hd (cs := #[.int .i64 0, .slice none 0 0, .int .i64 0]) (t := 42) ?hr ?_; (case hd => rfl); (case hg => rfl); (case hr => first | (go_simp; done) | (go_simp; rfl)); intro gb112 hg w21 hbox hb; have n0_ := zaa.mk (zar (g := gb108) (o := .cells #[.slice A0_0 l0_0.length c0_0, .slice A0_1 l0_1.length c0_1, .slice (some ad111) l0_2.length c0_2] 25 (0, 0)) (by (with_reducible repeat (first | refine zam ?_ _ | refine zaj ?_ | refine zai ?_ _)); exact BK108.out) hb); have n1_ := zaa.mk (zaw (by repeat (first | (with_reducible first | exact HB.out | apply zah | apply zab | apply zaf | refine zal ?_ GE108.out) | exact HB.out)) hb); have n2_ := zaa.mk (hbox); have n3_ := zaa.mk ((by rw [hg]; exact (zas (by repeat (first | (with_reducible first | exact HB.out | apply zah | apply zab | apply zaf | refine zal ?_ GE108.out) | exact HB.out))) : w.heap.size ≤ gb112)); have n4_ := zaa.mk ((by rw [hg]; exact (zas (by repeat (first | (with_reducible first | exact HB.out | apply zah | apply zab | apply zaf | refine zal ?_ GE108.out) | exact HB.out))) : w.heap.size ≤ gb112)); have n5_ := zaa.mk ((by rw [hg]; exact Nat.ne_of_lt (zav (g := gb108) (o := .cells #[.slice A0_0 l0_0.length c0_0, .slice A0_1 l0_1.length c0_1, .slice (some ad111) l0_2.length c0_2] 25 (0, 0)) (by (with_reducible repeat (first | refine zam ?_ _ | refine zaj ?_ | refine zai ?_ _)); exact BK108.out)) : gb108 ≠ gb112)); have n6_ := zaa.mk ((by rw [hg]; exact Nat.ne_of_gt (zav (g := gb108) (o := .cells #[.slice A0_0 l0_0.length c0_0, .slice A0_1 l0_1.length c0_1, .slice (some ad111) l0_2.length c0_2] 25 (0, 0)) (by (with_reducible repeat (first | refine zam ?_ _ | refine zaj ?_ | refine zai ?_ _)); exact BK108.out)) : gb112 ≠ gb108)); clear BK108; clear HB; have BK108 := n0_; have HB := n1_; have BK112 := n2_; have GW112 := n3_; have GE112 := n4_; have NB108_112 := n5_; have NB112_108 := n6_; clear n0_ n1_ n2_ n3_ n4_ n5_ n6_; clear hb hbox hg; have hnb22 := NB112_108.out; have hnc22 := NB108_112.out; have hcz23_0 : w21.cell? ⟨gb112, 0, none⟩ = some (.int .i64 0) := (zac BK112.out 0).trans rfl; have hcz23_1 : w21.cell? ⟨gb112, 1, none⟩ = some (.slice none 0 0) := (zac BK112.out 1).trans rfl; have hcz23_2 : w21.cell? ⟨gb112, 2, none⟩ = some (.int .i64 0) := (zac BK112.out 2).trans rfl; have hfz23_0 := zak BK112.out 0; have hfz23_1 := zak BK112.out 1; have hfz23_2 := zak BK112.out 2))
        repeat (go_quiet (first | ((with_reducible refine zbh (N := 5) rfl ?_); (try (refine zbk (by rfl) ?_; dsimp only)); refine zbe ?hg (N := 5) ?hd (cs := #[.int .i64 0, .slice none 0 0, .int .i64 0]) (t := 42) ?hr ?_; (case hd => rfl); (case hg => rfl); (case hr => first | (go_simp; done) | (go_simp; rfl)); intro gb112 hg w21 hbox hb; have n0_ := zaa.mk (zar (g := gb108) (o := .cells #[.slice A0_0 l0_0.length c0_0, .slice A0_1 l0_1.length c0_1, .slice (some ad111) l0_2.length c0_2] 25 (0, 0)) (by (with_reducible repeat (first | refine zam ?_ _ | refine zaj ?_ | refine zai ?_ _)); exact BK108.out) hb); have n1_ := zaa.mk (zaw (by repeat (first | (with_reducible first | exact HB.out | apply zah | apply zab | apply zaf | refine zal ?_ GE108.out) | exact HB.out)) hb); have n2_ := zaa.mk (hbox); have n3_ := zaa.mk ((by rw [hg]; exact (zas (by repeat (first | (with_reducible first | exact HB.out | apply zah | apply zab | apply zaf | refine zal ?_ GE108.out) | exact HB.out))) : w.heap.size ≤ gb112)); have n4_ := zaa.mk ((by rw [hg]; exact (zas (by repeat (first | (with_reducible first | exact HB.out | apply zah | apply zab | apply zaf | refine zal ?_ GE108.out) | exact HB.out))) : w.heap.size ≤ gb112)); have n5_ := zaa.mk ((by rw [hg]; exact Nat.ne_of_lt (zav (g := gb108) (o := .cells #[.slice A0_0 l0_0.length c0_0, .slice A0_1 l0_1.length c0_1, .slice (some ad111) l0_2.length c0_2] 25 (0, 0)) (by (with_reducible repeat (first | refine zam ?_ _ | refine zaj ?_ | refine zai ?_ _)); exact BK108.out)) : gb108 ≠ gb112)); have n6_ := zaa.mk ((by rw [hg]; exact Nat.ne_of_gt (zav (g := gb108) (o := .cells #[.slice A0_0 l0_0.length c0_0, .slice A0_1 l0_1.length c0_1, .slice (some ad111) l0_2.length c0_2] 25 (0, 0)) (by (with_reducible repeat (first | refine zam ?_ _ | refine zaj ?_ | refine zai ?_ _)); exact BK108.out)) : gb112 ≠ gb108)); clear BK108; clear HB; have BK108 := n0_; have HB := n1_; have BK112 := n2_; have GW112 := n3_; have GE112 := n4_; have NB108_112 := n5_; have NB112_108 := n6_; clear n0_ n1_ n2_ n3_ n4_ n5_ n6_; clear hb hbox hg; have hnb22 := NB112_108.out; have hnc22 := NB108_112.out; have hcz23_0 : w21.cell? ⟨gb112, 0, none⟩ = some (.int .i64 0) := (zac BK112.out 0).trans rfl; have hcz23_1 : w21.cell? ⟨gb112, 1, none⟩ = some (.slice none 0 0) := (zac BK112.out 1).trans rfl; have hcz23_2 : w21.cell? ⟨gb112, 2, none⟩ = some (.int .i64 0) := (zac BK112.out 2).trans rfl; have hfz23_0 := zak BK112.out 0; have hfz23_1 := zak BK112.out 1; have hfz23_2 := zak BK112.out 2)); go_upto_region 8 with (first | ((with_reducible refine zbh (N := 5) rfl ?_); (try (refine zbk (by rfl) ?_; dsimp only)); refine zbe ?hg (N := 5) ?hd (cs := #[.int .i64 0, .slice none 0 0, .int .i64 0]) (t := 42) ?hr ?_; (case hd => rfl); (case hg => rfl); (case hr => first | (go_simp; done) | (go_simp; rfl)); intro gb112 hg w21 hbox hb; have n0_ := zaa.mk (zar (g := gb108) (o := .cells #[.slice A0_0 l0_0.length c0_0, .slice A0_1 l0_1.length c0_1, .slice (some ad111) l0_2.length c0_2] 25 (0, 0)) (by (with_reducible repeat (first | refine zam ?_ _ | refine zaj ?_ | refine zai ?_ _)); exact BK108.out) hb); have n1_ := zaa.mk (zaw (by repeat (first | (with_reducible first | exact HB.out | apply zah | apply zab | apply zaf | refine zal ?_ GE108.out) | exact HB.out)) hb); have n2_ := zaa.mk (hbox); have n3_ := zaa.mk ((by rw [hg]; exact (zas (by repeat (first | (with_reducible first | exact HB.out | apply zah | apply zab | apply zaf | refine zal ?_ GE108.out) | exact HB.out))) : w.heap.size ≤ gb112)); have n4_ := zaa.mk ((by rw [hg]; exact (zas (by repeat (first | (with_reducible first | exact HB.out | apply zah | apply zab | apply zaf | refine zal ?_ GE108.out) | exact HB.out))) : w.heap.size ≤ gb112)); have n5_ := zaa.mk ((by rw [hg]; exact Nat.ne_of_lt (zav (g := gb108) (o := .cells #[.slice A0_0 l0_0.length c0_0, .slice A0_1 l0_1.length c0_1, .slice (some ad111) l0_2.length c0_2] 25 (0, 0)) (by (with_reducible repeat (first | refine zam ?_ _ | refine zaj ?_ | refine zai ?_ _)); exact BK108.out)) : gb108 ≠ gb112)); have n6_ := zaa.mk ((by rw [hg]; exact Nat.ne_of_gt (zav (g := gb108) (o := .cells #[.slice A0_0 l0_0.length c0_0, .slice A0_1 l0_1.length c0_1, .slice (some ad111) l0_2.length c0_2] 25 (0, 0)) (by (with_reducible repeat (first | refine zam ?_ _ | refine zaj ?_ | refine zai ?_ _)); exact BK108.out)) : gb112 ≠ gb108)); clear BK108; clear HB; have BK108 := n0_; have HB := n1_; have BK112 := n2_; have GW112 := n3_; have GE112 := n4_; have NB108_112 := n5_; have NB112_108 := n6_; clear n0_ n1_ n2_ n3_ n4_ n5_ n6_; clear hb hbox hg; have hnb22 := NB112_108.out; have hnc22 := NB108_112.out; have hcz23_0 : w21.cell? ⟨gb112, 0, none⟩ = some (.int .i64 0) := (zac BK112.out 0).trans rfl; have hcz23_1 : w21.cell? ⟨gb112, 1, none⟩ = some (.slice none 0 0) := (zac BK112.out 1).trans rfl; have hcz23_2 : w21.cell? ⟨gb112, 2, none⟩ = some (.int .i64 0) := (zac BK112.out 2).trans rfl; have hfz23_0 := zak BK112.out 0; have hfz23_1 := zak BK112.out 1; have hfz23_2 := zak BK112.out 2)))
        (try simp only [Act.put, Y1, Y2, Y3])
        go_cut [96] (fun v96 wc => ∃ (kq : Nat) (x96_18 : Bool), v96 = .bool x96_18 ∧ zaa (zan.j2 kq (wrap64 ((l0_0.length : Int) + (l0_1.length : Int))) x4_2 x96_18 l0_0 l0_1 l0_2 ((zae l0_2 x4_2).f0) ((zae l0_2 x4_2).f1) ((zae l0_2 x4_2).f2) = some r) ∧ zaa (kq ≤ k2) ∧ zaa (wc.heap[gb108]? = some (.cells #[(.slice A0_0 l0_0.length c0_0), (.slice A0_1 l0_1.length c0_1), (.slice (some ad111) l0_2.length c0_2)] 25 (0, 0))) ∧ zaa (wc.heap[gb112]? = some (.cells #[.int .i64 ((zae l0_2 x4_2).f0), (.slice A111_1 ((zae l0_2 x4_2).f1).length c111_1), .int .i64 ((zae l0_2 x4_2).f2)] 42 (0, 0))) ∧ zaa (Below w.heap.size w wc))
        case first =>
         have H := HC19.out;clear HC19
         by_cases c24 : ((zae l0_2 x4_2).f0) < (l0_0.length : Int)
         ·rw [if_pos c24] at H
          have c24b0 : decide (((zae l0_2 x4_2).f0) < (l0_0.length : Int)) = true := decide_eq_true c24
          clear c24
          (first | rw [c24b0] | (simp only [i64_w, i32_w]; rw [c24b0]) | skip)
          have H' := zaa.mk H
          clear H
          have hnb25 := NB112_108.out
          have hnc25 := NB108_112.out
          have hcz26_0 : w21.cell? ⟨gb112, 0, none⟩ = some (.int .i64 0) := (zac BK112.out 0).trans rfl
          have hcz26_1 : w21.cell? ⟨gb112, 1, none⟩ = some (.slice none 0 0) := (zac BK112.out 1).trans rfl
          have hcz26_2 : w21.cell? ⟨gb112, 2, none⟩ = some (.int .i64 0) := (zac BK112.out 2).trans rfl
          have hfz26_0 := zak BK112.out 0
          have hfz26_1 := zak BK112.out 1
          have hfz26_2 := zak BK112.out 2
          have hcz27_0 : w21.cell? ⟨gb108, 0, none⟩ = some (.slice A0_0 l0_0.length c0_0) := (zac BK108.out 0).trans rfl
          have hcz27_1 : w21.cell? ⟨gb108, 1, none⟩ = some (.slice A0_1 l0_1.length c0_1) := (zac BK108.out 1).trans rfl
          have hcz27_2 : w21.cell? ⟨gb108, 2, none⟩ = some (.slice (some ad111) l0_2.length c0_2) := (zac BK108.out 2).trans rfl
          have hfz27_0 := zak BK108.out 0
          have hfz27_1 := zak BK108.out 1
          have hfz27_2 := zak BK108.out 2
          go_wp2
          repeat (go_quiet (fail); try go_wp2)
          go_meet
          case rel => exact ⟨_, (true), (by first | rfl | (simp; done) | (simp [*]; done)), H', ⟨by have := HJ1.out; have := HK2.out; first | omega | exact Nat.le_refl _⟩, ⟨by (with_reducible repeat (first | refine zam ?_ _ | refine zaj ?_ | refine zai ?_ _)); refine zbl ?_ NB108_112.out _; (with_reducible repeat (first | refine zam ?_ _ | refine zaj ?_ | refine zai ?_ _)); refine zbl ?_ NB108_112.out _; (with_reducible repeat (first | refine zam ?_ _ | refine zaj ?_ | refine zai ?_ _)); refine zbl ?_ NB108_112.out _; (with_reducible repeat (first | refine zam ?_ _ | refine zaj ?_ | refine zai ?_ _)); exact BK108.out⟩, ⟨by (with_reducible repeat (first | refine zam ?_ _ | refine zaj ?_ | refine zai ?_ _)); refine zbn (cs := #[.int .i64 ((zae l0_2 x4_2).f0), .slice A111_1 ((zae l0_2 x4_2).f1).length c111_1, .int .i64 0]) ?_ 2 _ rfl; (with_reducible repeat (first | refine zam ?_ _ | refine zaj ?_ | refine zai ?_ _)); refine zbn (cs := #[.int .i64 ((zae l0_2 x4_2).f0), .slice none 0 0, .int .i64 0]) ?_ 1 _ rfl; (with_reducible repeat (first | refine zam ?_ _ | refine zaj ?_ | refine zai ?_ _)); refine zbn (cs := #[.int .i64 0, .slice none 0 0, .int .i64 0]) ?_ 0 _ rfl; (with_reducible repeat (first | refine zam ?_ _ | refine zaj ?_ | refine zai ?_ _)); exact BK112.out⟩, ⟨by repeat (first | (with_reducible first | exact HB.out | apply zah | apply zab | apply zaf | refine zal ?_ GE108.out | refine zal ?_ GE112.out) | exact HB.out)⟩⟩
         ·rw [if_neg c24] at H
          have c24b0 : decide (((zae l0_2 x4_2).f0) < (l0_0.length : Int)) = false := decide_eq_false c24
          clear c24
          (first | rw [c24b0] | (simp only [i64_w, i32_w]; rw [c24b0]) | skip)
          by_cases c28 : ((zae l0_2 x4_2).f0) ≥ (wrap64 ((l0_0.length : Int) + (l0_1.length : Int)))
          ·rw [if_pos c28] at H
           have c28b0 : decide ((wrap64 ((l0_0.length : Int) + (l0_1.length : Int))) ≤ ((zae l0_2 x4_2).f0)) = true := decide_eq_true c28
           clear c28
           have H' := zaa.mk H
           clear H
           have hnb29 := NB112_108.out
           have hnc29 := NB108_112.out
           have hcz30_0 : w21.cell? ⟨gb112, 0, none⟩ = some (.int .i64 0) := (zac BK112.out 0).trans rfl
           have hcz30_1 : w21.cell? ⟨gb112, 1, none⟩ = some (.slice none 0 0) := (zac BK112.out 1).trans rfl
           have hcz30_2 : w21.cell? ⟨gb112, 2, none⟩ = some (.int .i64 0) := (zac BK112.out 2).trans rfl
           have hfz30_0 := zak BK112.out 0
           have hfz30_1 := zak BK112.out 1
           have hfz30_2 := zak BK112.out 2
           have hcz31_0 : w21.cell? ⟨gb108, 0, none⟩ = some (.slice A0_0 l0_0.length c0_0) := (zac BK108.out 0).trans rfl
           have hcz31_1 : w21.cell? ⟨gb108, 1, none⟩ = some (.slice A0_1 l0_1.length c0_1) := (zac BK108.out 1).trans rfl
           have hcz31_2 : w21.cell? ⟨gb108, 2, none⟩ = some (.slice (some ad111) l0_2.length c0_2) := (zac BK108.out 2).trans rfl
           have hfz31_0 := zak BK108.out 0
           have hfz31_1 := zak BK108.out 1
           have hfz31_2 := zak BK108.out 2
           go_wp2
           repeat (go_quiet (fail); try go_wp2)
           go_meet
           case rel => exact ⟨_, (true), (by first | rfl | (simp; done) | (simp [*]; done)), H', ⟨by have := HJ1.out; have := HK2.out; first | omega | exact Nat.le_refl _⟩, ⟨by (with_reducible repeat (first | refine zam ?_ _ | refine zaj ?_ | refine zai ?_ _)); refine zbl ?_ NB108_112.out _; (with_reducible repeat (first | refine zam ?_ _ | refine zaj ?_ | refine zai ?_ _)); refine zbl ?_ NB108_112.out _; (with_reducible repeat (first | refine zam ?_ _ | refine zaj ?_ | refine zai ?_ _)); refine zbl ?_ NB108_112.out _; (with_reducible repeat (first | refine zam ?_ _ | refine zaj ?_ | refine zai ?_ _)); exact BK108.out⟩, ⟨by (with_reducible repeat (first | refine zam ?_ _ | refine zaj ?_ | refine zai ?_ _)); refine zbn (cs := #[.int .i64 ((zae l0_2 x4_2).f0), .slice A111_1 ((zae l0_2 x4_2).f1).length c111_1, .int .i64 0]) ?_ 2 _ rfl; (with_reducible repeat (first | refine zam ?_ _ | refine zaj ?_ | refine zai ?_ _)); refine zbn (cs := #[.int .i64 ((zae l0_2 x4_2).f0), .slice none 0 0, .int .i64 0]) ?_ 1 _ rfl; (with_reducible repeat (first | refine zam ?_ _ | refine zaj ?_ | refine zai ?_ _)); refine zbn (cs := #[.int .i64 0, .slice none 0 0, .int .i64 0]) ?_ 0 _ rfl; (with_reducible repeat (first | refine zam ?_ _ | refine zaj ?_ | refine zai ?_ _)); exact BK112.out⟩, ⟨by repeat (first | (with_reducible first | exact HB.out | apply zah | apply zab | apply zaf | refine zal ?_ GE108.out | refine zal ?_ GE112.out) | exact HB.out)⟩⟩
          ·rw [if_neg c28] at H
           have c28b0 : decide ((wrap64 ((l0_0.length : Int) + (l0_1.length : Int))) ≤ ((zae l0_2 x4_2).f0)) = false := decide_eq_false c28
           clear c28
           by_cases c32 : x4_2 > 0
           ·rw [if_pos c32] at H
            have c32b0 : decide (0 < x4_2) = true := decide_eq_true c32
            clear c32
            obtain ⟨ji33, hji33⟩ : ∃ j_ : Int, (wrap64 (x4_2 - 1)) = j_ := ⟨_, rfl⟩
            replace H : (if 0 ≤ (ji33) then (if (ji33) < (l0_2.length : Int) then (if ((zae l0_2 (ji33)).f0) > ((zae l0_2 x4_2).f0) then (zan.j2 k2 (wrap64 ((l0_0.length : Int) + (l0_1.length : Int))) x4_2 true l0_0 l0_1 l0_2 ((zae l0_2 x4_2).f0) ((zae l0_2 x4_2).f1) ((zae l0_2 x4_2).f2)) else (if (((zae l0_2 x4_2).f1).length : Int) > 64 then (zan.j2 k2 (wrap64 ((l0_0.length : Int) + (l0_1.length : Int))) x4_2 true l0_0 l0_1 l0_2 ((zae l0_2 x4_2).f0) ((zae l0_2 x4_2).f1) ((zae l0_2 x4_2).f2)) else (if ((zae l0_2 x4_2).f2) < (-10000) then (zan.j2 k2 (wrap64 ((l0_0.length : Int) + (l0_1.length : Int))) x4_2 true l0_0 l0_1 l0_2 ((zae l0_2 x4_2).f0) ((zae l0_2 x4_2).f1) ((zae l0_2 x4_2).f2)) else (zan.j2 k2 (wrap64 ((l0_0.length : Int) + (l0_1.length : Int))) x4_2 (decide (((zae l0_2 x4_2).f2) > 10000)) l0_0 l0_1 l0_2 ((zae l0_2 x4_2).f0) ((zae l0_2 x4_2).f1) ((zae l0_2 x4_2).f2))))) else (none)) else (none)) = some r := by first | (rw [hji33] at H; exact H) | (simp only [hji33] at H ⊢; exact H)
            have hji33w : (IntKind.i64.wrap (x4_2 - 1)) = ji33 := (i64_w _).trans hji33
            by_cases c34 : 0 ≤ (ji33)
            ·rw [if_pos c34] at H
             have c34b0 : decide (0 ≤ (ji33)) = true := decide_eq_true c34
             clear c34
             by_cases c35 : (ji33) < (l0_2.length : Int)
             ·rw [if_pos c35] at H
              have c35b0 : decide ((ji33) < (l0_2.length : Int)) = true := decide_eq_true c35
              clear c35
              by_cases c36 : ((zae l0_2 (ji33)).f0) > ((zae l0_2 x4_2).f0)
              ·rw [if_pos c36] at H
               have c36b0 : decide (((zae l0_2 x4_2).f0) < ((zae l0_2 (ji33)).f0)) = true := decide_eq_true c36
               clear c36
               have H' := zaa.mk H
               clear H
               have hnb37 := NB112_108.out
               have hnc37 := NB108_112.out
               have hcz38_0 : w21.cell? ⟨gb112, 0, none⟩ = some (.int .i64 0) := (zac BK112.out 0).trans rfl
               have hcz38_1 : w21.cell? ⟨gb112, 1, none⟩ = some (.slice none 0 0) := (zac BK112.out 1).trans rfl
               have hcz38_2 : w21.cell? ⟨gb112, 2, none⟩ = some (.int .i64 0) := (zac BK112.out 2).trans rfl
               have hfz38_0 := zak BK112.out 0
               have hfz38_1 := zak BK112.out 1
               have hfz38_2 := zak BK112.out 2
               have hcz39_0 : w21.cell? ⟨gb108, 0, none⟩ = some (.slice A0_0 l0_0.length c0_0) := (zac BK108.out 0).trans rfl
               have hcz39_1 : w21.cell? ⟨gb108, 1, none⟩ = some (.slice A0_1 l0_1.length c0_1) := (zac BK108.out 1).trans rfl
               have hcz39_2 : w21.cell? ⟨gb108, 2, none⟩ = some (.slice (some ad111) l0_2.length c0_2) := (zac BK108.out 2).trans rfl
               have hfz39_0 := zak BK108.out 0
               have hfz39_1 := zak BK108.out 1
               have hfz39_2 := zak BK108.out 2
               have p113 : 0 ≤ ((ji33) : Int) := of_decide_eq_true (by first | (with_reducible assumption) | assumption)
               have q113 : (ji33) < (l0_2.length : Int) := of_decide_eq_true (by first | (with_reducible assumption) | assumption)
               obtain ⟨ad113, A113_1, c113_1, e113, hx113_0, hx113_1, hx113_2, hl113_1, hi113_1⟩ := at_T42 HR0_2.out (ji33) p113 q113
               obtain rfl : ad111 = ad113 := (by injection e113)
               have hn113_0 : ad111.block ≠ gb112 := Nat.ne_of_lt (Nat.lt_of_lt_of_le (by have := World.block_lt_of_cell? _ _ hx113_0; first | rwa [add_block] at this | exact this) GW112.out)
               have hn113_1 : ad111.block ≠ gb112 := Nat.ne_of_lt (Nat.lt_of_lt_of_le (by have := World.block_lt_of_cell? _ _ hx113_0; first | rwa [add_block] at this | exact this) GW112.out)
               have hn113_2 : ad111.block ≠ gb112 := Nat.ne_of_lt (Nat.lt_of_lt_of_le (by have := World.block_lt_of_cell? _ _ hx113_0; first | rwa [add_block] at this | exact this) GW112.out)
               replace hx113_0 := (HB.out.cell (World.block_lt_of_cell? w _ hx113_0)).trans hx113_0
               replace hx113_1 := (HB.out.cell (World.block_lt_of_cell? w _ hx113_1)).trans hx113_1
               replace hx113_2 := (HB.out.cell (World.block_lt_of_cell? w _ hx113_2)).trans hx113_2
               have HR113_1 := zaa.mk hi113_1;have HC113_1 := zaa.mk hl113_1;clear hi113_1 hl113_1
               replace hx113_0 := (cell_far (p := ⟨gb112, 0, none⟩) (by first | (rw [add_block]; exact hn113_0) | (show (Addr.add _ _).block ≠ _; rw [add_block]; exact hn113_0) | exact hn113_0) (.int .i64 ((zae l0_2 x4_2).f0))).trans hx113_0
               replace hx113_1 := (cell_far (p := ⟨gb112, 0, none⟩) (by first | (rw [add_block]; exact hn113_0) | (show (Addr.add _ _).block ≠ _; rw [add_block]; exact hn113_0) | exact hn113_0) (.int .i64 ((zae l0_2 x4_2).f0))).trans hx113_1
               replace hx113_2 := (cell_far (p := ⟨gb112, 0, none⟩) (by first | (rw [add_block]; exact hn113_0) | (show (Addr.add _ _).block ≠ _; rw [add_block]; exact hn113_0) | exact hn113_0) (.int .i64 ((zae l0_2 x4_2).f0))).trans hx113_2
               replace hx113_0 := (cell_far (p := ⟨gb112, 1, none⟩) (by first | (rw [add_block]; exact hn113_1) | (show (Addr.add _ _).block ≠ _; rw [add_block]; exact hn113_1) | exact hn113_1) (.slice A111_1 ((zae l0_2 x4_2).f1).length c111_1)).trans hx113_0
               replace hx113_1 := (cell_far (p := ⟨gb112, 1, none⟩) (by first | (rw [add_block]; exact hn113_1) | (show (Addr.add _ _).block ≠ _; rw [add_block]; exact hn113_1) | exact hn113_1) (.slice A111_1 ((zae l0_2 x4_2).f1).length c111_1)).trans hx113_1
               replace hx113_2 := (cell_far (p := ⟨gb112, 1, none⟩) (by first | (rw [add_block]; exact hn113_1) | (show (Addr.add _ _).block ≠ _; rw [add_block]; exact hn113_1) | exact hn113_1) (.slice A111_1 ((zae l0_2 x4_2).f1).length c111_1)).trans hx113_2
               replace hx113_0 := (cell_far (p := ⟨gb112, 2, none⟩) (by first | (rw [add_block]; exact hn113_2) | (show (Addr.add _ _).block ≠ _; rw [add_block]; exact hn113_2) | exact hn113_2) (.int .i64 ((zae l0_2 x4_2).f2))).trans hx113_0
               replace hx113_1 := (cell_far (p := ⟨gb112, 2, none⟩) (by first | (rw [add_block]; exact hn113_2) | (show (Addr.add _ _).block ≠ _; rw [add_block]; exact hn113_2) | exact hn113_2) (.int .i64 ((zae l0_2 x4_2).f2))).trans hx113_1
               replace hx113_2 := (cell_far (p := ⟨gb112, 2, none⟩) (by first | (rw [add_block]; exact hn113_2) | (show (Addr.add _ _).block ≠ _; rw [add_block]; exact hn113_2) | exact hn113_2) (.int .i64 ((zae l0_2 x4_2).f2))).trans hx113_2
               (try have hy113_0 := fun (n_ : Nat) => (show (((((w21.drewN n_).setCell ⟨gb112, 0, none⟩ (.int .i64 ((zae l0_2 x4_2).f0))).setCell ⟨gb112, 1, none⟩ (.slice A111_1 ((zae l0_2 x4_2).f1).length c111_1)).setCell ⟨gb112, 2, none⟩ (.int .i64 ((zae l0_2 x4_2).f2)))).cell? _ = some _ from hx113_0))
               (try have hy113_1 := fun (n_ : Nat) => (show (((((w21.drewN n_).setCell ⟨gb112, 0, none⟩ (.int .i64 ((zae l0_2 x4_2).f0))).setCell ⟨gb112, 1, none⟩ (.slice A111_1 ((zae l0_2 x4_2).f1).length c111_1)).setCell ⟨gb112, 2, none⟩ (.int .i64 ((zae l0_2 x4_2).f2)))).cell? _ = some _ from hx113_1))
               (try have hy113_2 := fun (n_ : Nat) => (show (((((w21.drewN n_).setCell ⟨gb112, 0, none⟩ (.int .i64 ((zae l0_2 x4_2).f0))).setCell ⟨gb112, 1, none⟩ (.slice A111_1 ((zae l0_2 x4_2).f1).length c111_1)).setCell ⟨gb112, 2, none⟩ (.int .i64 ((zae l0_2 x4_2).f2)))).cell? _ = some _ from hx113_2))
               clear hn113_0;clear hn113_1;clear hn113_2
               replace p113 := eq_true p113
               replace q113 := eq_true q113
               go_wp2
               repeat (go_quiet (fail); try go_wp2)
               go_meet
               case rel => exact ⟨_, (true), (by first | rfl | (simp; done) | (simp [*]; done)), H', ⟨by have := HJ1.out; have := HK2.out; first | omega | exact Nat.le_refl _⟩, ⟨by (with_reducible repeat (first | refine zam ?_ _ | refine zaj ?_ | refine zai ?_ _)); refine zbl ?_ NB108_112.out _; (with_reducible repeat (first | refine zam ?_ _ | refine zaj ?_ | refine zai ?_ _)); refine zbl ?_ NB108_112.out _; (with_reducible repeat (first | refine zam ?_ _ | refine zaj ?_ | refine zai ?_ _)); refine zbl ?_ NB108_112.out _; (with_reducible repeat (first | refine zam ?_ _ | refine zaj ?_ | refine zai ?_ _)); exact BK108.out⟩, ⟨by (with_reducible repeat (first | refine zam ?_ _ | refine zaj ?_ | refine zai ?_ _)); refine zbn (cs := #[.int .i64 ((zae l0_2 x4_2).f0), .slice A111_1 ((zae l0_2 x4_2).f1).length c111_1, .int .i64 0]) ?_ 2 _ rfl; (with_reducible repeat (first | refine zam ?_ _ | refine zaj ?_ | refine zai ?_ _)); refine zbn (cs := #[.int .i64 ((zae l0_2 x4_2).f0), .slice none 0 0, .int .i64 0]) ?_ 1 _ rfl; (with_reducible repeat (first | refine zam ?_ _ | refine zaj ?_ | refine zai ?_ _)); refine zbn (cs := #[.int .i64 0, .slice none 0 0, .int .i64 0]) ?_ 0 _ rfl; (with_reducible repeat (first | refine zam ?_ _ | refine zaj ?_ | refine zai ?_ _)); exact BK112.out⟩, ⟨by repeat (first | (with_reducible first | exact HB.out | apply zah | apply zab | apply zaf | refine zal ?_ GE108.out | refine zal ?_ GE112.out) | exact HB.out)⟩⟩
              ·rw [if_neg c36] at H
               have c36b0 : decide (((zae l0_2 x4_2).f0) < ((zae l0_2 (ji33)).f0)) = false := decide_eq_false c36
               clear c36
               by_cases c40 : (((zae l0_2 x4_2).f1).length : Int) > 64
               ·rw [if_pos c40] at H
                have c40b0 : decide (64 < (((zae l0_2 x4_2).f1).length : Int)) = true := decide_eq_true c40
                have c40b1 : decide (64 < ((zae l0_2 x4_2).f1).length) = true := decide_eq_true (by omega)
                clear c40
                have H' := zaa.mk H
                clear H
                have hnb41 := NB112_108.out
                have hnc41 := NB108_112.out
                have hcz42_0 : w21.cell? ⟨gb112, 0, none⟩ = some (.int .i64 0) := (zac BK112.out 0).trans rfl
                have hcz42_1 : w21.cell? ⟨gb112, 1, none⟩ = some (.slice none 0 0) := (zac BK112.out 1).trans rfl
                have hcz42_2 : w21.cell? ⟨gb112, 2, none⟩ = some (.int .i64 0) := (zac BK112.out 2).trans rfl
                have hfz42_0 := zak BK112.out 0
                have hfz42_1 := zak BK112.out 1
                have hfz42_2 := zak BK112.out 2
                have hcz43_0 : w21.cell? ⟨gb108, 0, none⟩ = some (.slice A0_0 l0_0.length c0_0) := (zac BK108.out 0).trans rfl
                have hcz43_1 : w21.cell? ⟨gb108, 1, none⟩ = some (.slice A0_1 l0_1.length c0_1) := (zac BK108.out 1).trans rfl
                have hcz43_2 : w21.cell? ⟨gb108, 2, none⟩ = some (.slice (some ad111) l0_2.length c0_2) := (zac BK108.out 2).trans rfl
                have hfz43_0 := zak BK108.out 0
                have hfz43_1 := zak BK108.out 1
                have hfz43_2 := zak BK108.out 2
                have p113 : 0 ≤ ((ji33) : Int) := of_decide_eq_true (by first | (with_reducible assumption) | assumption)
                have q113 : (ji33) < (l0_2.length : Int) := of_decide_eq_true (by first | (with_reducible assumption) | assumption)
                obtain ⟨ad113, A113_1, c113_1, e113, hx113_0, hx113_1, hx113_2, hl113_1, hi113_1⟩ := at_T42 HR0_2.out (ji33) p113 q113
                obtain rfl : ad111 = ad113 := (by injection e113)
                have hn113_0 : ad111.block ≠ gb112 := Nat.ne_of_lt (Nat.lt_of_lt_of_le (by have := World.block_lt_of_cell? _ _ hx113_0; first | rwa [add_block] at this | exact this) GW112.out)
                have hn113_1 : ad111.block ≠ gb112 := Nat.ne_of_lt (Nat.lt_of_lt_of_le (by have := World.block_lt_of_cell? _ _ hx113_0; first | rwa [add_block] at this | exact this) GW112.out)
                have hn113_2 : ad111.block ≠ gb112 := Nat.ne_of_lt (Nat.lt_of_lt_of_le (by have := World.block_lt_of_cell? _ _ hx113_0; first | rwa [add_block] at this | exact this) GW112.out)
                replace hx113_0 := (HB.out.cell (World.block_lt_of_cell? w _ hx113_0)).trans hx113_0
                replace hx113_1 := (HB.out.cell (World.block_lt_of_cell? w _ hx113_1)).trans hx113_1
                replace hx113_2 := (HB.out.cell (World.block_lt_of_cell? w _ hx113_2)).trans hx113_2
                have HR113_1 := zaa.mk hi113_1;have HC113_1 := zaa.mk hl113_1;clear hi113_1 hl113_1
                replace hx113_0 := (cell_far (p := ⟨gb112, 0, none⟩) (by first | (rw [add_block]; exact hn113_0) | (show (Addr.add _ _).block ≠ _; rw [add_block]; exact hn113_0) | exact hn113_0) (.int .i64 ((zae l0_2 x4_2).f0))).trans hx113_0
                replace hx113_1 := (cell_far (p := ⟨gb112, 0, none⟩) (by first | (rw [add_block]; exact hn113_0) | (show (Addr.add _ _).block ≠ _; rw [add_block]; exact hn113_0) | exact hn113_0) (.int .i64 ((zae l0_2 x4_2).f0))).trans hx113_1
                replace hx113_2 := (cell_far (p := ⟨gb112, 0, none⟩) (by first | (rw [add_block]; exact hn113_0) | (show (Addr.add _ _).block ≠ _; rw [add_block]; exact hn113_0) | exact hn113_0) (.int .i64 ((zae l0_2 x4_2).f0))).trans hx113_2
                replace hx113_0 := (cell_far (p := ⟨gb112, 1, none⟩) (by first | (rw [add_block]; exact hn113_1) | (show (Addr.add _ _).block ≠ _; rw [add_block]; exact hn113_1) | exact hn113_1) (.slice A111_1 ((zae l0_2 x4_2).f1).length c111_1)).trans hx113_0
                replace hx113_1 := (cell_far (p := ⟨gb112, 1, none⟩) (by first | (rw [add_block]; exact hn113_1) | (show (Addr.add _ _).block ≠ _; rw [add_block]; exact hn113_1) | exact hn113_1) (.slice A111_1 ((zae l0_2 x4_2).f1).length c111_1)).trans hx113_1
                replace hx113_2 := (cell_far (p := ⟨gb112, 1, none⟩) (by first | (rw [add_block]; exact hn113_1) | (show (Addr.add _ _).block ≠ _; rw [add_block]; exact hn113_1) | exact hn113_1) (.slice A111_1 ((zae l0_2 x4_2).f1).length c111_1)).trans hx113_2
                replace hx113_0 := (cell_far (p := ⟨gb112, 2, none⟩) (by first | (rw [add_block]; exact hn113_2) | (show (Addr.add _ _).block ≠ _; rw [add_block]; exact hn113_2) | exact hn113_2) (.int .i64 ((zae l0_2 x4_2).f2))).trans hx113_0
                replace hx113_1 := (cell_far (p := ⟨gb112, 2, none⟩) (by first | (rw [add_block]; exact hn113_2) | (show (Addr.add _ _).block ≠ _; rw [add_block]; exact hn113_2) | exact hn113_2) (.int .i64 ((zae l0_2 x4_2).f2))).trans hx113_1
                replace hx113_2 := (cell_far (p := ⟨gb112, 2, none⟩) (by first | (rw [add_block]; exact hn113_2) | (show (Addr.add _ _).block ≠ _; rw [add_block]; exact hn113_2) | exact hn113_2) (.int .i64 ((zae l0_2 x4_2).f2))).trans hx113_2
                (try have hy113_0 := fun (n_ : Nat) => (show (((((w21.drewN n_).setCell ⟨gb112, 0, none⟩ (.int .i64 ((zae l0_2 x4_2).f0))).setCell ⟨gb112, 1, none⟩ (.slice A111_1 ((zae l0_2 x4_2).f1).length c111_1)).setCell ⟨gb112, 2, none⟩ (.int .i64 ((zae l0_2 x4_2).f2)))).cell? _ = some _ from hx113_0))
                (try have hy113_1 := fun (n_ : Nat) => (show (((((w21.drewN n_).setCell ⟨gb112, 0, none⟩ (.int .i64 ((zae l0_2 x4_2).f0))).setCell ⟨gb112, 1, none⟩ (.slice A111_1 ((zae l0_2 x4_2).f1).length c111_1)).setCell ⟨gb112, 2, none⟩ (.int .i64 ((zae l0_2 x4_2).f2)))).cell? _ = some _ from hx113_1))
                (try have hy113_2 := fun (n_ : Nat) => (show (((((w21.drewN n_).setCell ⟨gb112, 0, none⟩ (.int .i64 ((zae l0_2 x4_2).f0))).setCell ⟨gb112, 1, none⟩ (.slice A111_1 ((zae l0_2 x4_2).f1).length c111_1)).setCell ⟨gb112, 2, none⟩ (.int .i64 ((zae l0_2 x4_2).f2)))).cell? _ = some _ from hx113_2))
                clear hn113_0;clear hn113_1;clear hn113_2
                replace p113 := eq_true p113
                replace q113 := eq_true q113
                go_wp2
                repeat (go_quiet (fail); try go_wp2)
                go_meet
                case rel => exact ⟨_, (true), (by first | rfl | (simp; done) | (simp [*]; done)), H', ⟨by have := HJ1.out; have := HK2.out; first | omega | exact Nat.le_refl _⟩, ⟨by (with_reducible repeat (first | refine zam ?_ _ | refine zaj ?_ | refine zai ?_ _)); refine zbl ?_ NB108_112.out _; (with_reducible repeat (first | refine zam ?_ _ | refine zaj ?_ | refine zai ?_ _)); refine zbl ?_ NB108_112.out _; (with_reducible repeat (first | refine zam ?_ _ | refine zaj ?_ | refine zai ?_ _)); refine zbl ?_ NB108_112.out _; (with_reducible repeat (first | refine zam ?_ _ | refine zaj ?_ | refine zai ?_ _)); exact BK108.out⟩, ⟨by (with_reducible repeat (first | refine zam ?_ _ | refine zaj ?_ | refine zai ?_ _)); refine zbn (cs := #[.int .i64 ((zae l0_2 x4_2).f0), .slice A111_1 ((zae l0_2 x4_2).f1).length c111_1, .int .i64 0]) ?_ 2 _ rfl; (with_reducible repeat (first | refine zam ?_ _ | refine zaj ?_ | refine zai ?_ _)); refine zbn (cs := #[.int .i64 ((zae l0_2 x4_2).f0), .slice none 0 0, .int .i64 0]) ?_ 1 _ rfl; (with_reducible repeat (first | refine zam ?_ _ | refine zaj ?_ | refine zai ?_ _)); refine zbn (cs := #[.int .i64 0, .slice none 0 0, .int .i64 0]) ?_ 0 _ rfl; (with_reducible repeat (first | refine zam ?_ _ | refine zaj ?_ | refine zai ?_ _)); exact BK112.out⟩, ⟨by repeat (first | (with_reducible first | exact HB.out | apply zah | apply zab | apply zaf | refine zal ?_ GE108.out | refine zal ?_ GE112.out) | exact HB.out)⟩⟩
               ·rw [if_neg c40] at H
                have c40b0 : decide (64 < (((zae l0_2 x4_2).f1).length : Int)) = false := decide_eq_false c40
                have c40b1 : decide (64 < ((zae l0_2 x4_2).f1).length) = false := decide_eq_false (by omega)
                clear c40
                by_cases c44 : ((zae l0_2 x4_2).f2) < (-10000)
                ·rw [if_pos c44] at H
                 have c44b0 : decide (((zae l0_2 x4_2).f2) < (-10000)) = true := decide_eq_true c44
                 clear c44
                 have H' := zaa.mk H
                 clear H
                 have hnb45 := NB112_108.out
                 have hnc45 := NB108_112.out
                 have hcz46_0 : w21.cell? ⟨gb112, 0, none⟩ = some (.int .i64 0) := (zac BK112.out 0).trans rfl
                 have hcz46_1 : w21.cell? ⟨gb112, 1, none⟩ = some (.slice none 0 0) := (zac BK112.out 1).trans rfl
                 have hcz46_2 : w21.cell? ⟨gb112, 2, none⟩ = some (.int .i64 0) := (zac BK112.out 2).trans rfl
                 have hfz46_0 := zak BK112.out 0
                 have hfz46_1 := zak BK112.out 1
                 have hfz46_2 := zak BK112.out 2
                 have hcz47_0 : w21.cell? ⟨gb108, 0, none⟩ = some (.slice A0_0 l0_0.length c0_0) := (zac BK108.out 0).trans rfl
                 have hcz47_1 : w21.cell? ⟨gb108, 1, none⟩ = some (.slice A0_1 l0_1.length c0_1) := (zac BK108.out 1).trans rfl
                 have hcz47_2 : w21.cell? ⟨gb108, 2, none⟩ = some (.slice (some ad111) l0_2.length c0_2) := (zac BK108.out 2).trans rfl
                 have hfz47_0 := zak BK108.out 0
                 have hfz47_1 := zak BK108.out 1
                 have hfz47_2 := zak BK108.out 2
                 have p113 : 0 ≤ ((ji33) : Int) := of_decide_eq_true (by first | (with_reducible assumption) | assumption)
                 have q113 : (ji33) < (l0_2.length : Int) := of_decide_eq_true (by first | (with_reducible assumption) | assumption)
                 obtain ⟨ad113, A113_1, c113_1, e113, hx113_0, hx113_1, hx113_2, hl113_1, hi113_1⟩ := at_T42 HR0_2.out (ji33) p113 q113
                 obtain rfl : ad111 = ad113 := (by injection e113)
                 have hn113_0 : ad111.block ≠ gb112 := Nat.ne_of_lt (Nat.lt_of_lt_of_le (by have := World.block_lt_of_cell? _ _ hx113_0; first | rwa [add_block] at this | exact this) GW112.out)
                 have hn113_1 : ad111.block ≠ gb112 := Nat.ne_of_lt (Nat.lt_of_lt_of_le (by have := World.block_lt_of_cell? _ _ hx113_0; first | rwa [add_block] at this | exact this) GW112.out)
                 have hn113_2 : ad111.block ≠ gb112 := Nat.ne_of_lt (Nat.lt_of_lt_of_le (by have := World.block_lt_of_cell? _ _ hx113_0; first | rwa [add_block] at this | exact this) GW112.out)
                 replace hx113_0 := (HB.out.cell (World.block_lt_of_cell? w _ hx113_0)).trans hx113_0
                 replace hx113_1 := (HB.out.cell (World.block_lt_of_cell? w _ hx113_1)).trans hx113_1
                 replace hx113_2 := (HB.out.cell (World.block_lt_of_cell? w _ hx113_2)).trans hx113_2
                 have HR113_1 := zaa.mk hi113_1;have HC113_1 := zaa.mk hl113_1;clear hi113_1 hl113_1
                 replace hx113_0 := (cell_far (p := ⟨gb112, 0, none⟩) (by first | (rw [add_block]; exact hn113_0) | (show (Addr.add _ _).block ≠ _; rw [add_block]; exact hn113_0) | exact hn113_0) (.int .i64 ((zae l0_2 x4_2).f0))).trans hx113_0
                 replace hx113_1 := (cell_far (p := ⟨gb112, 0, none⟩) (by first | (rw [add_block]; exact hn113_0) | (show (Addr.add _ _).block ≠ _; rw [add_block]; exact hn113_0) | exact hn113_0) (.int .i64 ((zae l0_2 x4_2).f0))).trans hx113_1
                 replace hx113_2 := (cell_far (p := ⟨gb112, 0, none⟩) (by first | (rw [add_block]; exact hn113_0) | (show (Addr.add _ _).block ≠ _; rw [add_block]; exact hn113_0) | exact hn113_0) (.int .i64 ((zae l0_2 x4_2).f0))).trans hx113_2
                 replace hx113_0 := (cell_far (p := ⟨gb112, 1, none⟩) (by first | (rw [add_block]; exact hn113_1) | (show (Addr.add _ _).block ≠ _; rw [add_block]; exact hn113_1) | exact hn113_1) (.slice A111_1 ((zae l0_2 x4_2).f1).length c111_1)).trans hx113_0
                 replace hx113_1 := (cell_far (p := ⟨gb112, 1, none⟩) (by first | (rw [add_block]; exact hn113_1) | (show (Addr.add _ _).block ≠ _; rw [add_block]; exact hn113_1) | exact hn113_1) (.slice A111_1 ((zae l0_2 x4_2).f1).length c111_1)).trans hx113_1
                 replace hx113_2 := (cell_far (p := ⟨gb112, 1, none⟩) (by first | (rw [add_block]; exact hn113_1) | (show (Addr.add _ _).block ≠ _; rw [add_block]; exact hn113_1) | exact hn113_1) (.slice A111_1 ((zae l0_2 x4_2).f1).length c111_1)).trans hx113_2
                 replace hx113_0 := (cell_far (p := ⟨gb112, 2, none⟩) (by first | (rw [add_block]; exact hn113_2) | (show (Addr.add _ _).block ≠ _; rw [add_block]; exact hn113_2) | exact hn113_2) (.int .i64 ((zae l0_2 x4_2).f2))).trans hx113_0
                 replace hx113_1 := (cell_far (p := ⟨gb112, 2, none⟩) (by first | (rw [add_block]; exact hn113_2) | (show (Addr.add _ _).block ≠ _; rw [add_block]; exact hn113_2) | exact hn113_2) (.int .i64 ((zae l0_2 x4_2).f2))).trans hx113_1
                 replace hx113_2 := (cell_far (p := ⟨gb112, 2, none⟩) (by first | (rw [add_block]; exact hn113_2) | (show (Addr.add _ _).block ≠ _; rw [add_block]; exact hn113_2) | exact hn113_2) (.int .i64 ((zae l0_2 x4_2).f2))).trans hx113_2
                 (try have hy113_0 := fun (n_ : Nat) => (show (((((w21.drewN n_).setCell ⟨gb112, 0, none⟩ (.int .i64 ((zae l0_2 x4_2).f0))).setCell ⟨gb112, 1, none⟩ (.slice A111_1 ((zae l0_2 x4_2).f1).length c111_1)).setCell ⟨gb112, 2, none⟩ (.int .i64 ((zae l0_2 x4_2).f2)))).cell? _ = some _ from hx113_0))
                 (try have hy113_1 := fun (n_ : Nat) => (show (((((w21.drewN n_).setCell ⟨gb112, 0, none⟩ (.int .i64 ((zae l0_2 x4_2).f0))).setCell ⟨gb112, 1, none⟩ (.slice A111_1 ((zae l0_2 x4_2).f1).length c111_1)).setCell ⟨gb112, 2, none⟩ (.int .i64 ((zae l0_2 x4_2).f2)))).cell? _ = some _ from hx113_1))
                 (try have hy113_2 := fun (n_ : Nat) => (show (((((w21.drewN n_).setCell ⟨gb112, 0, none⟩ (.int .i64 ((zae l0_2 x4_2).f0))).setCell ⟨gb112, 1, none⟩ (.slice A111_1 ((zae l0_2 x4_2).f1).length c111_1)).setCell ⟨gb112, 2, none⟩ (.int .i64 ((zae l0_2 x4_2).f2)))).cell? _ = some _ from hx113_2))
                 clear hn113_0;clear hn113_1;clear hn113_2
                 replace p113 := eq_true p113
                 replace q113 := eq_true q113
                 go_wp2
                 repeat (go_quiet (fail); try go_wp2)
                 go_meet
                 case rel => exact ⟨_, (true), (by first | rfl | (simp; done) | (simp [*]; done)), H', ⟨by have := HJ1.out; have := HK2.out; first | omega | exact Nat.le_refl _⟩, ⟨by (with_reducible repeat (first | refine zam ?_ _ | refine zaj ?_ | refine zai ?_ _)); refine zbl ?_ NB108_112.out _; (with_reducible repeat (first | refine zam ?_ _ | refine zaj ?_ | refine zai ?_ _)); refine zbl ?_ NB108_112.out _; (with_reducible repeat (first | refine zam ?_ _ | refine zaj ?_ | refine zai ?_ _)); refine zbl ?_ NB108_112.out _; (with_reducible repeat (first | refine zam ?_ _ | refine zaj ?_ | refine zai ?_ _)); exact BK108.out⟩, ⟨by (with_reducible repeat (first | refine zam ?_ _ | refine zaj ?_ | refine zai ?_ _)); refine zbn (cs := #[.int .i64 ((zae l0_2 x4_2).f0), .slice A111_1 ((zae l0_2 x4_2).f1).length c111_1, .int .i64 0]) ?_ 2 _ rfl; (with_reducible repeat (first | refine zam ?_ _ | refine zaj ?_ | refine zai ?_ _)); refine zbn (cs := #[.int .i64 ((zae l0_2 x4_2).f0), .slice none 0 0, .int .i64 0]) ?_ 1 _ rfl; (with_reducible repeat (first | refine zam ?_ _ | refine zaj ?_ | refine zai ?_ _)); refine zbn (cs := #[.int .i64 0, .slice none 0 0, .int .i64 0]) ?_ 0 _ rfl; (with_reducible repeat (first | refine zam ?_ _ | refine zaj ?_ | refine zai ?_ _)); exact BK112.out⟩, ⟨by repeat (first | (with_reducible first | exact HB.out | apply zah | apply zab | apply zaf | refine zal ?_ GE108.out | refine zal ?_ GE112.out) | exact HB.out)⟩⟩
                ·rw [if_neg c44] at H
                 have c44b0 : decide (((zae l0_2 x4_2).f2) < (-10000)) = false := decide_eq_false c44
                 clear c44
                 have H' := zaa.mk H
                 clear H
                 have hnb48 := NB112_108.out
                 have hnc48 := NB108_112.out
                 have hcz49_0 : w21.cell? ⟨gb112, 0, none⟩ = some (.int .i64 0) := (zac BK112.out 0).trans rfl
                 have hcz49_1 : w21.cell? ⟨gb112, 1, none⟩ = some (.slice none 0 0) := (zac BK112.out 1).trans rfl
                 have hcz49_2 : w21.cell? ⟨gb112, 2, none⟩ = some (.int .i64 0) := (zac BK112.out 2).trans rfl
                 have hfz49_0 := zak BK112.out 0
                 have hfz49_1 := zak BK112.out 1
                 have hfz49_2 := zak BK112.out 2
                 have hcz50_0 : w21.cell? ⟨gb108, 0, none⟩ = some (.slice A0_0 l0_0.length c0_0) := (zac BK108.out 0).trans rfl
                 have hcz50_1 : w21.cell? ⟨gb108, 1, none⟩ = some (.slice A0_1 l0_1.length c0_1) := (zac BK108.out 1).trans rfl
                 have hcz50_2 : w21.cell? ⟨gb108, 2, none⟩ = some (.slice (some ad111) l0_2.length c0_2) := (zac BK108.out 2).trans rfl
                 have hfz50_0 := zak BK108.out 0
                 have hfz50_1 := zak BK108.out 1
                 have hfz50_2 := zak BK108.out 2
                 have p113 : 0 ≤ ((ji33) : Int) := of_decide_eq_true (by first | (with_reducible assumption) | assumption)
                 have q113 : (ji33) < (l0_2.length : Int) := of_decide_eq_true (by first | (with_reducible assumption) | assumption)
                 obtain ⟨ad113, A113_1, c113_1, e113, hx113_0, hx113_1, hx113_2, hl113_1, hi113_1⟩ := at_T42 HR0_2.out (ji33) p113 q113
                 obtain rfl : ad111 = ad113 := (by injection e113)
                 have hn113_0 : ad111.block ≠ gb112 := Nat.ne_of_lt (Nat.lt_of_lt_of_le (by have := World.block_lt_of_cell? _ _ hx113_0; first | rwa [add_block] at this | exact this) GW112.out)
                 have hn113_1 : ad111.block ≠ gb112 := Nat.ne_of_lt (Nat.lt_of_lt_of_le (by have := World.block_lt_of_cell? _ _ hx113_0; first | rwa [add_block] at this | exact this) GW112.out)
                 have hn113_2 : ad111.block ≠ gb112 := Nat.ne_of_lt (Nat.lt_of_lt_of_le (by have := World.block_lt_of_cell? _ _ hx113_0; first | rwa [add_block] at this | exact this) GW112.out)
                 replace hx113_0 := (HB.out.cell (World.block_lt_of_cell? w _ hx113_0)).trans hx113_0
                 replace hx113_1 := (HB.out.cell (World.block_lt_of_cell? w _ hx113_1)).trans hx113_1
                 replace hx113_2 := (HB.out.cell (World.block_lt_of_cell? w _ hx113_2)).trans hx113_2
                 have HR113_1 := zaa.mk hi113_1;have HC113_1 := zaa.mk hl113_1;clear hi113_1 hl113_1
                 replace hx113_0 := (cell_far (p := ⟨gb112, 0, none⟩) (by first | (rw [add_block]; exact hn113_0) | (show (Addr.add _ _).block ≠ _; rw [add_block]; exact hn113_0) | exact hn113_0) (.int .i64 ((zae l0_2 x4_2).f0))).trans hx113_0
                 replace hx113_1 := (cell_far (p := ⟨gb112, 0, none⟩) (by first | (rw [add_block]; exact hn113_0) | (show (Addr.add _ _).block ≠ _; rw [add_block]; exact hn113_0) | exact hn113_0) (.int .i64 ((zae l0_2 x4_2).f0))).trans hx113_1
                 replace hx113_2 := (cell_far (p := ⟨gb112, 0, none⟩) (by first | (rw [add_block]; exact hn113_0) | (show (Addr.add _ _).block ≠ _; rw [add_block]; exact hn113_0) | exact hn113_0) (.int .i64 ((zae l0_2 x4_2).f0))).trans hx113_2
                 replace hx113_0 := (cell_far (p := ⟨gb112, 1, none⟩) (by first | (rw [add_block]; exact hn113_1) | (show (Addr.add _ _).block ≠ _; rw [add_block]; exact hn113_1) | exact hn113_1) (.slice A111_1 ((zae l0_2 x4_2).f1).length c111_1)).trans hx113_0
                 replace hx113_1 := (cell_far (p := ⟨gb112, 1, none⟩) (by first | (rw [add_block]; exact hn113_1) | (show (Addr.add _ _).block ≠ _; rw [add_block]; exact hn113_1) | exact hn113_1) (.slice A111_1 ((zae l0_2 x4_2).f1).length c111_1)).trans hx113_1
                 replace hx113_2 := (cell_far (p := ⟨gb112, 1, none⟩) (by first | (rw [add_block]; exact hn113_1) | (show (Addr.add _ _).block ≠ _; rw [add_block]; exact hn113_1) | exact hn113_1) (.slice A111_1 ((zae l0_2 x4_2).f1).length c111_1)).trans hx113_2
                 replace hx113_0 := (cell_far (p := ⟨gb112, 2, none⟩) (by first | (rw [add_block]; exact hn113_2) | (show (Addr.add _ _).block ≠ _; rw [add_block]; exact hn113_2) | exact hn113_2) (.int .i64 ((zae l0_2 x4_2).f2))).trans hx113_0
                 replace hx113_1 := (cell_far (p := ⟨gb112, 2, none⟩) (by first | (rw [add_block]; exact hn113_2) | (show (Addr.add _ _).block ≠ _; rw [add_block]; exact hn113_2) | exact hn113_2) (.int .i64 ((zae l0_2 x4_2).f2))).trans hx113_1
                 replace hx113_2 := (cell_far (p := ⟨gb112, 2, none⟩) (by first | (rw [add_block]; exact hn113_2) | (show (Addr.add _ _).block ≠ _; rw [add_block]; exact hn113_2) | exact hn113_2) (.int .i64 ((zae l0_2 x4_2).f2))).trans hx113_2
                 (try have hy113_0 := fun (n_ : Nat) => (show (((((w21.drewN n_).setCell ⟨gb112, 0, none⟩ (.int .i64 ((zae l0_2 x4_2).f0))).setCell ⟨gb112, 1, none⟩ (.slice A111_1 ((zae l0_2 x4_2).f1).length c111_1)).setCell ⟨gb112, 2, none⟩ (.int .i64 ((zae l0_2 x4_2).f2)))).cell? _ = some _ from hx113_0))
                 (try have hy113_1 := fun (n_ : Nat) => (show (((((w21.drewN n_).setCell ⟨gb112, 0, none⟩ (.int .i64 ((zae l0_2 x4_2).f0))).setCell ⟨gb112, 1, none⟩ (.slice A111_1 ((zae l0_2 x4_2).f1).length c111_1)).setCell ⟨gb112, 2, none⟩ (.int .i64 ((zae l0_2 x4_2).f2)))).cell? _ = some _ from hx113_1))
                 (try have hy113_2 := fun (n_ : Nat) => (show (((((w21.drewN n_).setCell ⟨gb112, 0, none⟩ (.int .i64 ((zae l0_2 x4_2).f0))).setCell ⟨gb112, 1, none⟩ (.slice A111_1 ((zae l0_2 x4_2).f1).length c111_1)).setCell ⟨gb112, 2, none⟩ (.int .i64 ((zae l0_2 x4_2).f2)))).cell? _ = some _ from hx113_2))
                 clear hn113_0;clear hn113_1;clear hn113_2
                 replace p113 := eq_true p113
                 replace q113 := eq_true q113
                 go_wp2
                 repeat (go_quiet (fail); try go_wp2)
                 go_meet
                 case rel => exact ⟨_, (decide (((zae l0_2 x4_2).f2) > 10000)), (by first | rfl | (simp; done) | (simp [*]; done)), H', ⟨by have := HJ1.out; have := HK2.out; first | omega | exact Nat.le_refl _⟩, ⟨by (with_reducible repeat (first | refine zam ?_ _ | refine zaj ?_ | refine zai ?_ _)); refine zbl ?_ NB108_112.out _; (with_reducible repeat (first | refine zam ?_ _ | refine zaj ?_ | refine zai ?_ _)); refine zbl ?_ NB108_112.out _; (with_reducible repeat (first | refine zam ?_ _ | refine zaj ?_ | refine zai ?_ _)); refine zbl ?_ NB108_112.out _; (with_reducible repeat (first | refine zam ?_ _ | refine zaj ?_ | refine zai ?_ _)); exact BK108.out⟩, ⟨by (with_reducible repeat (first | refine zam ?_ _ | refine zaj ?_ | refine zai ?_ _)); refine zbn (cs := #[.int .i64 ((zae l0_2 x4_2).f0), .slice A111_1 ((zae l0_2 x4_2).f1).length c111_1, .int .i64 0]) ?_ 2 _ rfl; (with_reducible repeat (first | refine zam ?_ _ | refine zaj ?_ | refine zai ?_ _)); refine zbn (cs := #[.int .i64 ((zae l0_2 x4_2).f0), .slice none 0 0, .int .i64 0]) ?_ 1 _ rfl; (with_reducible repeat (first | refine zam ?_ _ | refine zaj ?_ | refine zai ?_ _)); refine zbn (cs := #[.int .i64 0, .slice none 0 0, .int .i64 0]) ?_ 0 _ rfl; (with_reducible repeat (first | refine zam ?_ _ | refine zaj ?_ | refine zai ?_ _)); exact BK112.out⟩, ⟨by repeat (first | (with_reducible first | exact HB.out | apply zah | apply zab | apply zaf | refine zal ?_ GE108.out | refine zal ?_ GE112.out) | exact HB.out)⟩⟩
             ·rw [if_neg c35] at H
              exact absurd H (by simp)
            ·rw [if_neg c34] at H
             exact absurd H (by simp)
           ·rw [if_neg c32] at H
            have c32b0 : decide (0 < x4_2) = false := decide_eq_false c32
            clear c32
            by_cases c51 : (((zae l0_2 x4_2).f1).length : Int) > 64
            ·rw [if_pos c51] at H
             have c51b0 : decide (64 < (((zae l0_2 x4_2).f1).length : Int)) = true := decide_eq_true c51
             have c51b1 : decide (64 < ((zae l0_2 x4_2).f1).length) = true := decide_eq_true (by omega)
             clear c51
             have H' := zaa.mk H
             clear H
             have hnb52 := NB112_108.out
             have hnc52 := NB108_112.out
             have hcz53_0 : w21.cell? ⟨gb112, 0, none⟩ = some (.int .i64 0) := (zac BK112.out 0).trans rfl
             have hcz53_1 : w21.cell? ⟨gb112, 1, none⟩ = some (.slice none 0 0) := (zac BK112.out 1).trans rfl
             have hcz53_2 : w21.cell? ⟨gb112, 2, none⟩ = some (.int .i64 0) := (zac BK112.out 2).trans rfl
             have hfz53_0 := zak BK112.out 0
             have hfz53_1 := zak BK112.out 1
             have hfz53_2 := zak BK112.out 2
             have hcz54_0 : w21.cell? ⟨gb108, 0, none⟩ = some (.slice A0_0 l0_0.length c0_0) := (zac BK108.out 0).trans rfl
             have hcz54_1 : w21.cell? ⟨gb108, 1, none⟩ = some (.slice A0_1 l0_1.length c0_1) := (zac BK108.out 1).trans rfl
             have hcz54_2 : w21.cell? ⟨gb108, 2, none⟩ = some (.slice (some ad111) l0_2.length c0_2) := (zac BK108.out 2).trans rfl
             have hfz54_0 := zak BK108.out 0
             have hfz54_1 := zak BK108.out 1
             have hfz54_2 := zak BK108.out 2
             go_wp2
             repeat (go_quiet (fail); try go_wp2)
             go_meet
             case rel => exact ⟨_, (true), (by first | rfl | (simp; done) | (simp [*]; done)), H', ⟨by have := HJ1.out; have := HK2.out; first | omega | exact Nat.le_refl _⟩, ⟨by (with_reducible repeat (first | refine zam ?_ _ | refine zaj ?_ | refine zai ?_ _)); refine zbl ?_ NB108_112.out _; (with_reducible repeat (first | refine zam ?_ _ | refine zaj ?_ | refine zai ?_ _)); refine zbl ?_ NB108_112.out _; (with_reducible repeat (first | refine zam ?_ _ | refine zaj ?_ | refine zai ?_ _)); refine zbl ?_ NB108_112.out _; (with_reducible repeat (first | refine zam ?_ _ | refine zaj ?_ | refine zai ?_ _)); exact BK108.out⟩, ⟨by (with_reducible repeat (first | refine zam ?_ _ | refine zaj ?_ | refine zai ?_ _)); refine zbn (cs := #[.int .i64 ((zae l0_2 x4_2).f0), .slice A111_1 ((zae l0_2 x4_2).f1).length c111_1, .int .i64 0]) ?_ 2 _ rfl; (with_reducible repeat (first | refine zam ?_ _ | refine zaj ?_ | refine zai ?_ _)); refine zbn (cs := #[.int .i64 ((zae l0_2 x4_2).f0), .slice none 0 0, .int .i64 0]) ?_ 1 _ rfl; (with_reducible repeat (first | refine zam ?_ _ | refine zaj ?_ | refine zai ?_ _)); refine zbn (cs := #[.int .i64 0, .slice none 0 0, .int .i64 0]) ?_ 0 _ rfl; (with_reducible repeat (first | refine zam ?_ _ | refine zaj ?_ | refine zai ?_ _)); exact BK112.out⟩, ⟨by repeat (first | (with_reducible first | exact HB.out | apply zah | apply zab | apply zaf | refine zal ?_ GE108.out | refine zal ?_ GE112.out) | exact HB.out)⟩⟩
            ·rw [if_neg c51] at H
             have c51b0 : decide (64 < (((zae l0_2 x4_2).f1).length : Int)) = false := decide_eq_false c51
             have c51b1 : decide (64 < ((zae l0_2 x4_2).f1).length) = false := decide_eq_false (by omega)
             clear c51
             by_cases c55 : ((zae l0_2 x4_2).f2) < (-10000)
             ·rw [if_pos c55] at H
              have c55b0 : decide (((zae l0_2 x4_2).f2) < (-10000)) = true := decide_eq_true c55
              clear c55
              have H' := zaa.mk H
              clear H
              have hnb56 := NB112_108.out
              have hnc56 := NB108_112.out
              have hcz57_0 : w21.cell? ⟨gb112, 0, none⟩ = some (.int .i64 0) := (zac BK112.out 0).trans rfl
              have hcz57_1 : w21.cell? ⟨gb112, 1, none⟩ = some (.slice none 0 0) := (zac BK112.out 1).trans rfl
              have hcz57_2 : w21.cell? ⟨gb112, 2, none⟩ = some (.int .i64 0) := (zac BK112.out 2).trans rfl
              have hfz57_0 := zak BK112.out 0
              have hfz57_1 := zak BK112.out 1
              have hfz57_2 := zak BK112.out 2
              have hcz58_0 : w21.cell? ⟨gb108, 0, none⟩ = some (.slice A0_0 l0_0.length c0_0) := (zac BK108.out 0).trans rfl
              have hcz58_1 : w21.cell? ⟨gb108, 1, none⟩ = some (.slice A0_1 l0_1.length c0_1) := (zac BK108.out 1).trans rfl
              have hcz58_2 : w21.cell? ⟨gb108, 2, none⟩ = some (.slice (some ad111) l0_2.length c0_2) := (zac BK108.out 2).trans rfl
              have hfz58_0 := zak BK108.out 0
              have hfz58_1 := zak BK108.out 1
              have hfz58_2 := zak BK108.out 2
              go_wp2
              repeat (go_quiet (fail); try go_wp2)
              go_meet
              case rel => exact ⟨_, (true), (by first | rfl | (simp; done) | (simp [*]; done)), H', ⟨by have := HJ1.out; have := HK2.out; first | omega | exact Nat.le_refl _⟩, ⟨by (with_reducible repeat (first | refine zam ?_ _ | refine zaj ?_ | refine zai ?_ _)); refine zbl ?_ NB108_112.out _; (with_reducible repeat (first | refine zam ?_ _ | refine zaj ?_ | refine zai ?_ _)); refine zbl ?_ NB108_112.out _; (with_reducible repeat (first | refine zam ?_ _ | refine zaj ?_ | refine zai ?_ _)); refine zbl ?_ NB108_112.out _; (with_reducible repeat (first | refine zam ?_ _ | refine zaj ?_ | refine zai ?_ _)); exact BK108.out⟩, ⟨by (with_reducible repeat (first | refine zam ?_ _ | refine zaj ?_ | refine zai ?_ _)); refine zbn (cs := #[.int .i64 ((zae l0_2 x4_2).f0), .slice A111_1 ((zae l0_2 x4_2).f1).length c111_1, .int .i64 0]) ?_ 2 _ rfl; (with_reducible repeat (first | refine zam ?_ _ | refine zaj ?_ | refine zai ?_ _)); refine zbn (cs := #[.int .i64 ((zae l0_2 x4_2).f0), .slice none 0 0, .int .i64 0]) ?_ 1 _ rfl; (with_reducible repeat (first | refine zam ?_ _ | refine zaj ?_ | refine zai ?_ _)); refine zbn (cs := #[.int .i64 0, .slice none 0 0, .int .i64 0]) ?_ 0 _ rfl; (with_reducible repeat (first | refine zam ?_ _ | refine zaj ?_ | refine zai ?_ _)); exact BK112.out⟩, ⟨by repeat (first | (with_reducible first | exact HB.out | apply zah | apply zab | apply zaf | refine zal ?_ GE108.out | refine zal ?_ GE112.out) | exact HB.out)⟩⟩
             ·rw [if_neg c55] at H
              have c55b0 : decide (((zae l0_2 x4_2).f2) < (-10000)) = false := decide_eq_false c55
              clear c55
              have H' := zaa.mk H
              clear H
              have hnb59 := NB112_108.out
              have hnc59 := NB108_112.out
              have hcz60_0 : w21.cell? ⟨gb112, 0, none⟩ = some (.int .i64 0) := (zac BK112.out 0).trans rfl
              have hcz60_1 : w21.cell? ⟨gb112, 1, none⟩ = some (.slice none 0 0) := (zac BK112.out 1).trans rfl
              have hcz60_2 : w21.cell? ⟨gb112, 2, none⟩ = some (.int .i64 0) := (zac BK112.out 2).trans rfl
              have hfz60_0 := zak BK112.out 0
              have hfz60_1 := zak BK112.out 1
              have hfz60_2 := zak BK112.out 2
              have hcz61_0 : w21.cell? ⟨gb108, 0, none⟩ = some (.slice A0_0 l0_0.length c0_0) := (zac BK108.out 0).trans rfl
              have hcz61_1 : w21.cell? ⟨gb108, 1, none⟩ = some (.slice A0_1 l0_1.length c0_1) := (zac BK108.out 1).trans rfl
              have hcz61_2 : w21.cell? ⟨gb108, 2, none⟩ = some (.slice (some ad111) l0_2.length c0_2) := (zac BK108.out 2).trans rfl
              have hfz61_0 := zak BK108.out 0
              have hfz61_1 := zak BK108.out 1
              have hfz61_2 := zak BK108.out 2
              go_wp2
              repeat (go_quiet (fail); try go_wp2)
              go_meet
              case rel => exact ⟨_, (decide (((zae l0_2 x4_2).f2) > 10000)), (by first | rfl | (simp; done) | (simp [*]; done)), H', ⟨by have := HJ1.out; have := HK2.out; first | omega | exact Nat.le_refl _⟩, ⟨by (with_reducible repeat (first | refine zam ?_ _ | refine zaj ?_ | refine zai ?_ _)); refine zbl ?_ NB108_112.out _; (with_reducible repeat (first | refine zam ?_ _ | refine zaj ?_ | refine zai ?_ _)); refine zbl ?_ NB108_112.out _; (with_reducible repeat (first | refine zam ?_ _ | refine zaj ?_ | refine zai ?_ _)); refine zbl ?_ NB108_112.out _; (with_reducible repeat (first | refine zam ?_ _ | refine zaj ?_ | refine zai ?_ _)); exact BK108.out⟩, ⟨by (with_reducible repeat (first | refine zam ?_ _ | refine zaj ?_ | refine zai ?_ _)); refine zbn (cs := #[.int .i64 ((zae l0_2 x4_2).f0), .slice A111_1 ((zae l0_2 x4_2).f1).length c111_1, .int .i64 0]) ?_ 2 _ rfl; (with_reducible repeat (first | refine zam ?_ _ | refine zaj ?_ | refine zai ?_ _)); refine zbn (cs := #[.int .i64 ((zae l0_2 x4_2).f0), .slice none 0 0, .int .i64 0]) ?_ 1 _ rfl; (with_reducible repeat (first | refine zam ?_ _ | refine zaj ?_ | refine zai ?_ _)); refine zbn (cs := #[.int .i64 0, .slice none 0 0, .int .i64 0]) ?_ 0 _ rfl; (with_reducible repeat (first | refine zam ?_ _ | refine zaj ?_ | refine zai ?_ _)); exact BK112.out⟩, ⟨by repeat (first | (with_reducible first | exact HB.out | apply zah | apply zab | apply zaf | refine zal ?_ GE108.out | refine zal ?_ GE112.out) | exact HB.out)⟩⟩
        case rest =>
         clear HC19;(try clear c1);(try clear p1);(try clear q1);(try clear hx1);(try clear c2);(try clear p2);(try clear c3);(try clear c4);(try clear c5);(try clear c5b0);(try clear c5b1);(try clear c5b2);(try clear p6);(try clear c7);(try clear c7b0);(try clear c9);(try clear c9b0);(try clear c9b1);(try clear c11);(try clear p11);(try clear q11);(try clear hx11);(try clear c12);(try clear c16);(try clear c17);(try clear c17b0);(try clear c18);(try clear c18b0);(try clear c22);(try clear c24);(try clear c24b0);(try clear c25);(try clear c28);(try clear c28b0);(try clear c29);(try clear c32);(try clear c32b0);(try clear c34);(try clear c34b0);(try clear c35);(try clear c35b0);(try clear c36);(try clear c36b0);(try clear c37);(try clear c40);(try clear c40b0);(try clear c40b1);(try clear c41);(try clear c44);(try clear c44b0);(try clear c45);(try clear c48);(try clear c51);(try clear c51b0);(try clear c51b1);(try clear c52);(try clear c55);(try clear c55b0);(try clear c56);(try clear c59);(try clear hcz10_0);(try clear hcz10_1);(try clear hcz10_2);(try clear hcz14_0);(try clear hcz14_1);(try clear hcz14_2);(try clear hcz15_0);(try clear hcz15_1);(try clear hcz15_2);(try clear hcz20_0);(try clear hcz20_1);(try clear hcz20_2);(try clear hcz23_0);(try clear hcz23_1);(try clear hcz23_2);(try clear hcz26_0);(try clear hcz26_1);(try clear hcz26_2);(try clear hcz27_0);(try clear hcz27_1);(try clear hcz27_2);(try clear hcz30_0);(try clear hcz30_1);(try clear hcz30_2);(try clear hcz31_0);(try clear hcz31_1);(try clear hcz31_2);(try clear hcz38_0);(try clear hcz38_1);(try clear hcz38_2);(try clear hcz39_0);(try clear hcz39_1);(try clear hcz39_2);(try clear hcz42_0);(try clear hcz42_1);(try clear hcz42_2);(try clear hcz43_0);(try clear hcz43_1);(try clear hcz43_2);(try clear hcz46_0);(try clear hcz46_1);(try clear hcz46_2);(try clear hcz47_0);(try clear hcz47_1);(try clear hcz47_2);(try clear hcz49_0);(try clear hcz49_1);(try clear hcz49_2);(try clear hcz4_0);(try clear hcz4_1);(try clear hcz4_2);(try clear hcz50_0);(try clear hcz50_1);(try clear hcz50_2);(try clear hcz53_0);(try clear hcz53_1);(try clear hcz53_2);(try clear hcz54_0);(try clear hcz54_1);(try clear hcz54_2);(try clear hcz57_0);(try clear hcz57_1);(try clear hcz57_2);(try clear hcz58_0);(try clear hcz58_1);(try clear hcz58_2);(try clear hcz60_0);(try clear hcz60_1);(try clear hcz60_2);(try clear hcz61_0);(try clear hcz61_1);(try clear hcz61_2);(try clear hcz6_0);(try clear hcz6_1);(try clear hcz6_2);(try clear hcz8_0);(try clear hcz8_1);(try clear hcz8_2);(try clear hfz10_0);(try clear hfz10_1);(try clear hfz10_2);(try clear hfz14_0);(try clear hfz14_1);(try clear hfz14_2);(try clear hfz15_0);(try clear hfz15_1);(try clear hfz15_2);(try clear hfz20_0);(try clear hfz20_1);(try clear hfz20_2);(try clear hfz23_0);(try clear hfz23_1);(try clear hfz23_2);(try clear hfz26_0);(try clear hfz26_1);(try clear hfz26_2);(try clear hfz27_0);(try clear hfz27_1);(try clear hfz27_2);(try clear hfz30_0);(try clear hfz30_1);(try clear hfz30_2);(try clear hfz31_0);(try clear hfz31_1);(try clear hfz31_2);(try clear hfz38_0);(try clear hfz38_1);(try clear hfz38_2);(try clear hfz39_0);(try clear hfz39_1);(try clear hfz39_2);(try clear hfz42_0);(try clear hfz42_1);(try clear hfz42_2);(try clear hfz43_0);(try clear hfz43_1);(try clear hfz43_2);(try clear hfz46_0);(try clear hfz46_1);(try clear hfz46_2);(try clear hfz47_0);(try clear hfz47_1);(try clear hfz47_2);(try clear hfz49_0);(try clear hfz49_1);(try clear hfz49_2);(try clear hfz4_0);(try clear hfz4_1);(try clear hfz4_2);(try clear hfz50_0);(try clear hfz50_1);(try clear hfz50_2);(try clear hfz53_0);(try clear hfz53_1);(try clear hfz53_2);(try clear hfz54_0);(try clear hfz54_1);(try clear hfz54_2);(try clear hfz57_0);(try clear hfz57_1);(try clear hfz57_2);(try clear hfz58_0);(try clear hfz58_1);(try clear hfz58_2);(try clear hfz60_0);(try clear hfz60_1);(try clear hfz60_2);(try clear hfz61_0);(try clear hfz61_1);(try clear hfz61_2);(try clear hfz6_0);(try clear hfz6_1);(try clear hfz6_2);(try clear hfz8_0);(try clear hfz8_1);(try clear hfz8_2);(try clear hx111_0);(try clear hx111_1);(try clear hx111_2);(try clear hx113_0);(try clear hx113_1);(try clear hx113_2);(try clear p111);(try clear p113);(try clear p2);(try clear p6);(try clear q111);(try clear q113)
         obtain ⟨kq, x96_18, rfl, HA, HJ18, BK108, BK112, HB⟩ := hcut
         cases kq with
         | zero => exact absurd HA.out (by simp [zan.j2])
         | succ kj18 =>
          have H := HA.out;clear HA
          simp only [zan.j2] at H
          by_cases c62 : x96_18 = true
          ·subst c62
           have H1 : (some false) = some r := by rw [if_pos rfl] at H; exact H
           clear H;have H := H1;clear H1;obtain rfl := Option.some.inj H;go_wp2
           repeat (go_quiet (fail); try go_wp2)
           go_ret
           exact ⟨by first | rfl | (simp [za2, za3] <;> rfl) | (simp [*, za2, za3] <;> rfl), by repeat (first | (with_reducible first | exact HB.out | apply zah | apply zab | apply zaf | refine zal ?_ GE108.out | refine zal ?_ GE112.out) | exact HB.out)⟩
          ·replace c62 := Bool.eq_false_iff.mpr c62
           subst c62
           have H1 : (zan.l1 kj18 (wrap64 ((l0_0.length : Int) + (l0_1.length : Int))) x4_2 0 l0_0 l0_1 l0_2 ((zae l0_2 x4_2).f0) ((zae l0_2 x4_2).f1) ((zae l0_2 x4_2).f2)) = some r := by rw [if_neg (show ¬ (false = true) by decide)] at H; exact H
           clear H;have H := H1;clear H1
           have H' := zaa.mk H
           clear H;go_wp2
           repeat (go_quiet (fail); try go_wp2)
           go_loopg [6] kj18 (fun kq v6 w' => ∃ (x6_4 : Int), v6 = .int .i64 x6_4 ∧ zaa (zan.l1 kq (wrap64 ((l0_0.length : Int) + (l0_1.length : Int))) x4_2 x6_4 l0_0 l0_1 l0_2 ((zae l0_2 x4_2).f0) ((zae l0_2 x4_2).f1) ((zae l0_2 x4_2).f2) = some r) ∧ zaa (kq ≤ kj18) ∧ zaa (w'.heap[gb108]? = some (.cells #[(.slice A0_0 l0_0.length c0_0), (.slice A0_1 l0_1.length c0_1), (.slice (some ad111) l0_2.length c0_2)] 25 (0, 0))) ∧ zaa (w'.heap[gb112]? = some (.cells #[.int .i64 ((zae l0_2 x4_2).f0), (.slice A111_1 ((zae l0_2 x4_2).f1).length c111_1), .int .i64 ((zae l0_2 x4_2).f2)] 42 (0, 0))) ∧ zaa (Below w.heap.size w w'))
           case atStart => exact ⟨(0), (by first | rfl | (simp; done) | (simp [*]; done)), H', ⟨Nat.le_refl _⟩, ⟨by (with_reducible repeat (first | refine zam ?_ _ | refine zaj ?_ | refine zai ?_ _)); exact BK108.out⟩, ⟨by (with_reducible repeat (first | refine zam ?_ _ | refine zaj ?_ | refine zai ?_ _)); exact BK112.out⟩, ⟨by repeat (first | (with_reducible first | exact HB.out | apply zah | apply zab | apply zaf | refine zal ?_ GE108.out | refine zal ?_ GE112.out) | exact HB.out)⟩⟩
           case round =>
            clear H';(try clear c1);(try clear p1);(try clear q1);(try clear hx1);(try clear c2);(try clear p2);(try clear c3);(try clear c4);(try clear c5);(try clear c5b0);(try clear c5b1);(try clear c5b2);(try clear c6);(try clear p6);(try clear c7);(try clear c7b0);(try clear c9);(try clear c9b0);(try clear c9b1);(try clear c11);(try clear p11);(try clear q11);(try clear hx11);(try clear c12);(try clear c16);(try clear c17);(try clear c17b0);(try clear c18);(try clear c18b0);(try clear c22);(try clear c24);(try clear c24b0);(try clear c25);(try clear c28);(try clear c28b0);(try clear c29);(try clear c32);(try clear c32b0);(try clear c34);(try clear c34b0);(try clear c35);(try clear c35b0);(try clear c36);(try clear c36b0);(try clear c37);(try clear c40);(try clear c40b0);(try clear c40b1);(try clear c41);(try clear c44);(try clear c44b0);(try clear c45);(try clear c48);(try clear c51);(try clear c51b0);(try clear c51b1);(try clear c52);(try clear c55);(try clear c55b0);(try clear c56);(try clear c59);(try clear c62);(try clear hcz10_0);(try clear hcz10_1);(try clear hcz10_2);(try clear hcz14_0);(try clear hcz14_1);(try clear hcz14_2);(try clear hcz15_0);(try clear hcz15_1);(try clear hcz15_2);(try clear hcz20_0);(try clear hcz20_1);(try clear hcz20_2);(try clear hcz23_0);(try clear hcz23_1);(try clear hcz23_2);(try clear hcz26_0);(try clear hcz26_1);(try clear hcz26_2);(try clear hcz27_0);(try clear hcz27_1);(try clear hcz27_2);(try clear hcz30_0);(try clear hcz30_1);(try clear hcz30_2);(try clear hcz31_0);(try clear hcz31_1);(try clear hcz31_2);(try clear hcz38_0);(try clear hcz38_1);(try clear hcz38_2);(try clear hcz39_0);(try clear hcz39_1);(try clear hcz39_2);(try clear hcz42_0);(try clear hcz42_1);(try clear hcz42_2);(try clear hcz43_0);(try clear hcz43_1);(try clear hcz43_2);(try clear hcz46_0);(try clear hcz46_1);(try clear hcz46_2);(try clear hcz47_0);(try clear hcz47_1);(try clear hcz47_2);(try clear hcz49_0);(try clear hcz49_1);(try clear hcz49_2);(try clear hcz4_0);(try clear hcz4_1);(try clear hcz4_2);(try clear hcz50_0);(try clear hcz50_1);(try clear hcz50_2);(try clear hcz53_0);(try clear hcz53_1);(try clear hcz53_2);(try clear hcz54_0);(try clear hcz54_1);(try clear hcz54_2);(try clear hcz57_0);(try clear hcz57_1);(try clear hcz57_2);(try clear hcz58_0);(try clear hcz58_1);(try clear hcz58_2);(try clear hcz60_0);(try clear hcz60_1);(try clear hcz60_2);(try clear hcz61_0);(try clear hcz61_1);(try clear hcz61_2);(try clear hcz6_0);(try clear hcz6_1);(try clear hcz6_2);(try clear hcz8_0);(try clear hcz8_1);(try clear hcz8_2);(try clear hfz10_0);(try clear hfz10_1);(try clear hfz10_2);(try clear hfz14_0);(try clear hfz14_1);(try clear hfz14_2);(try clear hfz15_0);(try clear hfz15_1);(try clear hfz15_2);(try clear hfz20_0);(try clear hfz20_1);(try clear hfz20_2);(try clear hfz23_0);(try clear hfz23_1);(try clear hfz23_2);(try clear hfz26_0);(try clear hfz26_1);(try clear hfz26_2);(try clear hfz27_0);(try clear hfz27_1);(try clear hfz27_2);(try clear hfz30_0);(try clear hfz30_1);(try clear hfz30_2);(try clear hfz31_0);(try clear hfz31_1);(try clear hfz31_2);(try clear hfz38_0);(try clear hfz38_1);(try clear hfz38_2);(try clear hfz39_0);(try clear hfz39_1);(try clear hfz39_2);(try clear hfz42_0);(try clear hfz42_1);(try clear hfz42_2);(try clear hfz43_0);(try clear hfz43_1);(try clear hfz43_2);(try clear hfz46_0);(try clear hfz46_1);(try clear hfz46_2);(try clear hfz47_0);(try clear hfz47_1);(try clear hfz47_2);(try clear hfz49_0);(try clear hfz49_1);(try clear hfz49_2);(try clear hfz4_0);(try clear hfz4_1);(try clear hfz4_2);(try clear hfz50_0);(try clear hfz50_1);(try clear hfz50_2);(try clear hfz53_0);(try clear hfz53_1);(try clear hfz53_2);(try clear hfz54_0);(try clear hfz54_1);(try clear hfz54_2);(try clear hfz57_0);(try clear hfz57_1);(try clear hfz57_2);(try clear hfz58_0);(try clear hfz58_1);(try clear hfz58_2);(try clear hfz60_0);(try clear hfz60_1);(try clear hfz60_2);(try clear hfz61_0);(try clear hfz61_1);(try clear hfz61_2);(try clear hfz6_0);(try clear hfz6_1);(try clear hfz6_2);(try clear hfz8_0);(try clear hfz8_1);(try clear hfz8_2);(try clear hx111_0);(try clear hx111_1);(try clear hx111_2);(try clear hx113_0);(try clear hx113_1);(try clear hx113_2);(try clear p1);(try clear p11);(try clear p111);(try clear p113);(try clear p2);(try clear p6);(try clear q1);(try clear q11);(try clear q111);(try clear q113)
            obtain ⟨x6_4, rfl, HA, HK4, BK108, BK112, HB⟩ := hrel
            cases gk with
            | zero => exact absurd HA.out (by simp [zan.l1])
            | succ k4 =>
             have H := HA.out;clear HA
             simp only [zan.l1] at H
             by_cases c63 : x6_4 < (((zae l0_2 x4_2).f1).length : Int)
             ·rw [if_pos c63] at H
              have c63b0 : decide (x6_4 < (((zae l0_2 x4_2).f1).length : Int)) = true := decide_eq_true c63
              clear c63
              by_cases c64 : 0 ≤ x6_4
              ·rw [if_pos c64] at H
               have c64b0 : decide (0 ≤ x6_4) = true := decide_eq_true c64
               clear c64
               by_cases c65 : ((zba ((zae l0_2 x4_2).f1) x6_4).f0) < 0
               ·rw [if_pos c65] at H
                have c65b0 : decide (((zba ((zae l0_2 x4_2).f1) x6_4).f0) < 0) = true := decide_eq_true c65
                clear c65;obtain rfl := Option.some.inj H
                have hnb66 := NB112_108.out
                have hnc66 := NB108_112.out
                have hcz67_0 : wr.cell? ⟨gb112, 0, none⟩ = some (.int .i64 ((zae l0_2 x4_2).f0)) := (zac BK112.out 0).trans rfl
                have hcz67_1 : wr.cell? ⟨gb112, 1, none⟩ = some (.slice A111_1 ((zae l0_2 x4_2).f1).length c111_1) := (zac BK112.out 1).trans rfl
                have hcz67_2 : wr.cell? ⟨gb112, 2, none⟩ = some (.int .i64 ((zae l0_2 x4_2).f2)) := (zac BK112.out 2).trans rfl
                have hfz67_0 := zak BK112.out 0
                have hfz67_1 := zak BK112.out 1
                have hfz67_2 := zak BK112.out 2
                have p114 : 0 ≤ (x6_4 : Int) := of_decide_eq_true (by first | (with_reducible assumption) | assumption)
                have q114 : x6_4 < (((zae l0_2 x4_2).f1).length : Int) := of_decide_eq_true (by first | (with_reducible assumption) | assumption)
                obtain ⟨ad114, e114, hx114_0, hx114_1, hx114_2⟩ := at_T44 HR111_1.out x6_4 p114 q114
                cases e114
                replace hx114_0 := (HB.out.cell (World.block_lt_of_cell? w _ hx114_0)).trans hx114_0
                replace hx114_1 := (HB.out.cell (World.block_lt_of_cell? w _ hx114_1)).trans hx114_1
                replace hx114_2 := (HB.out.cell (World.block_lt_of_cell? w _ hx114_2)).trans hx114_2
                replace p114 := eq_true p114
                replace q114 := eq_true q114
                go_wp2_with (first | ((with_reducible refine zbh (N := 7) rfl ?_); (try (refine zbk (by rfl) ?_; dsimp only)); refine zbe ?hg (N := 7) ?hd (cs := #[.int .i64 0, .string (⟨#[]⟩ : ByteArray), .string (⟨#[]⟩ : ByteArray)]) (t := 44) ?hr ?_; (case hd => rfl); (case hg => rfl); (case hr => first | (go_simp; done) | (go_simp; rfl)); intro gb115 hg w68 hbox hb; have n0_ := zaa.mk (zar (g := gb108) (o := .cells #[.slice A0_0 l0_0.length c0_0, .slice A0_1 l0_1.length c0_1, .slice (some ad111) l0_2.length c0_2] 25 (0, 0)) (by (with_reducible repeat (first | refine zam ?_ _ | refine zaj ?_ | refine zai ?_ _)); exact BK108.out) hb); have n1_ := zaa.mk (zar (g := gb112) (o := .cells #[.int .i64 ((zae l0_2 x4_2).f0), .slice (some ad114) ((zae l0_2 x4_2).f1).length c111_1, .int .i64 ((zae l0_2 x4_2).f2)] 42 (0, 0)) (by (with_reducible repeat (first | refine zam ?_ _ | refine zaj ?_ | refine zai ?_ _)); exact BK112.out) hb); have n2_ := zaa.mk (zaw (by repeat (first | (with_reducible first | exact HB.out | apply zah | apply zab | apply zaf | refine zal ?_ GE108.out | refine zal ?_ GE112.out) | exact HB.out)) hb); have n3_ := zaa.mk (hbox); have n4_ := zaa.mk ((by rw [hg]; exact (zas (by repeat (first | (with_reducible first | exact HB.out | apply zah | apply zab | apply zaf | refine zal ?_ GE108.out | refine zal ?_ GE112.out) | exact HB.out))) : w.heap.size ≤ gb115)); have n5_ := zaa.mk ((by rw [hg]; exact (zas (by repeat (first | (with_reducible first | exact HB.out | apply zah | apply zab | apply zaf | refine zal ?_ GE108.out | refine zal ?_ GE112.out) | exact HB.out))) : w.heap.size ≤ gb115)); have n6_ := zaa.mk ((by rw [hg]; exact Nat.ne_of_lt (zav (g := gb108) (o := .cells #[.slice A0_0 l0_0.length c0_0, .slice A0_1 l0_1.length c0_1, .slice (some ad111) l0_2.length c0_2] 25 (0, 0)) (by (with_reducible repeat (first | refine zam ?_ _ | refine zaj ?_ | refine zai ?_ _)); exact BK108.out)) : gb108 ≠ gb115)); have n7_ := zaa.mk ((by rw [hg]; exact Nat.ne_of_gt (zav (g := gb108) (o := .cells #[.slice A0_0 l0_0.length c0_0, .slice A0_1 l0_1.length c0_1, .slice (some ad111) l0_2.length c0_2] 25 (0, 0)) (by (with_reducible repeat (first | refine zam ?_ _ | refine zaj ?_ | refine zai ?_ _)); exact BK108.out)) : gb115 ≠ gb108)); have n8_ := zaa.mk ((by rw [hg]; exact Nat.ne_of_lt (zav (g := gb112) (o := .cells #[.int .i64 ((zae l0_2 x4_2).f0), .slice (some ad114) ((zae l0_2 x4_2).f1).length c111_1, .int .i64 ((zae l0_2 x4_2).f2)] 42 (0, 0)) (by (with_reducible repeat (first | refine zam ?_ _ | refine zaj ?_ | refine zai ?_ _)); exact BK112.out)) : gb112 ≠ gb115)); have n9_ := zaa.mk ((by rw [hg]; exact Nat.ne_of_gt (zav (g := gb112) (o := .cells #[.int .i64 ((zae l0_2 x4_2).f0), .slice (some ad114) ((zae l0_2 x4_2).f1).length c111_1, .int .i64 ((zae l0_2 x4_2).f2)] 42 (0, 0)) (by (with_reducible repeat (first | refine zam ?_ _ | refine zaj ?_ | refine zai ?_ _)); exact BK112.out)) : gb115 ≠ gb112)); clear BK108; clear BK112; clear HB; have BK108 := n0_; have BK112 := n1_; have HB := n2_; have BK115 := n3_; have GW115 := n4_; have GE115 := n5_; have NB108_115 := n6_; have NB115_108 := n7_; have NB112_115 := n8_; have NB115_112 := n9_; clear n0_ n1_ n2_ n3_ n4_ n5_ n6_ n7_ n8_ n9_; clear hb hbox hg; have hnb69 := NB115_108.out; have hnc69 := NB108_115.out; have hnb70 := NB115_112.out; have hnc70 := NB112_115.out; have hcz71_0 : w68.cell? ⟨gb115, 0, none⟩ = some (.int .i64 0) := (zac BK115.out 0).trans rfl; have hcz71_1 : w68.cell? ⟨gb115, 1, none⟩ = some (.string (⟨#[]⟩ : ByteArray)) := (zac BK115.out 1).trans rfl; have hcz71_2 : w68.cell? ⟨gb115, 2, none⟩ = some (.string (⟨#[]⟩ : ByteArray)) := (zac BK115.out 2).trans rfl; have hfz71_0 := zak BK115.out 0; have hfz71_1 := zak BK115.out 1; have hfz71_2 := zak BK115.out 2))
                repeat (go_quiet (first | ((with_reducible refine zbh (N := 7) rfl ?_); (try (refine zbk (by rfl) ?_; dsimp only)); refine zbe ?hg (N := 7) ?hd (cs := #[.int .i64 0, .string (⟨#[]⟩ : ByteArray), .string (⟨#[]⟩ : ByteArray)]) (t := 44) ?hr ?_; (case hd => rfl); (case hg => rfl); (case hr => first | (go_simp; done) | (go_simp; rfl)); intro gb115 hg w68 hbox hb; have n0_ := zaa.mk (zar (g := gb108) (o := .cells #[.slice A0_0 l0_0.length c0_0, .slice A0_1 l0_1.length c0_1, .slice (some ad111) l0_2.length c0_2] 25 (0, 0)) (by (with_reducible repeat (first | refine zam ?_ _ | refine zaj ?_ | refine zai ?_ _)); exact BK108.out) hb); have n1_ := zaa.mk (zar (g := gb112) (o := .cells #[.int .i64 ((zae l0_2 x4_2).f0), .slice (some ad114) ((zae l0_2 x4_2).f1).length c111_1, .int .i64 ((zae l0_2 x4_2).f2)] 42 (0, 0)) (by (with_reducible repeat (first | refine zam ?_ _ | refine zaj ?_ | refine zai ?_ _)); exact BK112.out) hb); have n2_ := zaa.mk (zaw (by repeat (first | (with_reducible first | exact HB.out | apply zah | apply zab | apply zaf | refine zal ?_ GE108.out | refine zal ?_ GE112.out) | exact HB.out)) hb); have n3_ := zaa.mk (hbox); have n4_ := zaa.mk ((by rw [hg]; exact (zas (by repeat (first | (with_reducible first | exact HB.out | apply zah | apply zab | apply zaf | refine zal ?_ GE108.out | refine zal ?_ GE112.out) | exact HB.out))) : w.heap.size ≤ gb115)); have n5_ := zaa.mk ((by rw [hg]; exact (zas (by repeat (first | (with_reducible first | exact HB.out | apply zah | apply zab | apply zaf | refine zal ?_ GE108.out | refine zal ?_ GE112.out) | exact HB.out))) : w.heap.size ≤ gb115)); have n6_ := zaa.mk ((by rw [hg]; exact Nat.ne_of_lt (zav (g := gb108) (o := .cells #[.slice A0_0 l0_0.length c0_0, .slice A0_1 l0_1.length c0_1, .slice (some ad111) l0_2.length c0_2] 25 (0, 0)) (by (with_reducible repeat (first | refine zam ?_ _ | refine zaj ?_ | refine zai ?_ _)); exact BK108.out)) : gb108 ≠ gb115)); have n7_ := zaa.mk ((by rw [hg]; exact Nat.ne_of_gt (zav (g := gb108) (o := .cells #[.slice A0_0 l0_0.length c0_0, .slice A0_1 l0_1.length c0_1, .slice (some ad111) l0_2.length c0_2] 25 (0, 0)) (by (with_reducible repeat (first | refine zam ?_ _ | refine zaj ?_ | refine zai ?_ _)); exact BK108.out)) : gb115 ≠ gb108)); have n8_ := zaa.mk ((by rw [hg]; exact Nat.ne_of_lt (zav (g := gb112) (o := .cells #[.int .i64 ((zae l0_2 x4_2).f0), .slice (some ad114) ((zae l0_2 x4_2).f1).length c111_1, .int .i64 ((zae l0_2 x4_2).f2)] 42 (0, 0)) (by (with_reducible repeat (first | refine zam ?_ _ | refine zaj ?_ | refine zai ?_ _)); exact BK112.out)) : gb112 ≠ gb115)); have n9_ := zaa.mk ((by rw [hg]; exact Nat.ne_of_gt (zav (g := gb112) (o := .cells #[.int .i64 ((zae l0_2 x4_2).f0), .slice (some ad114) ((zae l0_2 x4_2).f1).length c111_1, .int .i64 ((zae l0_2 x4_2).f2)] 42 (0, 0)) (by (with_reducible repeat (first | refine zam ?_ _ | refine zaj ?_ | refine zai ?_ _)); exact BK112.out)) : gb115 ≠ gb112)); clear BK108; clear BK112; clear HB; have BK108 := n0_; have BK112 := n1_; have HB := n2_; have BK115 := n3_; have GW115 := n4_; have GE115 := n5_; have NB108_115 := n6_; have NB115_108 := n7_; have NB112_115 := n8_; have NB115_112 := n9_; clear n0_ n1_ n2_ n3_ n4_ n5_ n6_ n7_ n8_ n9_; clear hb hbox hg; have hnb69 := NB115_108.out; have hnc69 := NB108_115.out; have hnb70 := NB115_112.out; have hnc70 := NB112_115.out; have hcz71_0 : w68.cell? ⟨gb115, 0, none⟩ = some (.int .i64 0) := (zac BK115.out 0).trans rfl; have hcz71_1 : w68.cell? ⟨gb115, 1, none⟩ = some (.string (⟨#[]⟩ : ByteArray)) := (zac BK115.out 1).trans rfl; have hcz71_2 : w68.cell? ⟨gb115, 2, none⟩ = some (.string (⟨#[]⟩ : ByteArray)) := (zac BK115.out 2).trans rfl; have hfz71_0 := zak BK115.out 0; have hfz71_1 := zak BK115.out 1; have hfz71_2 := zak BK115.out 2)); try go_wp2_with (first | ((with_reducible refine zbh (N := 7) rfl ?_); (try (refine zbk (by rfl) ?_; dsimp only)); refine zbe ?hg (N := 7) ?hd (cs := #[.int .i64 0, .string (⟨#[]⟩ : ByteArray), .string (⟨#[]⟩ : ByteArray)]) (t := 44) ?hr ?_; (case hd => rfl); (case hg => rfl); (case hr => first | (go_simp; done) | (go_simp; rfl)); intro gb115 hg w68 hbox hb; have n0_ := zaa.mk (zar (g := gb108) (o := .cells #[.slice A0_0 l0_0.length c0_0, .slice A0_1 l0_1.length c0_1, .slice (some ad111) l0_2.length c0_2] 25 (0, 0)) (by (with_reducible repeat (first | refine zam ?_ _ | refine zaj ?_ | refine zai ?_ _)); exact BK108.out) hb); have n1_ := zaa.mk (zar (g := gb112) (o := .cells #[.int .i64 ((zae l0_2 x4_2).f0), .slice (some ad114) ((zae l0_2 x4_2).f1).length c111_1, .int .i64 ((zae l0_2 x4_2).f2)] 42 (0, 0)) (by (with_reducible repeat (first | refine zam ?_ _ | refine zaj ?_ | refine zai ?_ _)); exact BK112.out) hb); have n2_ := zaa.mk (zaw (by repeat (first | (with_reducible first | exact HB.out | apply zah | apply zab | apply zaf | refine zal ?_ GE108.out | refine zal ?_ GE112.out) | exact HB.out)) hb); have n3_ := zaa.mk (hbox); have n4_ := zaa.mk ((by rw [hg]; exact (zas (by repeat (first | (with_reducible first | exact HB.out | apply zah | apply zab | apply zaf | refine zal ?_ GE108.out | refine zal ?_ GE112.out) | exact HB.out))) : w.heap.size ≤ gb115)); have n5_ := zaa.mk ((by rw [hg]; exact (zas (by repeat (first | (with_reducible first | exact HB.out | apply zah | apply zab | apply zaf | refine zal ?_ GE108.out | refine zal ?_ GE112.out) | exact HB.out))) : w.heap.size ≤ gb115)); have n6_ := zaa.mk ((by rw [hg]; exact Nat.ne_of_lt (zav (g := gb108) (o := .cells #[.slice A0_0 l0_0.length c0_0, .slice A0_1 l0_1.length c0_1, .slice (some ad111) l0_2.length c0_2] 25 (0, 0)) (by (with_reducible repeat (first | refine zam ?_ _ | refine zaj ?_ | refine zai ?_ _)); exact BK108.out)) : gb108 ≠ gb115)); have n7_ := zaa.mk ((by rw [hg]; exact Nat.ne_of_gt (zav (g := gb108) (o := .cells #[.slice A0_0 l0_0.length c0_0, .slice A0_1 l0_1.length c0_1, .slice (some ad111) l0_2.length c0_2] 25 (0, 0)) (by (with_reducible repeat (first | refine zam ?_ _ | refine zaj ?_ | refine zai ?_ _)); exact BK108.out)) : gb115 ≠ gb108)); have n8_ := zaa.mk ((by rw [hg]; exact Nat.ne_of_lt (zav (g := gb112) (o := .cells #[.int .i64 ((zae l0_2 x4_2).f0), .slice (some ad114) ((zae l0_2 x4_2).f1).length c111_1, .int .i64 ((zae l0_2 x4_2).f2)] 42 (0, 0)) (by (with_reducible repeat (first | refine zam ?_ _ | refine zaj ?_ | refine zai ?_ _)); exact BK112.out)) : gb112 ≠ gb115)); have n9_ := zaa.mk ((by rw [hg]; exact Nat.ne_of_gt (zav (g := gb112) (o := .cells #[.int .i64 ((zae l0_2 x4_2).f0), .slice (some ad114) ((zae l0_2 x4_2).f1).length c111_1, .int .i64 ((zae l0_2 x4_2).f2)] 42 (0, 0)) (by (with_reducible repeat (first | refine zam ?_ _ | refine zaj ?_ | refine zai ?_ _)); exact BK112.out)) : gb115 ≠ gb112)); clear BK108; clear BK112; clear HB; have BK108 := n0_; have BK112 := n1_; have HB := n2_; have BK115 := n3_; have GW115 := n4_; have GE115 := n5_; have NB108_115 := n6_; have NB115_108 := n7_; have NB112_115 := n8_; have NB115_112 := n9_; clear n0_ n1_ n2_ n3_ n4_ n5_ n6_ n7_ n8_ n9_; clear hb hbox hg; have hnb69 := NB115_108.out; have hnc69 := NB108_115.out; have hnb70 := NB115_112.out; have hnc70 := NB112_115.out; have hcz71_0 : w68.cell? ⟨gb115, 0, none⟩ = some (.int .i64 0) := (zac BK115.out 0).trans rfl; have hcz71_1 : w68.cell? ⟨gb115, 1, none⟩ = some (.string (⟨#[]⟩ : ByteArray)) := (zac BK115.out 1).trans rfl; have hcz71_2 : w68.cell? ⟨gb115, 2, none⟩ = some (.string (⟨#[]⟩ : ByteArray)) := (zac BK115.out 2).trans rfl; have hfz71_0 := zak BK115.out 0; have hfz71_1 := zak BK115.out 1; have hfz71_2 := zak BK115.out 2)))
                go_ret
                exact ⟨by first | rfl | (simp [za2, za3] <;> rfl) | (simp [*, za2, za3] <;> rfl), by repeat (first | (with_reducible first | exact HB.out | apply zah | apply zab | apply zaf | refine zal ?_ GE108.out | refine zal ?_ GE112.out | refine zal ?_ GE115.out) | exact HB.out)⟩
               ·rw [if_neg c65] at H
                have c65b0 : decide (((zba ((zae l0_2 x4_2).f1) x6_4).f0) < 0) = false := decide_eq_false c65
                clear c65
                by_cases c72 : ((zba ((zae l0_2 x4_2).f1) x6_4).f0) ≥ (wrap64 ((l0_0.length : Int) + (l0_1.length : Int)))
                ·rw [if_pos c72] at H
                 have c72b0 : decide ((wrap64 ((l0_0.length : Int) + (l0_1.length : Int))) ≤ ((zba ((zae l0_2 x4_2).f1) x6_4).f0)) = true := decide_eq_true c72
                 clear c72;obtain rfl := Option.some.inj H
                 have hnb73 := NB112_108.out
                 have hnc73 := NB108_112.out
                 have hcz74_0 : wr.cell? ⟨gb112, 0, none⟩ = some (.int .i64 ((zae l0_2 x4_2).f0)) := (zac BK112.out 0).trans rfl
                 have hcz74_1 : wr.cell? ⟨gb112, 1, none⟩ = some (.slice A111_1 ((zae l0_2 x4_2).f1).length c111_1) := (zac BK112.out 1).trans rfl
                 have hcz74_2 : wr.cell? ⟨gb112, 2, none⟩ = some (.int .i64 ((zae l0_2 x4_2).f2)) := (zac BK112.out 2).trans rfl
                 have hfz74_0 := zak BK112.out 0
                 have hfz74_1 := zak BK112.out 1
                 have hfz74_2 := zak BK112.out 2
                 have p114 : 0 ≤ (x6_4 : Int) := of_decide_eq_true (by first | (with_reducible assumption) | assumption)
                 have q114 : x6_4 < (((zae l0_2 x4_2).f1).length : Int) := of_decide_eq_true (by first | (with_reducible assumption) | assumption)
                 obtain ⟨ad114, e114, hx114_0, hx114_1, hx114_2⟩ := at_T44 HR111_1.out x6_4 p114 q114
                 cases e114
                 replace hx114_0 := (HB.out.cell (World.block_lt_of_cell? w _ hx114_0)).trans hx114_0
                 replace hx114_1 := (HB.out.cell (World.block_lt_of_cell? w _ hx114_1)).trans hx114_1
                 replace hx114_2 := (HB.out.cell (World.block_lt_of_cell? w _ hx114_2)).trans hx114_2
                 replace p114 := eq_true p114
                 replace q114 := eq_true q114
                 go_wp2_with (first | ((with_reducible refine zbh (N := 7) rfl ?_); (try (refine zbk (by rfl) ?_; dsimp only)); refine zbe ?hg (N := 7) ?hd (cs := #[.int .i64 0, .string (⟨#[]⟩ : ByteArray), .string (⟨#[]⟩ : ByteArray)]) (t := 44) ?hr ?_; (case hd => rfl); (case hg => rfl); (case hr => first | (go_simp; done) | (go_simp; rfl)); intro gb115 hg w75 hbox hb; have n0_ := zaa.mk (zar (g := gb108) (o := .cells #[.slice A0_0 l0_0.length c0_0, .slice A0_1 l0_1.length c0_1, .slice (some ad111) l0_2.length c0_2] 25 (0, 0)) (by (with_reducible repeat (first | refine zam ?_ _ | refine zaj ?_ | refine zai ?_ _)); exact BK108.out) hb); have n1_ := zaa.mk (zar (g := gb112) (o := .cells #[.int .i64 ((zae l0_2 x4_2).f0), .slice (some ad114) ((zae l0_2 x4_2).f1).length c111_1, .int .i64 ((zae l0_2 x4_2).f2)] 42 (0, 0)) (by (with_reducible repeat (first | refine zam ?_ _ | refine zaj ?_ | refine zai ?_ _)); exact BK112.out) hb); have n2_ := zaa.mk (zaw (by repeat (first | (with_reducible first | exact HB.out | apply zah | apply zab | apply zaf | refine zal ?_ GE108.out | refine zal ?_ GE112.out) | exact HB.out)) hb); have n3_ := zaa.mk (hbox); have n4_ := zaa.mk ((by rw [hg]; exact (zas (by repeat (first | (with_reducible first | exact HB.out | apply zah | apply zab | apply zaf | refine zal ?_ GE108.out | refine zal ?_ GE112.out) | exact HB.out))) : w.heap.size ≤ gb115)); have n5_ := zaa.mk ((by rw [hg]; exact (zas (by repeat (first | (with_reducible first | exact HB.out | apply zah | apply zab | apply zaf | refine zal ?_ GE108.out | refine zal ?_ GE112.out) | exact HB.out))) : w.heap.size ≤ gb115)); have n6_ := zaa.mk ((by rw [hg]; exact Nat.ne_of_lt (zav (g := gb108) (o := .cells #[.slice A0_0 l0_0.length c0_0, .slice A0_1 l0_1.length c0_1, .slice (some ad111) l0_2.length c0_2] 25 (0, 0)) (by (with_reducible repeat (first | refine zam ?_ _ | refine zaj ?_ | refine zai ?_ _)); exact BK108.out)) : gb108 ≠ gb115)); have n7_ := zaa.mk ((by rw [hg]; exact Nat.ne_of_gt (zav (g := gb108) (o := .cells #[.slice A0_0 l0_0.length c0_0, .slice A0_1 l0_1.length c0_1, .slice (some ad111) l0_2.length c0_2] 25 (0, 0)) (by (with_reducible repeat (first | refine zam ?_ _ | refine zaj ?_ | refine zai ?_ _)); exact BK108.out)) : gb115 ≠ gb108)); have n8_ := zaa.mk ((by rw [hg]; exact Nat.ne_of_lt (zav (g := gb112) (o := .cells #[.int .i64 ((zae l0_2 x4_2).f0), .slice (some ad114) ((zae l0_2 x4_2).f1).length c111_1, .int .i64 ((zae l0_2 x4_2).f2)] 42 (0, 0)) (by (with_reducible repeat (first | refine zam ?_ _ | refine zaj ?_ | refine zai ?_ _)); exact BK112.out)) : gb112 ≠ gb115)); have n9_ := zaa.mk ((by rw [hg]; exact Nat.ne_of_gt (zav (g := gb112) (o := .cells #[.int .i64 ((zae l0_2 x4_2).f0), .slice (some ad114) ((zae l0_2 x4_2).f1).length c111_1, .int .i64 ((zae l0_2 x4_2).f2)] 42 (0, 0)) (by (with_reducible repeat (first | refine zam ?_ _ | refine zaj ?_ | refine zai ?_ _)); exact BK112.out)) : gb115 ≠ gb112)); clear BK108; clear BK112; clear HB; have BK108 := n0_; have BK112 := n1_; have HB := n2_; have BK115 := n3_; have GW115 := n4_; have GE115 := n5_; have NB108_115 := n6_; have NB115_108 := n7_; have NB112_115 := n8_; have NB115_112 := n9_; clear n0_ n1_ n2_ n3_ n4_ n5_ n6_ n7_ n8_ n9_; clear hb hbox hg; have hnb76 := NB115_108.out; have hnc76 := NB108_115.out; have hnb77 := NB115_112.out; have hnc77 := NB112_115.out; have hcz78_0 : w75.cell? ⟨gb115, 0, none⟩ = some (.int .i64 0) := (zac BK115.out 0).trans rfl; have hcz78_1 : w75.cell? ⟨gb115, 1, none⟩ = some (.string (⟨#[]⟩ : ByteArray)) := (zac BK115.out 1).trans rfl; have hcz78_2 : w75.cell? ⟨gb115, 2, none⟩ = some (.string (⟨#[]⟩ : ByteArray)) := (zac BK115.out 2).trans rfl; have hfz78_0 := zak BK115.out 0; have hfz78_1 := zak BK115.out 1; have hfz78_2 := zak BK115.out 2))
                 repeat (go_quiet (first | ((with_reducible refine zbh (N := 7) rfl ?_); (try (refine zbk (by rfl) ?_; dsimp only)); refine zbe ?hg (N := 7) ?hd (cs := #[.int .i64 0, .string (⟨#[]⟩ : ByteArray), .string (⟨#[]⟩ : ByteArray)]) (t := 44) ?hr ?_; (case hd => rfl); (case hg => rfl); (case hr => first | (go_simp; done) | (go_simp; rfl)); intro gb115 hg w75 hbox hb; have n0_ := zaa.mk (zar (g := gb108) (o := .cells #[.slice A0_0 l0_0.length c0_0, .slice A0_1 l0_1.length c0_1, .slice (some ad111) l0_2.length c0_2] 25 (0, 0)) (by (with_reducible repeat (first | refine zam ?_ _ | refine zaj ?_ | refine zai ?_ _)); exact BK108.out) hb); have n1_ := zaa.mk (zar (g := gb112) (o := .cells #[.int .i64 ((zae l0_2 x4_2).f0), .slice (some ad114) ((zae l0_2 x4_2).f1).length c111_1, .int .i64 ((zae l0_2 x4_2).f2)] 42 (0, 0)) (by (with_reducible repeat (first | refine zam ?_ _ | refine zaj ?_ | refine zai ?_ _)); exact BK112.out) hb); have n2_ := zaa.mk (zaw (by repeat (first | (with_reducible first | exact HB.out | apply zah | apply zab | apply zaf | refine zal ?_ GE108.out | refine zal ?_ GE112.out) | exact HB.out)) hb); have n3_ := zaa.mk (hbox); have n4_ := zaa.mk ((by rw [hg]; exact (zas (by repeat (first | (with_reducible first | exact HB.out | apply zah | apply zab | apply zaf | refine zal ?_ GE108.out | refine zal ?_ GE112.out) | exact HB.out))) : w.heap.size ≤ gb115)); have n5_ := zaa.mk ((by rw [hg]; exact (zas (by repeat (first | (with_reducible first | exact HB.out | apply zah | apply zab | apply zaf | refine zal ?_ GE108.out | refine zal ?_ GE112.out) | exact HB.out))) : w.heap.size ≤ gb115)); have n6_ := zaa.mk ((by rw [hg]; exact Nat.ne_of_lt (zav (g := gb108) (o := .cells #[.slice A0_0 l0_0.length c0_0, .slice A0_1 l0_1.length c0_1, .slice (some ad111) l0_2.length c0_2] 25 (0, 0)) (by (with_reducible repeat (first | refine zam ?_ _ | refine zaj ?_ | refine zai ?_ _)); exact BK108.out)) : gb108 ≠ gb115)); have n7_ := zaa.mk ((by rw [hg]; exact Nat.ne_of_gt (zav (g := gb108) (o := .cells #[.slice A0_0 l0_0.length c0_0, .slice A0_1 l0_1.length c0_1, .slice (some ad111) l0_2.length c0_2] 25 (0, 0)) (by (with_reducible repeat (first | refine zam ?_ _ | refine zaj ?_ | refine zai ?_ _)); exact BK108.out)) : gb115 ≠ gb108)); have n8_ := zaa.mk ((by rw [hg]; exact Nat.ne_of_lt (zav (g := gb112) (o := .cells #[.int .i64 ((zae l0_2 x4_2).f0), .slice (some ad114) ((zae l0_2 x4_2).f1).length c111_1, .int .i64 ((zae l0_2 x4_2).f2)] 42 (0, 0)) (by (with_reducible repeat (first | refine zam ?_ _ | refine zaj ?_ | refine zai ?_ _)); exact BK112.out)) : gb112 ≠ gb115)); have n9_ := zaa.mk ((by rw [hg]; exact Nat.ne_of_gt (zav (g := gb112) (o := .cells #[.int .i64 ((zae l0_2 x4_2).f0), .slice (some ad114) ((zae l0_2 x4_2).f1).length c111_1, .int .i64 ((zae l0_2 x4_2).f2)] 42 (0, 0)) (by (with_reducible repeat (first | refine zam ?_ _ | refine zaj ?_ | refine zai ?_ _)); exact BK112.out)) : gb115 ≠ gb112)); clear BK108; clear BK112; clear HB; have BK108 := n0_; have BK112 := n1_; have HB := n2_; have BK115 := n3_; have GW115 := n4_; have GE115 := n5_; have NB108_115 := n6_; have NB115_108 := n7_; have NB112_115 := n8_; have NB115_112 := n9_; clear n0_ n1_ n2_ n3_ n4_ n5_ n6_ n7_ n8_ n9_; clear hb hbox hg; have hnb76 := NB115_108.out; have hnc76 := NB108_115.out; have hnb77 := NB115_112.out; have hnc77 := NB112_115.out; have hcz78_0 : w75.cell? ⟨gb115, 0, none⟩ = some (.int .i64 0) := (zac BK115.out 0).trans rfl; have hcz78_1 : w75.cell? ⟨gb115, 1, none⟩ = some (.string (⟨#[]⟩ : ByteArray)) := (zac BK115.out 1).trans rfl; have hcz78_2 : w75.cell? ⟨gb115, 2, none⟩ = some (.string (⟨#[]⟩ : ByteArray)) := (zac BK115.out 2).trans rfl; have hfz78_0 := zak BK115.out 0; have hfz78_1 := zak BK115.out 1; have hfz78_2 := zak BK115.out 2)); try go_wp2_with (first | ((with_reducible refine zbh (N := 7) rfl ?_); (try (refine zbk (by rfl) ?_; dsimp only)); refine zbe ?hg (N := 7) ?hd (cs := #[.int .i64 0, .string (⟨#[]⟩ : ByteArray), .string (⟨#[]⟩ : ByteArray)]) (t := 44) ?hr ?_; (case hd => rfl); (case hg => rfl); (case hr => first | (go_simp; done) | (go_simp; rfl)); intro gb115 hg w75 hbox hb; have n0_ := zaa.mk (zar (g := gb108) (o := .cells #[.slice A0_0 l0_0.length c0_0, .slice A0_1 l0_1.length c0_1, .slice (some ad111) l0_2.length c0_2] 25 (0, 0)) (by (with_reducible repeat (first | refine zam ?_ _ | refine zaj ?_ | refine zai ?_ _)); exact BK108.out) hb); have n1_ := zaa.mk (zar (g := gb112) (o := .cells #[.int .i64 ((zae l0_2 x4_2).f0), .slice (some ad114) ((zae l0_2 x4_2).f1).length c111_1, .int .i64 ((zae l0_2 x4_2).f2)] 42 (0, 0)) (by (with_reducible repeat (first | refine zam ?_ _ | refine zaj ?_ | refine zai ?_ _)); exact BK112.out) hb); have n2_ := zaa.mk (zaw (by repeat (first | (with_reducible first | exact HB.out | apply zah | apply zab | apply zaf | refine zal ?_ GE108.out | refine zal ?_ GE112.out) | exact HB.out)) hb); have n3_ := zaa.mk (hbox); have n4_ := zaa.mk ((by rw [hg]; exact (zas (by repeat (first | (with_reducible first | exact HB.out | apply zah | apply zab | apply zaf | refine zal ?_ GE108.out | refine zal ?_ GE112.out) | exact HB.out))) : w.heap.size ≤ gb115)); have n5_ := zaa.mk ((by rw [hg]; exact (zas (by repeat (first | (with_reducible first | exact HB.out | apply zah | apply zab | apply zaf | refine zal ?_ GE108.out | refine zal ?_ GE112.out) | exact HB.out))) : w.heap.size ≤ gb115)); have n6_ := zaa.mk ((by rw [hg]; exact Nat.ne_of_lt (zav (g := gb108) (o := .cells #[.slice A0_0 l0_0.length c0_0, .slice A0_1 l0_1.length c0_1, .slice (some ad111) l0_2.length c0_2] 25 (0, 0)) (by (with_reducible repeat (first | refine zam ?_ _ | refine zaj ?_ | refine zai ?_ _)); exact BK108.out)) : gb108 ≠ gb115)); have n7_ := zaa.mk ((by rw [hg]; exact Nat.ne_of_gt (zav (g := gb108) (o := .cells #[.slice A0_0 l0_0.length c0_0, .slice A0_1 l0_1.length c0_1, .slice (some ad111) l0_2.length c0_2] 25 (0, 0)) (by (with_reducible repeat (first | refine zam ?_ _ | refine zaj ?_ | refine zai ?_ _)); exact BK108.out)) : gb115 ≠ gb108)); have n8_ := zaa.mk ((by rw [hg]; exact Nat.ne_of_lt (zav (g := gb112) (o := .cells #[.int .i64 ((zae l0_2 x4_2).f0), .slice (some ad114) ((zae l0_2 x4_2).f1).length c111_1, .int .i64 ((zae l0_2 x4_2).f2)] 42 (0, 0)) (by (with_reducible repeat (first | refine zam ?_ _ | refine zaj ?_ | refine zai ?_ _)); exact BK112.out)) : gb112 ≠ gb115)); have n9_ := zaa.mk ((by rw [hg]; exact Nat.ne_of_gt (zav (g := gb112) (o := .cells #[.int .i64 ((zae l0_2 x4_2).f0), .slice (some ad114) ((zae l0_2 x4_2).f1).length c111_1, .int .i64 ((zae l0_2 x4_2).f2)] 42 (0, 0)) (by (with_reducible repeat (first | refine zam ?_ _ | refine zaj ?_ | refine zai ?_ _)); exact BK112.out)) : gb115 ≠ gb112)); clear BK108; clear BK112; clear HB; have BK108 := n0_; have BK112 := n1_; have HB := n2_; have BK115 := n3_; have GW115 := n4_; have GE115 := n5_; have NB108_115 := n6_; have NB115_108 := n7_; have NB112_115 := n8_; have NB115_112 := n9_; clear n0_ n1_ n2_ n3_ n4_ n5_ n6_ n7_ n8_ n9_; clear hb hbox hg; have hnb76 := NB115_108.out; have hnc76 := NB108_115.out; have hnb77 := NB115_112.out; have hnc77 := NB112_115.out; have hcz78_0 : w75.cell? ⟨gb115, 0, none⟩ = some (.int .i64 0) := (zac BK115.out 0).trans rfl; have hcz78_1 : w75.cell? ⟨gb115, 1, none⟩ = some (.string (⟨#[]⟩ : ByteArray)) := (zac BK115.out 1).trans rfl; have hcz78_2 : w75.cell? ⟨gb115, 2, none⟩ = some (.string (⟨#[]⟩ : ByteArray)) := (zac BK115.out 2).trans rfl; have hfz78_0 := zak BK115.out 0; have hfz78_1 := zak BK115.out 1; have hfz78_2 := zak BK115.out 2)))
                 go_ret
                 exact ⟨by first | rfl | (simp [za2, za3] <;> rfl) | (simp [*, za2, za3] <;> rfl), by repeat (first | (with_reducible first | exact HB.out | apply zah | apply zab | apply zaf | refine zal ?_ GE108.out | refine zal ?_ GE112.out | refine zal ?_ GE115.out) | exact HB.out)⟩
                ·rw [if_neg c72] at H
                 have c72b0 : decide ((wrap64 ((l0_0.length : Int) + (l0_1.length : Int))) ≤ ((zba ((zae l0_2 x4_2).f1) x6_4).f0)) = false := decide_eq_false c72
                 clear c72;replace H := Option.bind_eq_some_iff.mp H
                 obtain ⟨t116, A790, H⟩ := H
                 replace H : (if t116 = true then ((za1.f k4 ((zba ((zae l0_2 x4_2).f1) x6_4).f2)).bind fun t117 => (if t117 = true then (zan.l1 k4 (wrap64 ((l0_0.length : Int) + (l0_1.length : Int))) x4_2 (wrap64 (x6_4 + 1)) l0_0 l0_1 l0_2 ((zae l0_2 x4_2).f0) ((zae l0_2 x4_2).f1) ((zae l0_2 x4_2).f2)) else (some false))) else (some false)) = some r := H
                 have A79 := zaa.mk A790;clear A790
                 by_cases c80 : t116 = true
                 ·subst c80
                  have H1 : ((za1.f k4 ((zba ((zae l0_2 x4_2).f1) x6_4).f2)).bind fun t117 => (if t117 = true then (zan.l1 k4 (wrap64 ((l0_0.length : Int) + (l0_1.length : Int))) x4_2 (wrap64 (x6_4 + 1)) l0_0 l0_1 l0_2 ((zae l0_2 x4_2).f0) ((zae l0_2 x4_2).f1) ((zae l0_2 x4_2).f2)) else (some false))) = some r := by rw [if_pos rfl] at H; exact H
                  clear H;have H := H1;clear H1;replace H := Option.bind_eq_some_iff.mp H
                  obtain ⟨t117, A810, H⟩ := H
                  replace H : (if t117 = true then (zan.l1 k4 (wrap64 ((l0_0.length : Int) + (l0_1.length : Int))) x4_2 (wrap64 (x6_4 + 1)) l0_0 l0_1 l0_2 ((zae l0_2 x4_2).f0) ((zae l0_2 x4_2).f1) ((zae l0_2 x4_2).f2)) else (some false)) = some r := H
                  have A81 := zaa.mk A810;clear A810
                  by_cases c82 : t117 = true
                  ·subst c82
                   have H1 : (zan.l1 k4 (wrap64 ((l0_0.length : Int) + (l0_1.length : Int))) x4_2 (wrap64 (x6_4 + 1)) l0_0 l0_1 l0_2 ((zae l0_2 x4_2).f0) ((zae l0_2 x4_2).f1) ((zae l0_2 x4_2).f2)) = some r := by rw [if_pos rfl] at H; exact H
                   clear H;have H := H1;clear H1
                   have H' := zaa.mk H
                   clear H
                   have hnb83 := NB112_108.out
                   have hnc83 := NB108_112.out
                   have hcz84_0 : wr.cell? ⟨gb112, 0, none⟩ = some (.int .i64 ((zae l0_2 x4_2).f0)) := (zac BK112.out 0).trans rfl
                   have hcz84_1 : wr.cell? ⟨gb112, 1, none⟩ = some (.slice A111_1 ((zae l0_2 x4_2).f1).length c111_1) := (zac BK112.out 1).trans rfl
                   have hcz84_2 : wr.cell? ⟨gb112, 2, none⟩ = some (.int .i64 ((zae l0_2 x4_2).f2)) := (zac BK112.out 2).trans rfl
                   have hfz84_0 := zak BK112.out 0
                   have hfz84_1 := zak BK112.out 1
                   have hfz84_2 := zak BK112.out 2
                   have p114 : 0 ≤ (x6_4 : Int) := of_decide_eq_true (by first | (with_reducible assumption) | assumption)
                   have q114 : x6_4 < (((zae l0_2 x4_2).f1).length : Int) := of_decide_eq_true (by first | (with_reducible assumption) | assumption)
                   obtain ⟨ad114, e114, hx114_0, hx114_1, hx114_2⟩ := at_T44 HR111_1.out x6_4 p114 q114
                   cases e114
                   replace hx114_0 := (HB.out.cell (World.block_lt_of_cell? w _ hx114_0)).trans hx114_0
                   replace hx114_1 := (HB.out.cell (World.block_lt_of_cell? w _ hx114_1)).trans hx114_1
                   replace hx114_2 := (HB.out.cell (World.block_lt_of_cell? w _ hx114_2)).trans hx114_2
                   replace p114 := eq_true p114
                   replace q114 := eq_true q114
                   go_wp2_with (first | ((with_reducible refine zbh (N := 7) rfl ?_); (try (refine zbk (by rfl) ?_; dsimp only)); refine zbe ?hg (N := 7) ?hd (cs := #[.int .i64 0, .string (⟨#[]⟩ : ByteArray), .string (⟨#[]⟩ : ByteArray)]) (t := 44) ?hr ?_; (case hd => rfl); (case hg => rfl); (case hr => first | (go_simp; done) | (go_simp; rfl)); intro gb115 hg w85 hbox hb; have n0_ := zaa.mk (zar (g := gb108) (o := .cells #[.slice A0_0 l0_0.length c0_0, .slice A0_1 l0_1.length c0_1, .slice (some ad111) l0_2.length c0_2] 25 (0, 0)) (by (with_reducible repeat (first | refine zam ?_ _ | refine zaj ?_ | refine zai ?_ _)); exact BK108.out) hb); have n1_ := zaa.mk (zar (g := gb112) (o := .cells #[.int .i64 ((zae l0_2 x4_2).f0), .slice (some ad114) ((zae l0_2 x4_2).f1).length c111_1, .int .i64 ((zae l0_2 x4_2).f2)] 42 (0, 0)) (by (with_reducible repeat (first | refine zam ?_ _ | refine zaj ?_ | refine zai ?_ _)); exact BK112.out) hb); have n2_ := zaa.mk (zaw (by repeat (first | (with_reducible first | exact HB.out | apply zah | apply zab | apply zaf | refine zal ?_ GE108.out | refine zal ?_ GE112.out) | exact HB.out)) hb); have n3_ := zaa.mk (hbox); have n4_ := zaa.mk ((by rw [hg]; exact (zas (by repeat (first | (with_reducible first | exact HB.out | apply zah | apply zab | apply zaf | refine zal ?_ GE108.out | refine zal ?_ GE112.out) | exact HB.out))) : w.heap.size ≤ gb115)); have n5_ := zaa.mk ((by rw [hg]; exact (zas (by repeat (first | (with_reducible first | exact HB.out | apply zah | apply zab | apply zaf | refine zal ?_ GE108.out | refine zal ?_ GE112.out) | exact HB.out))) : w.heap.size ≤ gb115)); have n6_ := zaa.mk ((by rw [hg]; exact Nat.ne_of_lt (zav (g := gb108) (o := .cells #[.slice A0_0 l0_0.length c0_0, .slice A0_1 l0_1.length c0_1, .slice (some ad111) l0_2.length c0_2] 25 (0, 0)) (by (with_reducible repeat (first | refine zam ?_ _ | refine zaj ?_ | refine zai ?_ _)); exact BK108.out)) : gb108 ≠ gb115)); have n7_ := zaa.mk ((by rw [hg]; exact Nat.ne_of_gt (zav (g := gb108) (o := .cells #[.slice A0_0 l0_0.length c0_0, .slice A0_1 l0_1.length c0_1, .slice (some ad111) l0_2.length c0_2] 25 (0, 0)) (by (with_reducible repeat (first | refine zam ?_ _ | refine zaj ?_ | refine zai ?_ _)); exact BK108.out)) : gb115 ≠ gb108)); have n8_ := zaa.mk ((by rw [hg]; exact Nat.ne_of_lt (zav (g := gb112) (o := .cells #[.int .i64 ((zae l0_2 x4_2).f0), .slice (some ad114) ((zae l0_2 x4_2).f1).length c111_1, .int .i64 ((zae l0_2 x4_2).f2)] 42 (0, 0)) (by (with_reducible repeat (first | refine zam ?_ _ | refine zaj ?_ | refine zai ?_ _)); exact BK112.out)) : gb112 ≠ gb115)); have n9_ := zaa.mk ((by rw [hg]; exact Nat.ne_of_gt (zav (g := gb112) (o := .cells #[.int .i64 ((zae l0_2 x4_2).f0), .slice (some ad114) ((zae l0_2 x4_2).f1).length c111_1, .int .i64 ((zae l0_2 x4_2).f2)] 42 (0, 0)) (by (with_reducible repeat (first | refine zam ?_ _ | refine zaj ?_ | refine zai ?_ _)); exact BK112.out)) : gb115 ≠ gb112)); clear BK108; clear BK112; clear HB; have BK108 := n0_; have BK112 := n1_; have HB := n2_; have BK115 := n3_; have GW115 := n4_; have GE115 := n5_; have NB108_115 := n6_; have NB115_108 := n7_; have NB112_115 := n8_; have NB115_112 := n9_; clear n0_ n1_ n2_ n3_ n4_ n5_ n6_ n7_ n8_ n9_; clear hb hbox hg; have hnb86 := NB115_108.out; have hnc86 := NB108_115.out; have hnb87 := NB115_112.out; have hnc87 := NB112_115.out; have hcz88_0 : w85.cell? ⟨gb115, 0, none⟩ = some (.int .i64 0) := (zac BK115.out 0).trans rfl; have hcz88_1 : w85.cell? ⟨gb115, 1, none⟩ = some (.string (⟨#[]⟩ : ByteArray)) := (zac BK115.out 1).trans rfl; have hcz88_2 : w85.cell? ⟨gb115, 2, none⟩ = some (.string (⟨#[]⟩ : ByteArray)) := (zac BK115.out 2).trans rfl; have hfz88_0 := zak BK115.out 0; have hfz88_1 := zak BK115.out 1; have hfz88_2 := zak BK115.out 2) | (go_at_call 43; (with_reducible refine (za1.calls k4 ((zba ((zae l0_2 x4_2).f1) x6_4).f1) true _ A79.out).mono ?_); rintro e w' ⟨rfl, ⟨nd, rfl⟩⟩; (try first | exact ⟨rfl, _, World.drewN_drewN _ _ _⟩ | exact ⟨rfl, _, Eq.trans (World.drewN_drewN _ _ _) (congrArg (World.drewN _) (Nat.add_assoc _ _ _))⟩)) | (go_at_call 43; (with_reducible refine (za1.calls k4 ((zba ((zae l0_2 x4_2).f1) x6_4).f2) true _ A81.out).mono ?_); rintro e w' ⟨rfl, ⟨nd, rfl⟩⟩; (try first | exact ⟨rfl, _, World.drewN_drewN _ _ _⟩ | exact ⟨rfl, _, Eq.trans (World.drewN_drewN _ _ _) (congrArg (World.drewN _) (Nat.add_assoc _ _ _))⟩)))
                   repeat (go_quiet (first | ((with_reducible refine zbh (N := 7) rfl ?_); (try (refine zbk (by rfl) ?_; dsimp only)); refine zbe ?hg (N := 7) ?hd (cs := #[.int .i64 0, .string (⟨#[]⟩ : ByteArray), .string (⟨#[]⟩ : ByteArray)]) (t := 44) ?hr ?_; (case hd => rfl); (case hg => rfl); (case hr => first | (go_simp; done) | (go_simp; rfl)); intro gb115 hg w85 hbox hb; have n0_ := zaa.mk (zar (g := gb108) (o := .cells #[.slice A0_0 l0_0.length c0_0, .slice A0_1 l0_1.length c0_1, .slice (some ad111) l0_2.length c0_2] 25 (0, 0)) (by (with_reducible repeat (first | refine zam ?_ _ | refine zaj ?_ | refine zai ?_ _)); exact BK108.out) hb); have n1_ := zaa.mk (zar (g := gb112) (o := .cells #[.int .i64 ((zae l0_2 x4_2).f0), .slice (some ad114) ((zae l0_2 x4_2).f1).length c111_1, .int .i64 ((zae l0_2 x4_2).f2)] 42 (0, 0)) (by (with_reducible repeat (first | refine zam ?_ _ | refine zaj ?_ | refine zai ?_ _)); exact BK112.out) hb); have n2_ := zaa.mk (zaw (by repeat (first | (with_reducible first | exact HB.out | apply zah | apply zab | apply zaf | refine zal ?_ GE108.out | refine zal ?_ GE112.out) | exact HB.out)) hb); have n3_ := zaa.mk (hbox); have n4_ := zaa.mk ((by rw [hg]; exact (zas (by repeat (first | (with_reducible first | exact HB.out | apply zah | apply zab | apply zaf | refine zal ?_ GE108.out | refine zal ?_ GE112.out) | exact HB.out))) : w.heap.size ≤ gb115)); have n5_ := zaa.mk ((by rw [hg]; exact (zas (by repeat (first | (with_reducible first | exact HB.out | apply zah | apply zab | apply zaf | refine zal ?_ GE108.out | refine zal ?_ GE112.out) | exact HB.out))) : w.heap.size ≤ gb115)); have n6_ := zaa.mk ((by rw [hg]; exact Nat.ne_of_lt (zav (g := gb108) (o := .cells #[.slice A0_0 l0_0.length c0_0, .slice A0_1 l0_1.length c0_1, .slice (some ad111) l0_2.length c0_2] 25 (0, 0)) (by (with_reducible repeat (first | refine zam ?_ _ | refine zaj ?_ | refine zai ?_ _)); exact BK108.out)) : gb108 ≠ gb115)); have n7_ := zaa.mk ((by rw [hg]; exact Nat.ne_of_gt (zav (g := gb108) (o := .cells #[.slice A0_0 l0_0.length c0_0, .slice A0_1 l0_1.length c0_1, .slice (some ad111) l0_2.length c0_2] 25 (0, 0)) (by (with_reducible repeat (first | refine zam ?_ _ | refine zaj ?_ | refine zai ?_ _)); exact BK108.out)) : gb115 ≠ gb108)); have n8_ := zaa.mk ((by rw [hg]; exact Nat.ne_of_lt (zav (g := gb112) (o := .cells #[.int .i64 ((zae l0_2 x4_2).f0), .slice (some ad114) ((zae l0_2 x4_2).f1).length c111_1, .int .i64 ((zae l0_2 x4_2).f2)] 42 (0, 0)) (by (with_reducible repeat (first | refine zam ?_ _ | refine zaj ?_ | refine zai ?_ _)); exact BK112.out)) : gb112 ≠ gb115)); have n9_ := zaa.mk ((by rw [hg]; exact Nat.ne_of_gt (zav (g := gb112) (o := .cells #[.int .i64 ((zae l0_2 x4_2).f0), .slice (some ad114) ((zae l0_2 x4_2).f1).length c111_1, .int .i64 ((zae l0_2 x4_2).f2)] 42 (0, 0)) (by (with_reducible repeat (first | refine zam ?_ _ | refine zaj ?_ | refine zai ?_ _)); exact BK112.out)) : gb115 ≠ gb112)); clear BK108; clear BK112; clear HB; have BK108 := n0_; have BK112 := n1_; have HB := n2_; have BK115 := n3_; have GW115 := n4_; have GE115 := n5_; have NB108_115 := n6_; have NB115_108 := n7_; have NB112_115 := n8_; have NB115_112 := n9_; clear n0_ n1_ n2_ n3_ n4_ n5_ n6_ n7_ n8_ n9_; clear hb hbox hg; have hnb86 := NB115_108.out; have hnc86 := NB108_115.out; have hnb87 := NB115_112.out; have hnc87 := NB112_115.out; have hcz88_0 : w85.cell? ⟨gb115, 0, none⟩ = some (.int .i64 0) := (zac BK115.out 0).trans rfl; have hcz88_1 : w85.cell? ⟨gb115, 1, none⟩ = some (.string (⟨#[]⟩ : ByteArray)) := (zac BK115.out 1).trans rfl; have hcz88_2 : w85.cell? ⟨gb115, 2, none⟩ = some (.string (⟨#[]⟩ : ByteArray)) := (zac BK115.out 2).trans rfl; have hfz88_0 := zak BK115.out 0; have hfz88_1 := zak BK115.out 1; have hfz88_2 := zak BK115.out 2) | (go_at_call 43; (with_reducible refine (za1.calls k4 ((zba ((zae l0_2 x4_2).f1) x6_4).f1) true _ A79.out).mono ?_); rintro e w' ⟨rfl, ⟨nd, rfl⟩⟩; (try first | exact ⟨rfl, _, World.drewN_drewN _ _ _⟩ | exact ⟨rfl, _, Eq.trans (World.drewN_drewN _ _ _) (congrArg (World.drewN _) (Nat.add_assoc _ _ _))⟩)) | (go_at_call 43; (with_reducible refine (za1.calls k4 ((zba ((zae l0_2 x4_2).f1) x6_4).f2) true _ A81.out).mono ?_); rintro e w' ⟨rfl, ⟨nd, rfl⟩⟩; (try first | exact ⟨rfl, _, World.drewN_drewN _ _ _⟩ | exact ⟨rfl, _, Eq.trans (World.drewN_drewN _ _ _) (congrArg (World.drewN _) (Nat.add_assoc _ _ _))⟩))); try go_wp2_with (first | ((with_reducible refine zbh (N := 7) rfl ?_); (try (refine zbk (by rfl) ?_; dsimp only)); refine zbe ?hg (N := 7) ?hd (cs := #[.int .i64 0, .string (⟨#[]⟩ : ByteArray), .string (⟨#[]⟩ : ByteArray)]) (t := 44) ?hr ?_; (case hd => rfl); (case hg => rfl); (case hr => first | (go_simp; done) | (go_simp; rfl)); intro gb115 hg w85 hbox hb; have n0_ := zaa.mk (zar (g := gb108) (o := .cells #[.slice A0_0 l0_0.length c0_0, .slice A0_1 l0_1.length c0_1, .slice (some ad111) l0_2.length c0_2] 25 (0, 0)) (by (with_reducible repeat (first | refine zam ?_ _ | refine zaj ?_ | refine zai ?_ _)); exact BK108.out) hb); have n1_ := zaa.mk (zar (g := gb112) (o := .cells #[.int .i64 ((zae l0_2 x4_2).f0), .slice (some ad114) ((zae l0_2 x4_2).f1).length c111_1, .int .i64 ((zae l0_2 x4_2).f2)] 42 (0, 0)) (by (with_reducible repeat (first | refine zam ?_ _ | refine zaj ?_ | refine zai ?_ _)); exact BK112.out) hb); have n2_ := zaa.mk (zaw (by repeat (first | (with_reducible first | exact HB.out | apply zah | apply zab | apply zaf | refine zal ?_ GE108.out | refine zal ?_ GE112.out) | exact HB.out)) hb); have n3_ := zaa.mk (hbox); have n4_ := zaa.mk ((by rw [hg]; exact (zas (by repeat (first | (with_reducible first | exact HB.out | apply zah | apply zab | apply zaf | refine zal ?_ GE108.out | refine zal ?_ GE112.out) | exact HB.out))) : w.heap.size ≤ gb115)); have n5_ := zaa.mk ((by rw [hg]; exact (zas (by repeat (first | (with_reducible first | exact HB.out | apply zah | apply zab | apply zaf | refine zal ?_ GE108.out | refine zal ?_ GE112.out) | exact HB.out))) : w.heap.size ≤ gb115)); have n6_ := zaa.mk ((by rw [hg]; exact Nat.ne_of_lt (zav (g := gb108) (o := .cells #[.slice A0_0 l0_0.length c0_0, .slice A0_1 l0_1.length c0_1, .slice (some ad111) l0_2.length c0_2] 25 (0, 0)) (by (with_reducible repeat (first | refine zam ?_ _ | refine zaj ?_ | refine zai ?_ _)); exact BK108.out)) : gb108 ≠ gb115)); have n7_ := zaa.mk ((by rw [hg]; exact Nat.ne_of_gt (zav (g := gb108) (o := .cells #[.slice A0_0 l0_0.length c0_0, .slice A0_1 l0_1.length c0_1, .slice (some ad111) l0_2.length c0_2] 25 (0, 0)) (by (with_reducible repeat (first | refine zam ?_ _ | refine zaj ?_ | refine zai ?_ _)); exact BK108.out)) : gb115 ≠ gb108)); have n8_ := zaa.mk ((by rw [hg]; exact Nat.ne_of_lt (zav (g := gb112) (o := .cells #[.int .i64 ((zae l0_2 x4_2).f0), .slice (some ad114) ((zae l0_2 x4_2).f1).length c111_1, .int .i64 ((zae l0_2 x4_2).f2)] 42 (0, 0)) (by (with_reducible repeat (first | refine zam ?_ _ | refine zaj ?_ | refine zai ?_ _)); exact BK112.out)) : gb112 ≠ gb115)); have n9_ := zaa.mk ((by rw [hg]; exact Nat.ne_of_gt (zav (g := gb112) (o := .cells #[.int .i64 ((zae l0_2 x4_2).f0), .slice (some ad114) ((zae l0_2 x4_2).f1).length c111_1, .int .i64 ((zae l0_2 x4_2).f2)] 42 (0, 0)) (by (with_reducible repeat (first | refine zam ?_ _ | refine zaj ?_ | refine zai ?_ _)); exact BK112.out)) : gb115 ≠ gb112)); clear BK108; clear BK112; clear HB; have BK108 := n0_; have BK112 := n1_; have HB := n2_; have BK115 := n3_; have GW115 := n4_; have GE115 := n5_; have NB108_115 := n6_; have NB115_108 := n7_; have NB112_115 := n8_; have NB115_112 := n9_; clear n0_ n1_ n2_ n3_ n4_ n5_ n6_ n7_ n8_ n9_; clear hb hbox hg; have hnb86 := NB115_108.out; have hnc86 := NB108_115.out; have hnb87 := NB115_112.out; have hnc87 := NB112_115.out; have hcz88_0 : w85.cell? ⟨gb115, 0, none⟩ = some (.int .i64 0) := (zac BK115.out 0).trans rfl; have hcz88_1 : w85.cell? ⟨gb115, 1, none⟩ = some (.string (⟨#[]⟩ : ByteArray)) := (zac BK115.out 1).trans rfl; have hcz88_2 : w85.cell? ⟨gb115, 2, none⟩ = some (.string (⟨#[]⟩ : ByteArray)) := (zac BK115.out 2).trans rfl; have hfz88_0 := zak BK115.out 0; have hfz88_1 := zak BK115.out 1; have hfz88_2 := zak BK115.out 2) | (go_at_call 43; (with_reducible refine (za1.calls k4 ((zba ((zae l0_2 x4_2).f1) x6_4).f1) true _ A79.out).mono ?_); rintro e w' ⟨rfl, ⟨nd, rfl⟩⟩; (try first | exact ⟨rfl, _, World.drewN_drewN _ _ _⟩ | exact ⟨rfl, _, Eq.trans (World.drewN_drewN _ _ _) (congrArg (World.drewN _) (Nat.add_assoc _ _ _))⟩)) | (go_at_call 43; (with_reducible refine (za1.calls k4 ((zba ((zae l0_2 x4_2).f1) x6_4).f2) true _ A81.out).mono ?_); rintro e w' ⟨rfl, ⟨nd, rfl⟩⟩; (try first | exact ⟨rfl, _, World.drewN_drewN _ _ _⟩ | exact ⟨rfl, _, Eq.trans (World.drewN_drewN _ _ _) (congrArg (World.drewN _) (Nat.add_assoc _ _ _))⟩))))
                   go_roundg k4
                   case measure => have := HJ1.out; have := HK2.out; have := HJ18.out; have := HK4.out; omega
                   case rel => exact ⟨(wrap64 (x6_4 + 1)), (by first | rfl | (simp; done) | (simp [*]; done)), H', ⟨by have := HJ1.out; have := HK2.out; have := HJ18.out; have := HK4.out; omega⟩, ⟨by (with_reducible repeat (first | refine zam ?_ _ | refine zaj ?_ | refine zai ?_ _)); refine zbl ?_ NB108_115.out _; (with_reducible repeat (first | refine zam ?_ _ | refine zaj ?_ | refine zai ?_ _)); refine zbl ?_ NB108_115.out _; (with_reducible repeat (first | refine zam ?_ _ | refine zaj ?_ | refine zai ?_ _)); refine zbl ?_ NB108_115.out _; (with_reducible repeat (first | refine zam ?_ _ | refine zaj ?_ | refine zai ?_ _)); exact BK108.out⟩, ⟨by (with_reducible repeat (first | refine zam ?_ _ | refine zaj ?_ | refine zai ?_ _)); refine zbl ?_ NB112_115.out _; (with_reducible repeat (first | refine zam ?_ _ | refine zaj ?_ | refine zai ?_ _)); refine zbl ?_ NB112_115.out _; (with_reducible repeat (first | refine zam ?_ _ | refine zaj ?_ | refine zai ?_ _)); refine zbl ?_ NB112_115.out _; (with_reducible repeat (first | refine zam ?_ _ | refine zaj ?_ | refine zai ?_ _)); exact BK112.out⟩, ⟨by repeat (first | (with_reducible first | exact HB.out | apply zah | apply zab | apply zaf | refine zal ?_ GE108.out | refine zal ?_ GE112.out | refine zal ?_ GE115.out) | exact HB.out)⟩⟩
                  ·replace c82 := Bool.eq_false_iff.mpr c82
                   subst c82
                   have H1 : (some false) = some r := by rw [if_neg (show ¬ (false = true) by decide)] at H; exact H
                   clear H;have H := H1;clear H1;obtain rfl := Option.some.inj H
                   have hnb89 := NB112_108.out
                   have hnc89 := NB108_112.out
                   have hcz90_0 : wr.cell? ⟨gb112, 0, none⟩ = some (.int .i64 ((zae l0_2 x4_2).f0)) := (zac BK112.out 0).trans rfl
                   have hcz90_1 : wr.cell? ⟨gb112, 1, none⟩ = some (.slice A111_1 ((zae l0_2 x4_2).f1).length c111_1) := (zac BK112.out 1).trans rfl
                   have hcz90_2 : wr.cell? ⟨gb112, 2, none⟩ = some (.int .i64 ((zae l0_2 x4_2).f2)) := (zac BK112.out 2).trans rfl
                   have hfz90_0 := zak BK112.out 0
                   have hfz90_1 := zak BK112.out 1
                   have hfz90_2 := zak BK112.out 2
                   have p114 : 0 ≤ (x6_4 : Int) := of_decide_eq_true (by first | (with_reducible assumption) | assumption)
                   have q114 : x6_4 < (((zae l0_2 x4_2).f1).length : Int) := of_decide_eq_true (by first | (with_reducible assumption) | assumption)
                   obtain ⟨ad114, e114, hx114_0, hx114_1, hx114_2⟩ := at_T44 HR111_1.out x6_4 p114 q114
                   cases e114
                   replace hx114_0 := (HB.out.cell (World.block_lt_of_cell? w _ hx114_0)).trans hx114_0
                   replace hx114_1 := (HB.out.cell (World.block_lt_of_cell? w _ hx114_1)).trans hx114_1
                   replace hx114_2 := (HB.out.cell (World.block_lt_of_cell? w _ hx114_2)).trans hx114_2
                   replace p114 := eq_true p114
                   replace q114 := eq_true q114
                   go_wp2_with (first | ((with_reducible refine zbh (N := 7) rfl ?_); (try (refine zbk (by rfl) ?_; dsimp only)); refine zbe ?hg (N := 7) ?hd (cs := #[.int .i64 0, .string (⟨#[]⟩ : ByteArray), .string (⟨#[]⟩ : ByteArray)]) (t := 44) ?hr ?_; (case hd => rfl); (case hg => rfl); (case hr => first | (go_simp; done) | (go_simp; rfl)); intro gb115 hg w91 hbox hb; have n0_ := zaa.mk (zar (g := gb108) (o := .cells #[.slice A0_0 l0_0.length c0_0, .slice A0_1 l0_1.length c0_1, .slice (some ad111) l0_2.length c0_2] 25 (0, 0)) (by (with_reducible repeat (first | refine zam ?_ _ | refine zaj ?_ | refine zai ?_ _)); exact BK108.out) hb); have n1_ := zaa.mk (zar (g := gb112) (o := .cells #[.int .i64 ((zae l0_2 x4_2).f0), .slice (some ad114) ((zae l0_2 x4_2).f1).length c111_1, .int .i64 ((zae l0_2 x4_2).f2)] 42 (0, 0)) (by (with_reducible repeat (first | refine zam ?_ _ | refine zaj ?_ | refine zai ?_ _)); exact BK112.out) hb); have n2_ := zaa.mk (zaw (by repeat (first | (with_reducible first | exact HB.out | apply zah | apply zab | apply zaf | refine zal ?_ GE108.out | refine zal ?_ GE112.out) | exact HB.out)) hb); have n3_ := zaa.mk (hbox); have n4_ := zaa.mk ((by rw [hg]; exact (zas (by repeat (first | (with_reducible first | exact HB.out | apply zah | apply zab | apply zaf | refine zal ?_ GE108.out | refine zal ?_ GE112.out) | exact HB.out))) : w.heap.size ≤ gb115)); have n5_ := zaa.mk ((by rw [hg]; exact (zas (by repeat (first | (with_reducible first | exact HB.out | apply zah | apply zab | apply zaf | refine zal ?_ GE108.out | refine zal ?_ GE112.out) | exact HB.out))) : w.heap.size ≤ gb115)); have n6_ := zaa.mk ((by rw [hg]; exact Nat.ne_of_lt (zav (g := gb108) (o := .cells #[.slice A0_0 l0_0.length c0_0, .slice A0_1 l0_1.length c0_1, .slice (some ad111) l0_2.length c0_2] 25 (0, 0)) (by (with_reducible repeat (first | refine zam ?_ _ | refine zaj ?_ | refine zai ?_ _)); exact BK108.out)) : gb108 ≠ gb115)); have n7_ := zaa.mk ((by rw [hg]; exact Nat.ne_of_gt (zav (g := gb108) (o := .cells #[.slice A0_0 l0_0.length c0_0, .slice A0_1 l0_1.length c0_1, .slice (some ad111) l0_2.length c0_2] 25 (0, 0)) (by (with_reducible repeat (first | refine zam ?_ _ | refine zaj ?_ | refine zai ?_ _)); exact BK108.out)) : gb115 ≠ gb108)); have n8_ := zaa.mk ((by rw [hg]; exact Nat.ne_of_lt (zav (g := gb112) (o := .cells #[.int .i64 ((zae l0_2 x4_2).f0), .slice (some ad114) ((zae l0_2 x4_2).f1).length c111_1, .int .i64 ((zae l0_2 x4_2).f2)] 42 (0, 0)) (by (with_reducible repeat (first | refine zam ?_ _ | refine zaj ?_ | refine zai ?_ _)); exact BK112.out)) : gb112 ≠ gb115)); have n9_ := zaa.mk ((by rw [hg]; exact Nat.ne_of_gt (zav (g := gb112) (o := .cells #[.int .i64 ((zae l0_2 x4_2).f0), .slice (some ad114) ((zae l0_2 x4_2).f1).length c111_1, .int .i64 ((zae l0_2 x4_2).f2)] 42 (0, 0)) (by (with_reducible repeat (first | refine zam ?_ _ | refine zaj ?_ | refine zai ?_ _)); exact BK112.out)) : gb115 ≠ gb112)); clear BK108; clear BK112; clear HB; have BK108 := n0_; have BK112 := n1_; have HB := n2_; have BK115 := n3_; have GW115 := n4_; have GE115 := n5_; have NB108_115 := n6_; have NB115_108 := n7_; have NB112_115 := n8_; have NB115_112 := n9_; clear n0_ n1_ n2_ n3_ n4_ n5_ n6_ n7_ n8_ n9_; clear hb hbox hg; have hnb92 := NB115_108.out; have hnc92 := NB108_115.out; have hnb93 := NB115_112.out; have hnc93 := NB112_115.out; have hcz94_0 : w91.cell? ⟨gb115, 0, none⟩ = some (.int .i64 0) := (zac BK115.out 0).trans rfl; have hcz94_1 : w91.cell? ⟨gb115, 1, none⟩ = some (.string (⟨#[]⟩ : ByteArray)) := (zac BK115.out 1).trans rfl; have hcz94_2 : w91.cell? ⟨gb115, 2, none⟩ = some (.string (⟨#[]⟩ : ByteArray)) := (zac BK115.out 2).trans rfl; have hfz94_0 := zak BK115.out 0; have hfz94_1 := zak BK115.out 1; have hfz94_2 := zak BK115.out 2) | (go_at_call 43; (with_reducible refine (za1.calls k4 ((zba ((zae l0_2 x4_2).f1) x6_4).f1) true _ A79.out).mono ?_); rintro e w' ⟨rfl, ⟨nd, rfl⟩⟩; (try first | exact ⟨rfl, _, World.drewN_drewN _ _ _⟩ | exact ⟨rfl, _, Eq.trans (World.drewN_drewN _ _ _) (congrArg (World.drewN _) (Nat.add_assoc _ _ _))⟩)) | (go_at_call 43; (with_reducible refine (za1.calls k4 ((zba ((zae l0_2 x4_2).f1) x6_4).f2) false _ A81.out).mono ?_); rintro e w' ⟨rfl, ⟨nd, rfl⟩⟩; (try first | exact ⟨rfl, _, World.drewN_drewN _ _ _⟩ | exact ⟨rfl, _, Eq.trans (World.drewN_drewN _ _ _) (congrArg (World.drewN _) (Nat.add_assoc _ _ _))⟩)))
                   repeat (go_quiet (first | ((with_reducible refine zbh (N := 7) rfl ?_); (try (refine zbk (by rfl) ?_; dsimp only)); refine zbe ?hg (N := 7) ?hd (cs := #[.int .i64 0, .string (⟨#[]⟩ : ByteArray), .string (⟨#[]⟩ : ByteArray)]) (t := 44) ?hr ?_; (case hd => rfl); (case hg => rfl); (case hr => first | (go_simp; done) | (go_simp; rfl)); intro gb115 hg w91 hbox hb; have n0_ := zaa.mk (zar (g := gb108) (o := .cells #[.slice A0_0 l0_0.length c0_0, .slice A0_1 l0_1.length c0_1, .slice (some ad111) l0_2.length c0_2] 25 (0, 0)) (by (with_reducible repeat (first | refine zam ?_ _ | refine zaj ?_ | refine zai ?_ _)); exact BK108.out) hb); have n1_ := zaa.mk (zar (g := gb112) (o := .cells #[.int .i64 ((zae l0_2 x4_2).f0), .slice (some ad114) ((zae l0_2 x4_2).f1).length c111_1, .int .i64 ((zae l0_2 x4_2).f2)] 42 (0, 0)) (by (with_reducible repeat (first | refine zam ?_ _ | refine zaj ?_ | refine zai ?_ _)); exact BK112.out) hb); have n2_ := zaa.mk (zaw (by repeat (first | (with_reducible first | exact HB.out | apply zah | apply zab | apply zaf | refine zal ?_ GE108.out | refine zal ?_ GE112.out) | exact HB.out)) hb); have n3_ := zaa.mk (hbox); have n4_ := zaa.mk ((by rw [hg]; exact (zas (by repeat (first | (with_reducible first | exact HB.out | apply zah | apply zab | apply zaf | refine zal ?_ GE108.out | refine zal ?_ GE112.out) | exact HB.out))) : w.heap.size ≤ gb115)); have n5_ := zaa.mk ((by rw [hg]; exact (zas (by repeat (first | (with_reducible first | exact HB.out | apply zah | apply zab | apply zaf | refine zal ?_ GE108.out | refine zal ?_ GE112.out) | exact HB.out))) : w.heap.size ≤ gb115)); have n6_ := zaa.mk ((by rw [hg]; exact Nat.ne_of_lt (zav (g := gb108) (o := .cells #[.slice A0_0 l0_0.length c0_0, .slice A0_1 l0_1.length c0_1, .slice (some ad111) l0_2.length c0_2] 25 (0, 0)) (by (with_reducible repeat (first | refine zam ?_ _ | refine zaj ?_ | refine zai ?_ _)); exact BK108.out)) : gb108 ≠ gb115)); have n7_ := zaa.mk ((by rw [hg]; exact Nat.ne_of_gt (zav (g := gb108) (o := .cells #[.slice A0_0 l0_0.length c0_0, .slice A0_1 l0_1.length c0_1, .slice (some ad111) l0_2.length c0_2] 25 (0, 0)) (by (with_reducible repeat (first | refine zam ?_ _ | refine zaj ?_ | refine zai ?_ _)); exact BK108.out)) : gb115 ≠ gb108)); have n8_ := zaa.mk ((by rw [hg]; exact Nat.ne_of_lt (zav (g := gb112) (o := .cells #[.int .i64 ((zae l0_2 x4_2).f0), .slice (some ad114) ((zae l0_2 x4_2).f1).length c111_1, .int .i64 ((zae l0_2 x4_2).f2)] 42 (0, 0)) (by (with_reducible repeat (first | refine zam ?_ _ | refine zaj ?_ | refine zai ?_ _)); exact BK112.out)) : gb112 ≠ gb115)); have n9_ := zaa.mk ((by rw [hg]; exact Nat.ne_of_gt (zav (g := gb112) (o := .cells #[.int .i64 ((zae l0_2 x4_2).f0), .slice (some ad114) ((zae l0_2 x4_2).f1).length c111_1, .int .i64 ((zae l0_2 x4_2).f2)] 42 (0, 0)) (by (with_reducible repeat (first | refine zam ?_ _ | refine zaj ?_ | refine zai ?_ _)); exact BK112.out)) : gb115 ≠ gb112)); clear BK108; clear BK112; clear HB; have BK108 := n0_; have BK112 := n1_; have HB := n2_; have BK115 := n3_; have GW115 := n4_; have GE115 := n5_; have NB108_115 := n6_; have NB115_108 := n7_; have NB112_115 := n8_; have NB115_112 := n9_; clear n0_ n1_ n2_ n3_ n4_ n5_ n6_ n7_ n8_ n9_; clear hb hbox hg; have hnb92 := NB115_108.out; have hnc92 := NB108_115.out; have hnb93 := NB115_112.out; have hnc93 := NB112_115.out; have hcz94_0 : w91.cell? ⟨gb115, 0, none⟩ = some (.int .i64 0) := (zac BK115.out 0).trans rfl; have hcz94_1 : w91.cell? ⟨gb115, 1, none⟩ = some (.string (⟨#[]⟩ : ByteArray)) := (zac BK115.out 1).trans rfl; have hcz94_2 : w91.cell? ⟨gb115, 2, none⟩ = some (.string (⟨#[]⟩ : ByteArray)) := (zac BK115.out 2).trans rfl; have hfz94_0 := zak BK115.out 0; have hfz94_1 := zak BK115.out 1; have hfz94_2 := zak BK115.out 2) | (go_at_call 43; (with_reducible refine (za1.calls k4 ((zba ((zae l0_2 x4_2).f1) x6_4).f1) true _ A79.out).mono ?_); rintro e w' ⟨rfl, ⟨nd, rfl⟩⟩; (try first | exact ⟨rfl, _, World.drewN_drewN _ _ _⟩ | exact ⟨rfl, _, Eq.trans (World.drewN_drewN _ _ _) (congrArg (World.drewN _) (Nat.add_assoc _ _ _))⟩)) | (go_at_call 43; (with_reducible refine (za1.calls k4 ((zba ((zae l0_2 x4_2).f1) x6_4).f2) false _ A81.out).mono ?_); rintro e w' ⟨rfl, ⟨nd, rfl⟩⟩; (try first | exact ⟨rfl, _, World.drewN_drewN _ _ _⟩ | exact ⟨rfl, _, Eq.trans (World.drewN_drewN _ _ _) (congrArg (World.drewN _) (Nat.add_assoc _ _ _))⟩))); try go_wp2_with (first | ((with_reducible refine zbh (N := 7) rfl ?_); (try (refine zbk (by rfl) ?_; dsimp only)); refine zbe ?hg (N := 7) ?hd (cs := #[.int .i64 0, .string (⟨#[]⟩ : ByteArray), .string (⟨#[]⟩ : ByteArray)]) (t := 44) ?hr ?_; (case hd => rfl); (case hg => rfl); (case hr => first | (go_simp; done) | (go_simp; rfl)); intro gb115 hg w91 hbox hb; have n0_ := zaa.mk (zar (g := gb108) (o := .cells #[.slice A0_0 l0_0.length c0_0, .slice A0_1 l0_1.length c0_1, .slice (some ad111) l0_2.length c0_2] 25 (0, 0)) (by (with_reducible repeat (first | refine zam ?_ _ | refine zaj ?_ | refine zai ?_ _)); exact BK108.out) hb); have n1_ := zaa.mk (zar (g := gb112) (o := .cells #[.int .i64 ((zae l0_2 x4_2).f0), .slice (some ad114) ((zae l0_2 x4_2).f1).length c111_1, .int .i64 ((zae l0_2 x4_2).f2)] 42 (0, 0)) (by (with_reducible repeat (first | refine zam ?_ _ | refine zaj ?_ | refine zai ?_ _)); exact BK112.out) hb); have n2_ := zaa.mk (zaw (by repeat (first | (with_reducible first | exact HB.out | apply zah | apply zab | apply zaf | refine zal ?_ GE108.out | refine zal ?_ GE112.out) | exact HB.out)) hb); have n3_ := zaa.mk (hbox); have n4_ := zaa.mk ((by rw [hg]; exact (zas (by repeat (first | (with_reducible first | exact HB.out | apply zah | apply zab | apply zaf | refine zal ?_ GE108.out | refine zal ?_ GE112.out) | exact HB.out))) : w.heap.size ≤ gb115)); have n5_ := zaa.mk ((by rw [hg]; exact (zas (by repeat (first | (with_reducible first | exact HB.out | apply zah | apply zab | apply zaf | refine zal ?_ GE108.out | refine zal ?_ GE112.out) | exact HB.out))) : w.heap.size ≤ gb115)); have n6_ := zaa.mk ((by rw [hg]; exact Nat.ne_of_lt (zav (g := gb108) (o := .cells #[.slice A0_0 l0_0.length c0_0, .slice A0_1 l0_1.length c0_1, .slice (some ad111) l0_2.length c0_2] 25 (0, 0)) (by (with_reducible repeat (first | refine zam ?_ _ | refine zaj ?_ | refine zai ?_ _)); exact BK108.out)) : gb108 ≠ gb115)); have n7_ := zaa.mk ((by rw [hg]; exact Nat.ne_of_gt (zav (g := gb108) (o := .cells #[.slice A0_0 l0_0.length c0_0, .slice A0_1 l0_1.length c0_1, .slice (some ad111) l0_2.length c0_2] 25 (0, 0)) (by (with_reducible repeat (first | refine zam ?_ _ | refine zaj ?_ | refine zai ?_ _)); exact BK108.out)) : gb115 ≠ gb108)); have n8_ := zaa.mk ((by rw [hg]; exact Nat.ne_of_lt (zav (g := gb112) (o := .cells #[.int .i64 ((zae l0_2 x4_2).f0), .slice (some ad114) ((zae l0_2 x4_2).f1).length c111_1, .int .i64 ((zae l0_2 x4_2).f2)] 42 (0, 0)) (by (with_reducible repeat (first | refine zam ?_ _ | refine zaj ?_ | refine zai ?_ _)); exact BK112.out)) : gb112 ≠ gb115)); have n9_ := zaa.mk ((by rw [hg]; exact Nat.ne_of_gt (zav (g := gb112) (o := .cells #[.int .i64 ((zae l0_2 x4_2).f0), .slice (some ad114) ((zae l0_2 x4_2).f1).length c111_1, .int .i64 ((zae l0_2 x4_2).f2)] 42 (0, 0)) (by (with_reducible repeat (first | refine zam ?_ _ | refine zaj ?_ | refine zai ?_ _)); exact BK112.out)) : gb115 ≠ gb112)); clear BK108; clear BK112; clear HB; have BK108 := n0_; have BK112 := n1_; have HB := n2_; have BK115 := n3_; have GW115 := n4_; have GE115 := n5_; have NB108_115 := n6_; have NB115_108 := n7_; have NB112_115 := n8_; have NB115_112 := n9_; clear n0_ n1_ n2_ n3_ n4_ n5_ n6_ n7_ n8_ n9_; clear hb hbox hg; have hnb92 := NB115_108.out; have hnc92 := NB108_115.out; have hnb93 := NB115_112.out; have hnc93 := NB112_115.out; have hcz94_0 : w91.cell? ⟨gb115, 0, none⟩ = some (.int .i64 0) := (zac BK115.out 0).trans rfl; have hcz94_1 : w91.cell? ⟨gb115, 1, none⟩ = some (.string (⟨#[]⟩ : ByteArray)) := (zac BK115.out 1).trans rfl; have hcz94_2 : w91.cell? ⟨gb115, 2, none⟩ = some (.string (⟨#[]⟩ : ByteArray)) := (zac BK115.out 2).trans rfl; have hfz94_0 := zak BK115.out 0; have hfz94_1 := zak BK115.out 1; have hfz94_2 := zak BK115.out 2) | (go_at_call 43; (with_reducible refine (za1.calls k4 ((zba ((zae l0_2 x4_2).f1) x6_4).f1) true _ A79.out).mono ?_); rintro e w' ⟨rfl, ⟨nd, rfl⟩⟩; (try first | exact ⟨rfl, _, World.drewN_drewN _ _ _⟩ | exact ⟨rfl, _, Eq.trans (World.drewN_drewN _ _ _) (congrArg (World.drewN _) (Nat.add_assoc _ _ _))⟩)) | (go_at_call 43; (with_reducible refine (za1.calls k4 ((zba ((zae l0_2 x4_2).f1) x6_4).f2) false _ A81.out).mono ?_); rintro e w' ⟨rfl, ⟨nd, rfl⟩⟩; (try first | exact ⟨rfl, _, World.drewN_drewN _ _ _⟩ | exact ⟨rfl, _, Eq.trans (World.drewN_drewN _ _ _) (congrArg (World.drewN _) (Nat.add_assoc _ _ _))⟩))))
                   go_ret
                   exact ⟨by first | rfl | (simp [za2, za3] <;> rfl) | (simp [*, za2, za3] <;> rfl), by repeat (first | (with_reducible first | exact HB.out | apply zah | apply zab | apply zaf | refine zal ?_ GE108.out | refine zal ?_ GE112.out | refine zal ?_ GE115.out) | exact HB.out)⟩
                 ·replace c80 := Bool.eq_false_iff.mpr c80
                  subst c80
                  have H1 : (some false) = some r := by rw [if_neg (show ¬ (false = true) by decide)] at H; exact H
                  clear H;have H := H1;clear H1;obtain rfl := Option.some.inj H
                  have hnb95 := NB112_108.out
                  have hnc95 := NB108_112.out
                  have hcz96_0 : wr.cell? ⟨gb112, 0, none⟩ = some (.int .i64 ((zae l0_2 x4_2).f0)) := (zac BK112.out 0).trans rfl
                  have hcz96_1 : wr.cell? ⟨gb112, 1, none⟩ = some (.slice A111_1 ((zae l0_2 x4_2).f1).length c111_1) := (zac BK112.out 1).trans rfl
                  have hcz96_2 : wr.cell? ⟨gb112, 2, none⟩ = some (.int .i64 ((zae l0_2 x4_2).f2)) := (zac BK112.out 2).trans rfl
                  have hfz96_0 := zak BK112.out 0
                  have hfz96_1 := zak BK112.out 1
                  have hfz96_2 := zak BK112.out 2
                  have p114 : 0 ≤ (x6_4 : Int) := of_decide_eq_true (by first | (with_reducible assumption) | assumption)
                  have q114 : x6_4 < (((zae l0_2 x4_2).f1).length : Int) := of_decide_eq_true (by first | (with_reducible assumption) | assumption)
                  obtain ⟨ad114, e114, hx114_0, hx114_1, hx114_2⟩ := at_T44 HR111_1.out x6_4 p114 q114
                  cases e114
                  replace hx114_0 := (HB.out.cell (World.block_lt_of_cell? w _ hx114_0)).trans hx114_0
                  replace hx114_1 := (HB.out.cell (World.block_lt_of_cell? w _ hx114_1)).trans hx114_1
                  replace hx114_2 := (HB.out.cell (World.block_lt_of_cell? w _ hx114_2)).trans hx114_2
                  replace p114 := eq_true p114
                  replace q114 := eq_true q114
                  go_wp2_with (first | ((with_reducible refine zbh (N := 7) rfl ?_); (try (refine zbk (by rfl) ?_; dsimp only)); refine zbe ?hg (N := 7) ?hd (cs := #[.int .i64 0, .string (⟨#[]⟩ : ByteArray), .string (⟨#[]⟩ : ByteArray)]) (t := 44) ?hr ?_; (case hd => rfl); (case hg => rfl); (case hr => first | (go_simp; done) | (go_simp; rfl)); intro gb115 hg w97 hbox hb; have n0_ := zaa.mk (zar (g := gb108) (o := .cells #[.slice A0_0 l0_0.length c0_0, .slice A0_1 l0_1.length c0_1, .slice (some ad111) l0_2.length c0_2] 25 (0, 0)) (by (with_reducible repeat (first | refine zam ?_ _ | refine zaj ?_ | refine zai ?_ _)); exact BK108.out) hb); have n1_ := zaa.mk (zar (g := gb112) (o := .cells #[.int .i64 ((zae l0_2 x4_2).f0), .slice (some ad114) ((zae l0_2 x4_2).f1).length c111_1, .int .i64 ((zae l0_2 x4_2).f2)] 42 (0, 0)) (by (with_reducible repeat (first | refine zam ?_ _ | refine zaj ?_ | refine zai ?_ _)); exact BK112.out) hb); have n2_ := zaa.mk (zaw (by repeat (first | (with_reducible first | exact HB.out | apply zah | apply zab | apply zaf | refine zal ?_ GE108.out | refine zal ?_ GE112.out) | exact HB.out)) hb); have n3_ := zaa.mk (hbox); have n4_ := zaa.mk ((by rw [hg]; exact (zas (by repeat (first | (with_reducible first | exact HB.out | apply zah | apply zab | apply zaf | refine zal ?_ GE108.out | refine zal ?_ GE112.out) | exact HB.out))) : w.heap.size ≤ gb115)); have n5_ := zaa.mk ((by rw [hg]; exact (zas (by repeat (first | (with_reducible first | exact HB.out | apply zah | apply zab | apply zaf | refine zal ?_ GE108.out | refine zal ?_ GE112.out) | exact HB.out))) : w.heap.size ≤ gb115)); have n6_ := zaa.mk ((by rw [hg]; exact Nat.ne_of_lt (zav (g := gb108) (o := .cells #[.slice A0_0 l0_0.length c0_0, .slice A0_1 l0_1.length c0_1, .slice (some ad111) l0_2.length c0_2] 25 (0, 0)) (by (with_reducible repeat (first | refine zam ?_ _ | refine zaj ?_ | refine zai ?_ _)); exact BK108.out)) : gb108 ≠ gb115)); have n7_ := zaa.mk ((by rw [hg]; exact Nat.ne_of_gt (zav (g := gb108) (o := .cells #[.slice A0_0 l0_0.length c0_0, .slice A0_1 l0_1.length c0_1, .slice (some ad111) l0_2.length c0_2] 25 (0, 0)) (by (with_reducible repeat (first | refine zam ?_ _ | refine zaj ?_ | refine zai ?_ _)); exact BK108.out)) : gb115 ≠ gb108)); have n8_ := zaa.mk ((by rw [hg]; exact Nat.ne_of_lt (zav (g := gb112) (o := .cells #[.int .i64 ((zae l0_2 x4_2).f0), .slice (some ad114) ((zae l0_2 x4_2).f1).length c111_1, .int .i64 ((zae l0_2 x4_2).f2)] 42 (0, 0)) (by (with_reducible repeat (first | refine zam ?_ _ | refine zaj ?_ | refine zai ?_ _)); exact BK112.out)) : gb112 ≠ gb115)); have n9_ := zaa.mk ((by rw [hg]; exact Nat.ne_of_gt (zav (g := gb112) (o := .cells #[.int .i64 ((zae l0_2 x4_2).f0), .slice (some ad114) ((zae l0_2 x4_2).f1).length c111_1, .int .i64 ((zae l0_2 x4_2).f2)] 42 (0, 0)) (by (with_reducible repeat (first | refine zam ?_ _ | refine zaj ?_ | refine zai ?_ _)); exact BK112.out)) : gb115 ≠ gb112)); clear BK108; clear BK112; clear HB; have BK108 := n0_; have BK112 := n1_; have HB := n2_; have BK115 := n3_; have GW115 := n4_; have GE115 := n5_; have NB108_115 := n6_; have NB115_108 := n7_; have NB112_115 := n8_; have NB115_112 := n9_; clear n0_ n1_ n2_ n3_ n4_ n5_ n6_ n7_ n8_ n9_; clear hb hbox hg; have hnb98 := NB115_108.out; have hnc98 := NB108_115.out; have hnb99 := NB115_112.out; have hnc99 := NB112_115.out; have hcz100_0 : w97.cell? ⟨gb115, 0, none⟩ = some (.int .i64 0) := (zac BK115.out 0).trans rfl; have hcz100_1 : w97.cell? ⟨gb115, 1, none⟩ = some (.string (⟨#[]⟩ : ByteArray)) := (zac BK115.out 1).trans rfl; have hcz100_2 : w97.cell? ⟨gb115, 2, none⟩ = some (.string (⟨#[]⟩ : ByteArray)) := (zac BK115.out 2).trans rfl; have hfz100_0 := zak BK115.out 0; have hfz100_1 := zak BK115.out 1; have hfz100_2 := zak BK115.out 2) | (go_at_call 43; (with_reducible refine (za1.calls k4 ((zba ((zae l0_2 x4_2).f1) x6_4).f1) false _ A79.out).mono ?_); rintro e w' ⟨rfl, ⟨nd, rfl⟩⟩; (try first | exact ⟨rfl, _, World.drewN_drewN _ _ _⟩ | exact ⟨rfl, _, Eq.trans (World.drewN_drewN _ _ _) (congrArg (World.drewN _) (Nat.add_assoc _ _ _))⟩)))
                  repeat (go_quiet (first | ((with_reducible refine zbh (N := 7) rfl ?_); (try (refine zbk (by rfl) ?_; dsimp only)); refine zbe ?hg (N := 7) ?hd (cs := #[.int .i64 0, .string (⟨#[]⟩ : ByteArray), .string (⟨#[]⟩ : ByteArray)]) (t := 44) ?hr ?_; (case hd => rfl); (case hg => rfl); (case hr => first | (go_simp; done) | (go_simp; rfl)); intro gb115 hg w97 hbox hb; have n0_ := zaa.mk (zar (g := gb108) (o := .cells #[.slice A0_0 l0_0.length c0_0, .slice A0_1 l0_1.length c0_1, .slice (some ad111) l0_2.length c0_2] 25 (0, 0)) (by (with_reducible repeat (first | refine zam ?_ _ | refine zaj ?_ | refine zai ?_ _)); exact BK108.out) hb); have n1_ := zaa.mk (zar (g := gb112) (o := .cells #[.int .i64 ((zae l0_2 x4_2).f0), .slice (some ad114) ((zae l0_2 x4_2).f1).length c111_1, .int .i64 ((zae l0_2 x4_2).f2)] 42 (0, 0)) (by (with_reducible repeat (first | refine zam ?_ _ | refine zaj ?_ | refine zai ?_ _)); exact BK112.out) hb); have n2_ := zaa.mk (zaw (by repeat (first | (with_reducible first | exact HB.out | apply zah | apply zab | apply zaf | refine zal ?_ GE108.out | refine zal ?_ GE112.out) | exact HB.out)) hb); have n3_ := zaa.mk (hbox); have n4_ := zaa.mk ((by rw [hg]; exact (zas (by repeat (first | (with_reducible first | exact HB.out | apply zah | apply zab | apply zaf | refine zal ?_ GE108.out | refine zal ?_ GE112.out) | exact HB.out))) : w.heap.size ≤ gb115)); have n5_ := zaa.mk ((by rw [hg]; exact (zas (by repeat (first | (with_reducible first | exact HB.out | apply zah | apply zab | apply zaf | refine zal ?_ GE108.out | refine zal ?_ GE112.out) | exact HB.out))) : w.heap.size ≤ gb115)); have n6_ := zaa.mk ((by rw [hg]; exact Nat.ne_of_lt (zav (g := gb108) (o := .cells #[.slice A0_0 l0_0.length c0_0, .slice A0_1 l0_1.length c0_1, .slice (some ad111) l0_2.length c0_2] 25 (0, 0)) (by (with_reducible repeat (first | refine zam ?_ _ | refine zaj ?_ | refine zai ?_ _)); exact BK108.out)) : gb108 ≠ gb115)); have n7_ := zaa.mk ((by rw [hg]; exact Nat.ne_of_gt (zav (g := gb108) (o := .cells #[.slice A0_0 l0_0.length c0_0, .slice A0_1 l0_1.length c0_1, .slice (some ad111) l0_2.length c0_2] 25 (0, 0)) (by (with_reducible repeat (first | refine zam ?_ _ | refine zaj ?_ | refine zai ?_ _)); exact BK108.out)) : gb115 ≠ gb108)); have n8_ := zaa.mk ((by rw [hg]; exact Nat.ne_of_lt (zav (g := gb112) (o := .cells #[.int .i64 ((zae l0_2 x4_2).f0), .slice (some ad114) ((zae l0_2 x4_2).f1).length c111_1, .int .i64 ((zae l0_2 x4_2).f2)] 42 (0, 0)) (by (with_reducible repeat (first | refine zam ?_ _ | refine zaj ?_ | refine zai ?_ _)); exact BK112.out)) : gb112 ≠ gb115)); have n9_ := zaa.mk ((by rw [hg]; exact Nat.ne_of_gt (zav (g := gb112) (o := .cells #[.int .i64 ((zae l0_2 x4_2).f0), .slice (some ad114) ((zae l0_2 x4_2).f1).length c111_1, .int .i64 ((zae l0_2 x4_2).f2)] 42 (0, 0)) (by (with_reducible repeat (first | refine zam ?_ _ | refine zaj ?_ | refine zai ?_ _)); exact BK112.out)) : gb115 ≠ gb112)); clear BK108; clear BK112; clear HB; have BK108 := n0_; have BK112 := n1_; have HB := n2_; have BK115 := n3_; have GW115 := n4_; have GE115 := n5_; have NB108_115 := n6_; have NB115_108 := n7_; have NB112_115 := n8_; have NB115_112 := n9_; clear n0_ n1_ n2_ n3_ n4_ n5_ n6_ n7_ n8_ n9_; clear hb hbox hg; have hnb98 := NB115_108.out; have hnc98 := NB108_115.out; have hnb99 := NB115_112.out; have hnc99 := NB112_115.out; have hcz100_0 : w97.cell? ⟨gb115, 0, none⟩ = some (.int .i64 0) := (zac BK115.out 0).trans rfl; have hcz100_1 : w97.cell? ⟨gb115, 1, none⟩ = some (.string (⟨#[]⟩ : ByteArray)) := (zac BK115.out 1).trans rfl; have hcz100_2 : w97.cell? ⟨gb115, 2, none⟩ = some (.string (⟨#[]⟩ : ByteArray)) := (zac BK115.out 2).trans rfl; have hfz100_0 := zak BK115.out 0; have hfz100_1 := zak BK115.out 1; have hfz100_2 := zak BK115.out 2) | (go_at_call 43; (with_reducible refine (za1.calls k4 ((zba ((zae l0_2 x4_2).f1) x6_4).f1) false _ A79.out).mono ?_); rintro e w' ⟨rfl, ⟨nd, rfl⟩⟩; (try first | exact ⟨rfl, _, World.drewN_drewN _ _ _⟩ | exact ⟨rfl, _, Eq.trans (World.drewN_drewN _ _ _) (congrArg (World.drewN _) (Nat.add_assoc _ _ _))⟩))); try go_wp2_with (first | ((with_reducible refine zbh (N := 7) rfl ?_); (try (refine zbk (by rfl) ?_; dsimp only)); refine zbe ?hg (N := 7) ?hd (cs := #[.int .i64 0, .string (⟨#[]⟩ : ByteArray), .string (⟨#[]⟩ : ByteArray)]) (t := 44) ?hr ?_; (case hd => rfl); (case hg => rfl); (case hr => first | (go_simp; done) | (go_simp; rfl)); intro gb115 hg w97 hbox hb; have n0_ := zaa.mk (zar (g := gb108) (o := .cells #[.slice A0_0 l0_0.length c0_0, .slice A0_1 l0_1.length c0_1, .slice (some ad111) l0_2.length c0_2] 25 (0, 0)) (by (with_reducible repeat (first | refine zam ?_ _ | refine zaj ?_ | refine zai ?_ _)); exact BK108.out) hb); have n1_ := zaa.mk (zar (g := gb112) (o := .cells #[.int .i64 ((zae l0_2 x4_2).f0), .slice (some ad114) ((zae l0_2 x4_2).f1).length c111_1, .int .i64 ((zae l0_2 x4_2).f2)] 42 (0, 0)) (by (with_reducible repeat (first | refine zam ?_ _ | refine zaj ?_ | refine zai ?_ _)); exact BK112.out) hb); have n2_ := zaa.mk (zaw (by repeat (first | (with_reducible first | exact HB.out | apply zah | apply zab | apply zaf | refine zal ?_ GE108.out | refine zal ?_ GE112.out) | exact HB.out)) hb); have n3_ := zaa.mk (hbox); have n4_ := zaa.mk ((by rw [hg]; exact (zas (by repeat (first | (with_reducible first | exact HB.out | apply zah | apply zab | apply zaf | refine zal ?_ GE108.out | refine zal ?_ GE112.out) | exact HB.out))) : w.heap.size ≤ gb115)); have n5_ := zaa.mk ((by rw [hg]; exact (zas (by repeat (first | (with_reducible first | exact HB.out | apply zah | apply zab | apply zaf | refine zal ?_ GE108.out | refine zal ?_ GE112.out) | exact HB.out))) : w.heap.size ≤ gb115)); have n6_ := zaa.mk ((by rw [hg]; exact Nat.ne_of_lt (zav (g := gb108) (o := .cells #[.slice A0_0 l0_0.length c0_0, .slice A0_1 l0_1.length c0_1, .slice (some ad111) l0_2.length c0_2] 25 (0, 0)) (by (with_reducible repeat (first | refine zam ?_ _ | refine zaj ?_ | refine zai ?_ _)); exact BK108.out)) : gb108 ≠ gb115)); have n7_ := zaa.mk ((by rw [hg]; exact Nat.ne_of_gt (zav (g := gb108) (o := .cells #[.slice A0_0 l0_0.length c0_0, .slice A0_1 l0_1.length c0_1, .slice (some ad111) l0_2.length c0_2] 25 (0, 0)) (by (with_reducible repeat (first | refine zam ?_ _ | refine zaj ?_ | refine zai ?_ _)); exact BK108.out)) : gb115 ≠ gb108)); have n8_ := zaa.mk ((by rw [hg]; exact Nat.ne_of_lt (zav (g := gb112) (o := .cells #[.int .i64 ((zae l0_2 x4_2).f0), .slice (some ad114) ((zae l0_2 x4_2).f1).length c111_1, .int .i64 ((zae l0_2 x4_2).f2)] 42 (0, 0)) (by (with_reducible repeat (first | refine zam ?_ _ | refine zaj ?_ | refine zai ?_ _)); exact BK112.out)) : gb112 ≠ gb115)); have n9_ := zaa.mk ((by rw [hg]; exact Nat.ne_of_gt (zav (g := gb112) (o := .cells #[.int .i64 ((zae l0_2 x4_2).f0), .slice (some ad114) ((zae l0_2 x4_2).f1).length c111_1, .int .i64 ((zae l0_2 x4_2).f2)] 42 (0, 0)) (by (with_reducible repeat (first | refine zam ?_ _ | refine zaj ?_ | refine zai ?_ _)); exact BK112.out)) : gb115 ≠ gb112)); clear BK108; clear BK112; clear HB; have BK108 := n0_; have BK112 := n1_; have HB := n2_; have BK115 := n3_; have GW115 := n4_; have GE115 := n5_; have NB108_115 := n6_; have NB115_108 := n7_; have NB112_115 := n8_; have NB115_112 := n9_; clear n0_ n1_ n2_ n3_ n4_ n5_ n6_ n7_ n8_ n9_; clear hb hbox hg; have hnb98 := NB115_108.out; have hnc98 := NB108_115.out; have hnb99 := NB115_112.out; have hnc99 := NB112_115.out; have hcz100_0 : w97.cell? ⟨gb115, 0, none⟩ = some (.int .i64 0) := (zac BK115.out 0).trans rfl; have hcz100_1 : w97.cell? ⟨gb115, 1, none⟩ = some (.string (⟨#[]⟩ : ByteArray)) := (zac BK115.out 1).trans rfl; have hcz100_2 : w97.cell? ⟨gb115, 2, none⟩ = some (.string (⟨#[]⟩ : ByteArray)) := (zac BK115.out 2).trans rfl; have hfz100_0 := zak BK115.out 0; have hfz100_1 := zak BK115.out 1; have hfz100_2 := zak BK115.out 2) | (go_at_call 43; (with_reducible refine (za1.calls k4 ((zba ((zae l0_2 x4_2).f1) x6_4).f1) false _ A79.out).mono ?_); rintro e w' ⟨rfl, ⟨nd, rfl⟩⟩; (try first | exact ⟨rfl, _, World.drewN_drewN _ _ _⟩ | exact ⟨rfl, _, Eq.trans (World.drewN_drewN _ _ _) (congrArg (World.drewN _) (Nat.add_assoc _ _ _))⟩))))
                  go_ret
                  exact ⟨by first | rfl | (simp [za2, za3] <;> rfl) | (simp [*, za2, za3] <;> rfl), by repeat (first | (with_reducible first | exact HB.out | apply zah | apply zab | apply zaf | refine zal ?_ GE108.out | refine zal ?_ GE112.out | refine zal ?_ GE115.out) | exact HB.out)⟩
              ·rw [if_neg c64] at H
               exact absurd H (by simp)
             ·rw [if_neg c63] at H
              have c63b0 : decide (x6_4 < (((zae l0_2 x4_2).f1).length : Int)) = false := decide_eq_false c63
              clear c63
              have H' := zaa.mk H
              clear H
              have hnb101 := NB112_108.out
              have hnc101 := NB108_112.out
              have hcz102_0 : wr.cell? ⟨gb112, 0, none⟩ = some (.int .i64 ((zae l0_2 x4_2).f0)) := (zac BK112.out 0).trans rfl
              have hcz102_1 : wr.cell? ⟨gb112, 1, none⟩ = some (.slice A111_1 ((zae l0_2 x4_2).f1).length c111_1) := (zac BK112.out 1).trans rfl
              have hcz102_2 : wr.cell? ⟨gb112, 2, none⟩ = some (.int .i64 ((zae l0_2 x4_2).f2)) := (zac BK112.out 2).trans rfl
              have hfz102_0 := zak BK112.out 0
              have hfz102_1 := zak BK112.out 1
              have hfz102_2 := zak BK112.out 2
              go_wp2
              repeat (go_quiet (fail); try go_wp2)
              go_roundg k4
              case measure => have := HJ1.out; have := HK2.out; have := HJ18.out; have := HK4.out; omega
              case rel => exact ⟨(wrap64 (x4_2 + 1)), (by first | rfl | (simp; done) | (simp [*]; done)), H', ⟨by have := HJ1.out; have := HK2.out; have := HJ18.out; have := HK4.out; omega⟩, ⟨by (with_reducible repeat (first | refine zam ?_ _ | refine zaj ?_ | refine zai ?_ _)); exact BK108.out⟩, ⟨by repeat (first | (with_reducible first | exact HB.out | apply zah | apply zab | apply zaf | refine zal ?_ GE108.out | refine zal ?_ GE112.out) | exact HB.out)⟩⟩
       ·rw [if_neg c18] at H
        exact absurd H (by simp)
      ·rw [if_neg c17] at H
       have c17b0 : decide (x4_2 < (l0_2.length : Int)) = false := decide_eq_false c17
       clear c17;obtain rfl := Option.some.inj H
       have hcz103_0 : wr.cell? ⟨gb108, 0, none⟩ = some (.slice A0_0 l0_0.length c0_0) := (zac BK108.out 0).trans rfl
       have hcz103_1 : wr.cell? ⟨gb108, 1, none⟩ = some (.slice A0_1 l0_1.length c0_1) := (zac BK108.out 1).trans rfl
       have hcz103_2 : wr.cell? ⟨gb108, 2, none⟩ = some (.slice A0_2 l0_2.length c0_2) := (zac BK108.out 2).trans rfl
       have hfz103_0 := zak BK108.out 0
       have hfz103_1 := zak BK108.out 1
       have hfz103_2 := zak BK108.out 2
       go_wp2
       repeat (go_quiet (fail); try go_wp2)
       go_ret
       exact ⟨by first | rfl | (simp [za2, za3] <;> rfl) | (simp [*, za2, za3] <;> rfl), by repeat (first | (with_reducible first | exact HB.out | apply zah | apply zab | apply zaf | refine zal ?_ GE108.out) | exact HB.out)⟩
end Go.Proofs.YtgdmjpehofdnpaaGreat.PItemPrefixes
end
