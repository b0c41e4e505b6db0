/- Laid by this work's own program gp.py, in the form of the kit's print, with some functions told by hand. -/
import Derived.Test.YtefkdfjdlhmknaaRows
import Derived.Test.YtefkdfjdlhmknaaPureDiffJust
import Derived.Test.YtefkdfjdlhmknaaOpen
import Derived.WalkKit
import Derived.ProofKit
import Derived.OpenShut
import Derived.ShutString
import Derived.ChangeOld
import Derived.Below
import Derived.SizedLaws
namespace Go.Proofs.Ytefkdfjdlhmknaa.diffJust
open Go.ChangeShapes Go.WideShapes Go.ChangeAt Go.RowKit Go.Proofs.YtefkdfjdlhmknaaW.PrintWords Go.Proofs.Ytefkdfjdlhmknaa.Opening Go.Proofs.Ytefkdfjdlhmknaa.PDiffJust
open Go.ChangeMaps (open_string shut_string)
set_option linter.unusedVariables false
theorem own : ownKnob Try.prog.godebug = none := by kernel_rfl
theorem laidOut : laidOutB Try.prog = true := by kernel_rfl
theorem opk24 {H : Type} {enc : TypeId × Value → H} {W : World} : ∀ n, Opening.Op enc Try.prog W n 24 k24 (okF24 n)
  | 0 => Opening.Op.zero
  | n + 1 => by
    have ih := opk24 (enc := enc) (W := W) n
    have h : Opening.Op enc Try.prog W (n + 2) 24 (F24 k24) _ := op_struct (f := fun x : S24 => (x.f0, x.f1, x.f2, x.f3, x.f4, x.f5, x.f6)) (fun x => ⟨x.1, x.2.1, x.2.2.1, x.2.2.2.1, x.2.2.2.2.1, x.2.2.2.2.2.1, x.2.2.2.2.2.2⟩) (fun _ => rfl) Try.underlying24 (by kernel_rfl) (opf_cons rfl (by kernel_rfl) (op_string Try.underlying9) (opf_cons rfl (by kernel_rfl) (op_bool Try.underlying4) (opf_cons rfl (by kernel_rfl) (op_string Try.underlying9) (opf_cons rfl (by kernel_rfl) (op_int Try.underlying3) (opf_cons rfl (by kernel_rfl) (op_int Try.underlying3) (opf_cons rfl (by kernel_rfl) (op_int Try.underlying3) (opf_last rfl (by kernel_rfl) (op_slice (b := 88) (e' := 24) Try.underlying22 (by kernel_rfl) (by kernel_rfl) ih))))))))
    refine Opening.Op.mono (m := n + 1) ?_ (Nat.le_succ _)
    intro fuel hf cs y hy hw
    obtain ⟨x, hx, hB⟩ := h fuel hf cs y hy hw
    refine ⟨x, ?_, hB⟩
    obtain ⟨_, _, rfl, rfl, ⟨_, _, rfl, rfl, ⟨_, _, rfl, rfl, ⟨_, _, rfl, rfl, ⟨_, _, rfl, rfl, ⟨_, _, rfl, rfl, ⟨A6, c6, rfl, l6, g6⟩⟩⟩⟩⟩⟩⟩ := hx
    exact k24_mk W x l6 g6
set_option maxRecDepth 100000 in
set_option maxHeartbeats 2000000 in
theorem lifted (os : Os) (started : os.Started) (H : Type) (enc : TypeId × Value → H) :
    ReturnsInHanded {} Try.checked os 3 .any (Rows.diffJustSpec.pre6 enc Try.prog Try.f3 Rows.diffJustRow.domain false) (Rows.diffJustSpec.post enc Try.prog Try.f3 false true false false) := by
  refine returnsInHanded_of_change_sized (C := Try.checked) own started (by kernel_rfl) Try.func3
    (ChangeSpec.witness6 (enc := enc) (C := Try.checked) false ⟨#[], #[.agg #[.string ByteArray.empty, .bool false, .string ByteArray.empty, .int .i64 0, .int .i64 0, .int .i64 0, .slice none 0 0], .agg #[.string ByteArray.empty, .bool false, .string ByteArray.empty, .int .i64 0, .int .i64 0, .int .i64 0, .slice none 0 0], .string ByteArray.empty, .slice none 0 0, .int .i64 0], []⟩ 8 (by kernel_rfl) (by kernel_rfl) (by kernel_rfl) (by kernel_rfl)) ?_
  intro W base args ds gs before hval0 hW hcnd hsz0 _
  have hsz : (DataW.weightsEach Try.prog (Try.f3.params.toList ++ Rows.diffJustSpec.plain.varTypes Try.prog) (ds ++ gs)).all (· ≤ reachBytes) = true := hsz0
  have hval : ∀ (j : Nat) t v, Try.f3.params[j]? = some t → args[j]? = some v → Value.okWide Try.prog W .any base t v := hval0
  have hW' := hW
  obtain ⟨p, q, hA0, hV, rfl, hfz, hnd⟩ := hW
  have hA : DataW.TrodAll enc Try.prog W 0 (fun _ => true) true Try.f3.params.toList args.toList ds p := hA0
  rw [Try.params3] at hA hval hsz
  obtain ⟨v0, vs0, d0, ds0, p0, q0, hargs, rfl, rfl, h0, r0⟩ := trodAll_cons hA
  obtain ⟨v1, vs1, d1, ds1, p1, q1, rfl, rfl, rfl, h1, r1⟩ := trodAll_cons r0
  obtain ⟨v2, vs2, d2, ds2, p2, q2, rfl, rfl, rfl, h2, r2⟩ := trodAll_cons r1
  obtain ⟨v3, vs3, d3, ds3, p3, q3, rfl, rfl, rfl, h3, r3⟩ := trodAll_cons r2
  obtain ⟨v4, vs4, d4, ds4, p4, q4, rfl, rfl, rfl, h4, r4⟩ := trodAll_cons r3
  obtain ⟨rfl, rfl, rfl⟩ := trodAll_nil r4
  obtain rfl : args = #[v0, v1, v2, v3, v4] := by cases args; simp_all
  obtain ⟨rfl, rfl⟩ := trodVars_none hV
  have k0 := h0
  have lt0 : ∀ x ∈ p0, x.block < W.heap.size := by obtain ⟨m, hm⟩ := k0; exact DataW.trod_lt m _ _ _ hm
  have oq24 := (fun n => (opk24 (enc := enc) (W := W) n).imp (fun _ h => (⟨n, h⟩ : ok24 _)))
  have oq45 := (ops_struct (enc := enc) (W := W) (f := fun x : S45 => (x.f0, x.f1, x.f2)) (fun x => ⟨x.1, x.2.1, x.2.2⟩) (fun _ => rfl) Try.underlying45 (by kernel_rfl) (opsf_cons rfl (by kernel_rfl) (fun _ => op_int Try.underlying3) (opsf_cons rfl (by kernel_rfl) (fun _ => op_int Try.underlying3) (opsf_last rfl (by kernel_rfl) (fun _ => op_string Try.underlying9)))))
  have o0 := op_arg (j := 0) oq24 h0 hsz rfl rfl
  obtain ⟨cs0, rfl, _⟩ := okWide_struct Try.underlying24 (hval 0 24 v0 rfl rfl)
  obtain ⟨s0, hK0, w0⟩ := o0
  obtain ⟨A0_6, c0_6, e0, hc0_6, hr0_6⟩ := k24_open hK0
  obtain rfl : cs0 = #[.string s0.f0, .bool s0.f1, .string s0.f2, .int .i64 s0.f3, .int .i64 s0.f4, .int .i64 s0.f5, .slice A0_6 s0.f6.length c0_6] := by
    apply Array.toList_inj.1
    simpa [Value.cells] using e0
  have k1 := h1
  have lt1 : ∀ x ∈ p1, x.block < W.heap.size := by obtain ⟨m, hm⟩ := k1; exact DataW.trod_lt m _ _ _ hm
  have o1 := op_arg (j := 1) oq24 h1 hsz rfl rfl
  obtain ⟨cs1, rfl, _⟩ := okWide_struct Try.underlying24 (hval 1 24 v1 rfl rfl)
  obtain ⟨s1, hK1, w1⟩ := o1
  obtain ⟨A1_6, c1_6, e1, hc1_6, hr1_6⟩ := k24_open hK1
  obtain rfl : cs1 = #[.string s1.f0, .bool s1.f1, .string s1.f2, .int .i64 s1.f3, .int .i64 s1.f4, .int .i64 s1.f5, .slice A1_6 s1.f6.length c1_6] := by
    apply Array.toList_inj.1
    simpa [Value.cells] using e1
  obtain ⟨a2, rfl, rfl, rfl, y2⟩ := open_string Try.underlying9 (hval 2 9 v2 rfl rfl) h2
  have w2 : a2.size ≤ 140737488351232 := by
    have z := sized_string hsz (j := 2) (t := 9) rfl rfl
    rw [Array.length_toList] at z
    exact z
  have k3 := h3
  have lt3 : ∀ x ∈ p3, x.block < W.heap.size := by obtain ⟨m, hm⟩ := k3; exact DataW.trod_lt m _ _ _ hm
  have o3 := op_arg (j := 3) (ops_slice (b := 32) (e' := 45) Try.underlying25 (by kernel_rfl) (by kernel_rfl) oq45) h3 hsz rfl rfl
  obtain ⟨l3, ⟨A3, c3, e3, hc3, hr3⟩, w3⟩ := o3
  obtain ⟨a3_, len3_, cap3_, rfl⟩ := okWide_slice Try.underlying25 (hval 3 25 v3 rfl rfl)
  obtain ⟨rfl, rfl, rfl⟩ : a3_ = A3 ∧ len3_ = l3.length ∧ cap3_ = c3 := by simpa [Value.cells] using e3
  obtain ⟨a4, rfl, rfl, rfl, w4⟩ := open_int Try.underlying3 (hval 4 3 v4 rfl rfl) h4
  clear hA0 hval0 hsz0 hsz
  obtain ⟨k, hk⟩ := Pure.DiffJust s0 s1 a2 l3 a4 w0 w1 w2 w3 w4
  refine (bramblelaw22_DiffJust.calls k s0.f0 s0.f1 s0.f2 s0.f3 s0.f4 s0.f5 _ _ s0.f6 s1.f0 s1.f1 s1.f2 s1.f3 s1.f4 s1.f5 _ _ s1.f6 a2 _ _ l3 a4 true W hr0_6 hc0_6 hr1_6 hc1_6 hr3 hc3 hk).mono ?_
  rintro e W' ⟨rfl, bel0⟩
  have bel : Below W.heap.size W W' := bel0
  exact ⟨_, rfl, _, _, _, [], _, [], hW', trodAll_mk1 (shut_bool Try.underlying4 _), (trodAll_cons_mk (Below.trod laidOut (by kernel_rfl) (of_decide_eq_true (by kernel_rfl)) k0 bel lt0) (trodAll_cons_mk (Below.trod laidOut (by kernel_rfl) (of_decide_eq_true (by kernel_rfl)) k1 bel lt1) (trodAll_cons_mk (shut_string Try.underlying9 y2) (trodAll_cons_mk (Below.trod laidOut (by kernel_rfl) (of_decide_eq_true (by kernel_rfl)) k3 bel lt3) (trodAll_cons_mk (shut_int Try.underlying3 w4) trodAll_mk0))))), rfl, bel.frame _, fun h => by cases h⟩
theorem over : Rows.diffJustRow.holds Try.pinned (OpenSpec.ofChange Rows.diffJustSpec) :=
  OpenClaim.holds_of_wide 3 Try.f3 rfl rfl rfl rfl rfl rfl rfl ⟨rfl, rfl, rfl, rfl, rfl⟩ rfl rfl rfl rfl rfl (by kernel_rfl) Try.func3 (by kernel_rfl)
    (of_decide_eq_true (by kernel_rfl)) (by unfold Func.isWrapper; first | (rw [if_pos (by decide +kernel)]; kernel_rfl) | (rw [if_neg (by decide +kernel)]; exact ⟨rfl, rfl⟩))
    (fun os started H enc _ => lifted os started H enc)
theorem proved : Rows.DiffJustSaid := over
#print axioms proved
end Go.Proofs.Ytefkdfjdlhmknaa.diffJust
namespace Go.Proofs.Ytefkdfjdlhmknaa
/-- The row, under a short name, for the claim. -/
theorem diffJust_holds : Rows.DiffJustSaid := diffJust.proved
end Go.Proofs.Ytefkdfjdlhmknaa
