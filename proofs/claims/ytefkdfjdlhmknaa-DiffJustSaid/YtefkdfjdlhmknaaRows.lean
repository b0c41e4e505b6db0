/-
  NARROWER THAN 'FOR EVERY INPUT', by the rows' own cells (each row's printed sentence says how): DiffJust: loops · DiffNone: loops · DiffTurned: loops.
  DERIVED. THE GIVEN ROWS OF THIS SEAT. 3 by the template 'for every input the law returns true; each argument reads behind the call as it read before'; 0 by the template 'total and deterministic' (their statements: YtefkdfjdlhmknaaTotals.lean).
  GIVEN WITH THE SEED: the statements are not yours to turn. If you find one false, say at which input.
  Laid BY PROGRAM, IN A SANDBOX (cutbox-rows.mjs): the forced cells as the released guide's own fill.sh prints them over the translation 311c1c02a5dc814d… (all of the seat's roots in one cut). By AI agents, Wed Nov 11 2026. No macro, syntax, notation, axiom, sorry.
-/
import Derived.Test.YtefkdfjdlhmknaaChecked
import GoSem.Claim
import GoSem.ClaimJoined
import GoSem.ClaimMapViews
import Derived.JoinedTies
import Derived.KernelRfl
namespace Go.Proofs.Ytefkdfjdlhmknaa
/- THE CELL 'sum', in the pinned program and in every row, IS THE sha256 OF THE DUMP (.gsa) THAT YtefkdfjdlhmknaaProg.lean LOADS. Nothing in Lean hashes anything: it is a label: what it is worth is what the hold of that sum in a sandbox is worth. -/
noncomputable def Try.pinned : Pinned := { name := "ytefkdfjdlhmknaa", sum := "311c1c02a5dc814d1d21f125329dafb7e15cc1e8f67a8bb9d5d5f66ea50563b4", checked := Try.checked }
namespace Rows
def none {H : Type} : Left H := { results := [], args := [] }

/-- 'bramblelaw22.DiffJust': WHATEVER THE INPUT: true; the input reads as it did. -/
def diffJustSpec : ChangeSpec := { name := "diffJust", fn := fun _ => fun
  | [d1, d2, d3, d4, d5] => { results := [.lit (.bool true)], args := [d1, d2, d3, d4, d5] }
  | _ => none }
def diffJustRow : OpenClaim := { program := "ytefkdfjdlhmknaa", sum := "311c1c02a5dc814d1d21f125329dafb7e15cc1e8f67a8bb9d5d5f66ea50563b4", func := "bramble/bramblelaw22.DiffJust", spec := "diffJust", unfollowed := true, recurses := true, loops := true, apart := false }
def DiffJustSaid : Prop := diffJustRow.holds Try.pinned (OpenSpec.ofChange diffJustSpec)

/-- ITS FALSE NEIGHBOUR: 'it returns false'. Refute it at one input. -/
def diffJustWrong : ChangeSpec := { name := "diffJust", fn := fun _ => fun
  | [d1, d2, d3, d4, d5] => { results := [.lit (.bool false)], args := [d1, d2, d3, d4, d5] }
  | _ => none }
def DiffJustWrongFalsely : Prop := diffJustRow.holds Try.pinned (OpenSpec.ofChange diffJustWrong)

/-- 'bramblelaw22.DiffNone': WHATEVER THE INPUT: true; the input reads as it did. -/
def diffNoneSpec : ChangeSpec := { name := "diffNone", fn := fun _ => fun
  | [d1, d2, d3] => { results := [.lit (.bool true)], args := [d1, d2, d3] }
  | _ => none }
def diffNoneRow : OpenClaim := { program := "ytefkdfjdlhmknaa", sum := "311c1c02a5dc814d1d21f125329dafb7e15cc1e8f67a8bb9d5d5f66ea50563b4", func := "bramble/bramblelaw22.DiffNone", spec := "diffNone", unfollowed := true, recurses := true, loops := true, apart := false }
def DiffNoneSaid : Prop := diffNoneRow.holds Try.pinned (OpenSpec.ofChange diffNoneSpec)

/-- ITS FALSE NEIGHBOUR: 'it returns false'. Refute it at one input. -/
def diffNoneWrong : ChangeSpec := { name := "diffNone", fn := fun _ => fun
  | [d1, d2, d3] => { results := [.lit (.bool false)], args := [d1, d2, d3] }
  | _ => none }
def DiffNoneWrongFalsely : Prop := diffNoneRow.holds Try.pinned (OpenSpec.ofChange diffNoneWrong)

/-- 'bramblelaw22.DiffTurned': WHATEVER THE INPUT: true; the input reads as it did. -/
def diffTurnedSpec : ChangeSpec := { name := "diffTurned", fn := fun _ => fun
  | [d1, d2, d3] => { results := [.lit (.bool true)], args := [d1, d2, d3] }
  | _ => none }
def diffTurnedRow : OpenClaim := { program := "ytefkdfjdlhmknaa", sum := "311c1c02a5dc814d1d21f125329dafb7e15cc1e8f67a8bb9d5d5f66ea50563b4", func := "bramble/bramblelaw22.DiffTurned", spec := "diffTurned", unfollowed := true, recurses := true, loops := true, apart := false }
def DiffTurnedSaid : Prop := diffTurnedRow.holds Try.pinned (OpenSpec.ofChange diffTurnedSpec)

/-- ITS FALSE NEIGHBOUR: 'it returns false'. Refute it at one input. -/
def diffTurnedWrong : ChangeSpec := { name := "diffTurned", fn := fun _ => fun
  | [d1, d2, d3] => { results := [.lit (.bool false)], args := [d1, d2, d3] }
  | _ => none }
def DiffTurnedWrongFalsely : Prop := diffTurnedRow.holds Try.pinned (OpenSpec.ofChange diffTurnedWrong)

/- THE SECOND FORM. 'bulk': how many values and letters a reading holds, each counted each time it is reached (what is shared counts as often as it is met; a slice's spare places count too). A statement '..UptoSaid' is the law's where the arguments, and the package variables that the reading takes, are together of bulk at most 1048576: NARROWER than '..Said'. Prove '..Said' where nothing that the law and all that it calls make is longer than what came in: it says more and counts as full. Else prove '..UptoSaid'. A law counts once. -/
mutual
def uptoBulk {H : Type} : DataW H → Nat
  | .lit (.string bytes) => bytes.length + 1
  | .lit _ => 1
  | .nil => 1
  | .ptr d => uptoBulk d + 1
  | .slice elems spare => uptoBulkAll elems + uptoBulkAll spare + 1
  | .agg parts => uptoBulkAll parts + 1
  | .iface _ d => uptoBulk d + 1
  | .map entries => uptoBulkEntries entries + 1
  | .held _ => 1
def uptoBulkAll {H : Type} : List (DataW H) → Nat
  | [] => 0
  | d :: r => uptoBulk d + uptoBulkAll r
def uptoBulkEntries {H : Type} : List (Lit × DataW H) → Nat
  | [] => 0
  | x :: r => uptoBulkEntry x + uptoBulkEntries r
def uptoBulkEntry {H : Type} : Lit × DataW H → Nat
  | (.string bytes, d) => bytes.length + uptoBulk d + 1
  | (_, d) => uptoBulk d + 1
 end
def uptoSmall : (H : Type) → List (DataW H) → Bool := fun _ ds => decide (uptoBulkAll ds ≤ 1048576)
def OpenSpec.upto (s : _root_.Go.ChangeSpec) : _root_.Go.OpenSpec := { _root_.Go.OpenSpec.ofChange s with cond := some uptoSmall }

/-- 'bramblelaw22.DiffJust', WHERE WHAT IT READS IS OF BULK AT MOST 1048576: true; the input reads as it did. -/
def diffJustUptoRow : OpenClaim := { program := "ytefkdfjdlhmknaa", sum := "311c1c02a5dc814d1d21f125329dafb7e15cc1e8f67a8bb9d5d5f66ea50563b4", func := "bramble/bramblelaw22.DiffJust", spec := "diffJust", unfollowed := true, recurses := true, loops := true, apart := false, narrowed := true }
def DiffJustUptoSaid : Prop := diffJustUptoRow.holds Try.pinned (OpenSpec.upto diffJustSpec)

/-- 'bramblelaw22.DiffNone', WHERE WHAT IT READS IS OF BULK AT MOST 1048576: true; the input reads as it did. -/
def diffNoneUptoRow : OpenClaim := { program := "ytefkdfjdlhmknaa", sum := "311c1c02a5dc814d1d21f125329dafb7e15cc1e8f67a8bb9d5d5f66ea50563b4", func := "bramble/bramblelaw22.DiffNone", spec := "diffNone", unfollowed := true, recurses := true, loops := true, apart := false, narrowed := true }
def DiffNoneUptoSaid : Prop := diffNoneUptoRow.holds Try.pinned (OpenSpec.upto diffNoneSpec)

/-- 'bramblelaw22.DiffTurned', WHERE WHAT IT READS IS OF BULK AT MOST 1048576: true; the input reads as it did. -/
def diffTurnedUptoRow : OpenClaim := { program := "ytefkdfjdlhmknaa", sum := "311c1c02a5dc814d1d21f125329dafb7e15cc1e8f67a8bb9d5d5f66ea50563b4", func := "bramble/bramblelaw22.DiffTurned", spec := "diffTurned", unfollowed := true, recurses := true, loops := true, apart := false, narrowed := true }
def DiffTurnedUptoSaid : Prop := diffTurnedUptoRow.holds Try.pinned (OpenSpec.upto diffTurnedSpec)

end Rows
end Go.Proofs.Ytefkdfjdlhmknaa
