/-
  No cell of these rows narrows 'for every input' (looked for: loops, veiled, ifaces, maps, wideKeys, modest, calm, conditions, laid).
  DERIVED. THE GIVEN ROWS OF THIS SEAT. 4 by the template 'for every input the law returns true; each argument reads behind the call as it read before'; 0 by the template 'total and deterministic' (their statements: YtkfpmolplemdlaaTotals.lean).
  GIVEN WITH THE SEED: the statements are not yours to turn. If you find one false, say at which input.
  Laid BY PROGRAM, IN A SANDBOX (cutbox-rows.mjs): the forced cells as the released guide's own fill.sh prints them over the translation a026aa0c09857f2a… (all of the seat's roots in one cut). By AI agents, Wed Nov 11 2026. No macro, syntax, notation, axiom, sorry.
-/
import Derived.Test.YtkfpmolplemdlaaChecked
import GoSem.Claim
import GoSem.ClaimJoined
import GoSem.ClaimMapViews
import Derived.JoinedTies
import Derived.KernelRfl
namespace Go.Proofs.Ytkfpmolplemdlaa
/- THE CELL 'sum', in the pinned program and in every row, IS THE sha256 OF THE DUMP (.gsa) THAT YtkfpmolplemdlaaProg.lean LOADS. Nothing in Lean hashes anything: it is a label: what it is worth is what the hold of that sum in a sandbox is worth. -/
noncomputable def Try.pinned : Pinned := { name := "ytkfpmolplemdlaa", sum := "a026aa0c09857f2a375e548642bb8cd4b0adb082239cda0964b6e1958c47b5ad", checked := Try.checked }
namespace Rows
def none {H : Type} : Left H := { results := [], args := [] }

/-- 'bramblelaw10.SetsDerive': WHATEVER THE INPUT: true; the input reads as it did. -/
def setsDeriveSpec : ChangeSpec := { name := "setsDerive", fn := fun _ => fun
  | [d1, d2, d3] => { results := [.lit (.bool true)], args := [d1, d2, d3] }
  | _ => none }
def setsDeriveRow : OpenClaim := { program := "ytkfpmolplemdlaa", sum := "a026aa0c09857f2a375e548642bb8cd4b0adb082239cda0964b6e1958c47b5ad", func := "bramble/bramblelaw10.SetsDerive", spec := "setsDerive", unfollowed := true, recurses := true, apart := false }
def SetsDeriveSaid : Prop := setsDeriveRow.holds Try.pinned (OpenSpec.ofChange setsDeriveSpec)

/-- ITS FALSE NEIGHBOUR: 'it returns false'. Refute it at one input. -/
def setsDeriveWrong : ChangeSpec := { name := "setsDerive", fn := fun _ => fun
  | [d1, d2, d3] => { results := [.lit (.bool false)], args := [d1, d2, d3] }
  | _ => none }
def SetsDeriveWrongFalsely : Prop := setsDeriveRow.holds Try.pinned (OpenSpec.ofChange setsDeriveWrong)

/-- 'bramblelaw10.SetsGrow': WHATEVER THE INPUT: true; the input reads as it did. -/
def setsGrowSpec : ChangeSpec := { name := "setsGrow", fn := fun _ => fun
  | [d1, d2] => { results := [.lit (.bool true)], args := [d1, d2] }
  | _ => none }
def setsGrowRow : OpenClaim := { program := "ytkfpmolplemdlaa", sum := "a026aa0c09857f2a375e548642bb8cd4b0adb082239cda0964b6e1958c47b5ad", func := "bramble/bramblelaw10.SetsGrow", spec := "setsGrow", unfollowed := true, recurses := true, apart := false }
def SetsGrowSaid : Prop := setsGrowRow.holds Try.pinned (OpenSpec.ofChange setsGrowSpec)

/-- ITS FALSE NEIGHBOUR: 'it returns false'. Refute it at one input. -/
def setsGrowWrong : ChangeSpec := { name := "setsGrow", fn := fun _ => fun
  | [d1, d2] => { results := [.lit (.bool false)], args := [d1, d2] }
  | _ => none }
def SetsGrowWrongFalsely : Prop := setsGrowRow.holds Try.pinned (OpenSpec.ofChange setsGrowWrong)

/-- 'bramblelaw10.SetsTells': WHATEVER THE INPUT: true; the input reads as it did. -/
def setsTellsSpec : ChangeSpec := { name := "setsTells", fn := fun _ => fun
  | [d1, d2, d3] => { results := [.lit (.bool true)], args := [d1, d2, d3] }
  | _ => none }
def setsTellsRow : OpenClaim := { program := "ytkfpmolplemdlaa", sum := "a026aa0c09857f2a375e548642bb8cd4b0adb082239cda0964b6e1958c47b5ad", func := "bramble/bramblelaw10.SetsTells", spec := "setsTells", unfollowed := true, recurses := true, apart := false }
def SetsTellsSaid : Prop := setsTellsRow.holds Try.pinned (OpenSpec.ofChange setsTellsSpec)

/-- ITS FALSE NEIGHBOUR: 'it returns false'. Refute it at one input. -/
def setsTellsWrong : ChangeSpec := { name := "setsTells", fn := fun _ => fun
  | [d1, d2, d3] => { results := [.lit (.bool false)], args := [d1, d2, d3] }
  | _ => none }
def SetsTellsWrongFalsely : Prop := setsTellsRow.holds Try.pinned (OpenSpec.ofChange setsTellsWrong)

/-- 'bramblelaw10.SetsClosed': WHATEVER THE INPUT: true; the input reads as it did. -/
def setsClosedSpec : ChangeSpec := { name := "setsClosed", fn := fun _ => fun
  | [d] => { results := [.lit (.bool true)], args := [d] }
  | _ => none }
def setsClosedRow : OpenClaim := { program := "ytkfpmolplemdlaa", sum := "a026aa0c09857f2a375e548642bb8cd4b0adb082239cda0964b6e1958c47b5ad", func := "bramble/bramblelaw10.SetsClosed", spec := "setsClosed", unfollowed := true, recurses := true, apart := false }
def SetsClosedSaid : Prop := setsClosedRow.holds Try.pinned (OpenSpec.ofChange setsClosedSpec)

/-- ITS FALSE NEIGHBOUR: 'it returns false'. Refute it at one input. -/
def setsClosedWrong : ChangeSpec := { name := "setsClosed", fn := fun _ => fun
  | [d] => { results := [.lit (.bool false)], args := [d] }
  | _ => none }
def SetsClosedWrongFalsely : Prop := setsClosedRow.holds Try.pinned (OpenSpec.ofChange setsClosedWrong)

/- THE SECOND FORM. 'bulk': how many values and letters a reading holds, each counted each time it is reached (what is shared counts as often as it is met; a slice's spare places count too). A statement '..UptoSaid' is the law's where the arguments, and the package variables that the reading takes, are together of bulk at most 1048576: NARROWER than '..Said'. Prove '..Said' where nothing that the law and all that it calls make is longer than what came in: it says more and counts as full. Else prove '..UptoSaid'. A law counts once. -/
mutual
def uptoBulk {H : Type} : DataW H → Nat
  | .lit (.string bytes) => bytes.length + 1
  | .lit _ => 1
  | .nil => 1
  | .ptr d => uptoBulk d + 1
  | .slice elems spare => uptoBulkAll elems + uptoBulkAll spare + 1
  | .agg parts => uptoBulkAll parts + 1
  | .iface _ d => uptoBulk d + 1
  | .map entries => uptoBulkEntries entries + 1
  | .held _ => 1
def uptoBulkAll {H : Type} : List (DataW H) → Nat
  | [] => 0
  | d :: r => uptoBulk d + uptoBulkAll r
def uptoBulkEntries {H : Type} : List (Lit × DataW H) → Nat
  | [] => 0
  | x :: r => uptoBulkEntry x + uptoBulkEntries r
def uptoBulkEntry {H : Type} : Lit × DataW H → Nat
  | (.string bytes, d) => bytes.length + uptoBulk d + 1
  | (_, d) => uptoBulk d + 1
 end
def uptoSmall : (H : Type) → List (DataW H) → Bool := fun _ ds => decide (uptoBulkAll ds ≤ 1048576)
def OpenSpec.upto (s : _root_.Go.ChangeSpec) : _root_.Go.OpenSpec := { _root_.Go.OpenSpec.ofChange s with cond := some uptoSmall }

/-- 'bramblelaw10.SetsDerive', WHERE WHAT IT READS IS OF BULK AT MOST 1048576: true; the input reads as it did. -/
def setsDeriveUptoRow : OpenClaim := { program := "ytkfpmolplemdlaa", sum := "a026aa0c09857f2a375e548642bb8cd4b0adb082239cda0964b6e1958c47b5ad", func := "bramble/bramblelaw10.SetsDerive", spec := "setsDerive", unfollowed := true, recurses := true, apart := false, narrowed := true }
def SetsDeriveUptoSaid : Prop := setsDeriveUptoRow.holds Try.pinned (OpenSpec.upto setsDeriveSpec)

/-- 'bramblelaw10.SetsGrow', WHERE WHAT IT READS IS OF BULK AT MOST 1048576: true; the input reads as it did. -/
def setsGrowUptoRow : OpenClaim := { program := "ytkfpmolplemdlaa", sum := "a026aa0c09857f2a375e548642bb8cd4b0adb082239cda0964b6e1958c47b5ad", func := "bramble/bramblelaw10.SetsGrow", spec := "setsGrow", unfollowed := true, recurses := true, apart := false, narrowed := true }
def SetsGrowUptoSaid : Prop := setsGrowUptoRow.holds Try.pinned (OpenSpec.upto setsGrowSpec)

/-- 'bramblelaw10.SetsTells', WHERE WHAT IT READS IS OF BULK AT MOST 1048576: true; the input reads as it did. -/
def setsTellsUptoRow : OpenClaim := { program := "ytkfpmolplemdlaa", sum := "a026aa0c09857f2a375e548642bb8cd4b0adb082239cda0964b6e1958c47b5ad", func := "bramble/bramblelaw10.SetsTells", spec := "setsTells", unfollowed := true, recurses := true, apart := false, narrowed := true }
def SetsTellsUptoSaid : Prop := setsTellsUptoRow.holds Try.pinned (OpenSpec.upto setsTellsSpec)

/-- 'bramblelaw10.SetsClosed', WHERE WHAT IT READS IS OF BULK AT MOST 1048576: true; the input reads as it did. -/
def setsClosedUptoRow : OpenClaim := { program := "ytkfpmolplemdlaa", sum := "a026aa0c09857f2a375e548642bb8cd4b0adb082239cda0964b6e1958c47b5ad", func := "bramble/bramblelaw10.SetsClosed", spec := "setsClosed", unfollowed := true, recurses := true, apart := false, narrowed := true }
def SetsClosedUptoSaid : Prop := setsClosedUptoRow.holds Try.pinned (OpenSpec.upto setsClosedSpec)

end Rows
end Go.Proofs.Ytkfpmolplemdlaa
