/-
  No cell of these rows narrows 'for every input' (looked for: loops, veiled, ifaces, maps, wideKeys, modest, calm, conditions, laid).
  DERIVED. THE GIVEN ROWS OF THIS SEAT. 4 by the template 'for every input the law returns true; each argument reads behind the call as it read before'; 0 by the template 'total and deterministic' (their statements: YtkfjhkkbbcpjjaaTotals.lean).
  GIVEN WITH THE SEED: the statements are not yours to turn. If you find one false, say at which input.
  Laid BY PROGRAM, IN A SANDBOX (cutbox-rows.mjs): the forced cells as the released guide's own fill.sh prints them over the translation e5108d3e385d7dfb… (all of the seat's roots in one cut). By AI agents, Wed Nov 11 2026. No macro, syntax, notation, axiom, sorry.
-/
import Derived.Test.YtkfjhkkbbcpjjaaChecked
import GoSem.Claim
import GoSem.ClaimJoined
import GoSem.ClaimMapViews
import Derived.JoinedTies
import Derived.KernelRfl
namespace Go.Proofs.Ytkfjhkkbbcpjjaa
/- THE CELL 'sum', in the pinned program and in every row, IS THE sha256 OF THE DUMP (.gsa) THAT YtkfjhkkbbcpjjaaProg.lean LOADS. Nothing in Lean hashes anything: it is a label: what it is worth is what the hold of that sum in a sandbox is worth. -/
noncomputable def Try.pinned : Pinned := { name := "ytkfjhkkbbcpjjaa", sum := "e5108d3e385d7dfb9139875c9f26adfe24a6c92826082ae247bfe72a3ce6c4a9", checked := Try.checked }
namespace Rows
def none {H : Type} : Left H := { results := [], args := [] }

/-- 'bramblelaw16.GssKeeps': WHATEVER THE INPUT: true; the input reads as it did. -/
def gssKeepsSpec : ChangeSpec := { name := "gssKeeps", fn := fun _ => fun
  | [d1, d2, d3, d4, d5, d6] => { results := [.lit (.bool true)], args := [d1, d2, d3, d4, d5, d6] }
  | _ => none }
def gssKeepsRow : OpenClaim := { program := "ytkfjhkkbbcpjjaa", sum := "e5108d3e385d7dfb9139875c9f26adfe24a6c92826082ae247bfe72a3ce6c4a9", func := "bramble/bramblelaw16.GssKeeps", spec := "gssKeeps", unfollowed := true, recurses := true, plainKeys := false, apart := false }
def GssKeepsSaid : Prop := gssKeepsRow.holds Try.pinned (OpenSpec.ofChange gssKeepsSpec)

/-- ITS FALSE NEIGHBOUR: 'it returns false'. Refute it at one input. -/
def gssKeepsWrong : ChangeSpec := { name := "gssKeeps", fn := fun _ => fun
  | [d1, d2, d3, d4, d5, d6] => { results := [.lit (.bool false)], args := [d1, d2, d3, d4, d5, d6] }
  | _ => none }
def GssKeepsWrongFalsely : Prop := gssKeepsRow.holds Try.pinned (OpenSpec.ofChange gssKeepsWrong)

/-- 'bramblelaw16.GssPushes': WHATEVER THE INPUT: true; the input reads as it did. -/
def gssPushesSpec : ChangeSpec := { name := "gssPushes", fn := fun _ => fun
  | [d1, d2, d3, d4, d5] => { results := [.lit (.bool true)], args := [d1, d2, d3, d4, d5] }
  | _ => none }
def gssPushesRow : OpenClaim := { program := "ytkfjhkkbbcpjjaa", sum := "e5108d3e385d7dfb9139875c9f26adfe24a6c92826082ae247bfe72a3ce6c4a9", func := "bramble/bramblelaw16.GssPushes", spec := "gssPushes", unfollowed := true, recurses := true, plainKeys := false, apart := false }
def GssPushesSaid : Prop := gssPushesRow.holds Try.pinned (OpenSpec.ofChange gssPushesSpec)

/-- ITS FALSE NEIGHBOUR: 'it returns false'. Refute it at one input. -/
def gssPushesWrong : ChangeSpec := { name := "gssPushes", fn := fun _ => fun
  | [d1, d2, d3, d4, d5] => { results := [.lit (.bool false)], args := [d1, d2, d3, d4, d5] }
  | _ => none }
def GssPushesWrongFalsely : Prop := gssPushesRow.holds Try.pinned (OpenSpec.ofChange gssPushesWrong)

/-- 'bramblelaw16.GssMerges': WHATEVER THE INPUT: true; the input reads as it did. -/
def gssMergesSpec : ChangeSpec := { name := "gssMerges", fn := fun _ => fun
  | [d1, d2, d3] => { results := [.lit (.bool true)], args := [d1, d2, d3] }
  | _ => none }
def gssMergesRow : OpenClaim := { program := "ytkfjhkkbbcpjjaa", sum := "e5108d3e385d7dfb9139875c9f26adfe24a6c92826082ae247bfe72a3ce6c4a9", func := "bramble/bramblelaw16.GssMerges", spec := "gssMerges", unfollowed := true, recurses := true, plainKeys := false, apart := false }
def GssMergesSaid : Prop := gssMergesRow.holds Try.pinned (OpenSpec.ofChange gssMergesSpec)

/-- ITS FALSE NEIGHBOUR: 'it returns false'. Refute it at one input. -/
def gssMergesWrong : ChangeSpec := { name := "gssMerges", fn := fun _ => fun
  | [d1, d2, d3] => { results := [.lit (.bool false)], args := [d1, d2, d3] }
  | _ => none }
def GssMergesWrongFalsely : Prop := gssMergesRow.holds Try.pinned (OpenSpec.ofChange gssMergesWrong)

/-- 'bramblelaw16.GssTells': WHATEVER THE INPUT: true; the input reads as it did. -/
def gssTellsSpec : ChangeSpec := { name := "gssTells", fn := fun _ => fun
  | [d1, d2, d3, d4, d5] => { results := [.lit (.bool true)], args := [d1, d2, d3, d4, d5] }
  | _ => none }
def gssTellsRow : OpenClaim := { program := "ytkfjhkkbbcpjjaa", sum := "e5108d3e385d7dfb9139875c9f26adfe24a6c92826082ae247bfe72a3ce6c4a9", func := "bramble/bramblelaw16.GssTells", spec := "gssTells", unfollowed := true, recurses := true, plainKeys := false, apart := false }
def GssTellsSaid : Prop := gssTellsRow.holds Try.pinned (OpenSpec.ofChange gssTellsSpec)

/-- ITS FALSE NEIGHBOUR: 'it returns false'. Refute it at one input. -/
def gssTellsWrong : ChangeSpec := { name := "gssTells", fn := fun _ => fun
  | [d1, d2, d3, d4, d5] => { results := [.lit (.bool false)], args := [d1, d2, d3, d4, d5] }
  | _ => none }
def GssTellsWrongFalsely : Prop := gssTellsRow.holds Try.pinned (OpenSpec.ofChange gssTellsWrong)

/- THE SECOND FORM. 'bulk': how many values and letters a reading holds, each counted each time it is reached (what is shared counts as often as it is met; a slice's spare places count too). A statement '..UptoSaid' is the law's where the arguments, and the package variables that the reading takes, are together of bulk at most 1048576: NARROWER than '..Said'. Prove '..Said' where nothing that the law and all that it calls make is longer than what came in: it says more and counts as full. Else prove '..UptoSaid'. A law counts once. -/
mutual
def uptoBulk {H : Type} : DataW H → Nat
  | .lit (.string bytes) => bytes.length + 1
  | .lit _ => 1
  | .nil => 1
  | .ptr d => uptoBulk d + 1
  | .slice elems spare => uptoBulkAll elems + uptoBulkAll spare + 1
  | .agg parts => uptoBulkAll parts + 1
  | .iface _ d => uptoBulk d + 1
  | .map entries => uptoBulkEntries entries + 1
  | .held _ => 1
def uptoBulkAll {H : Type} : List (DataW H) → Nat
  | [] => 0
  | d :: r => uptoBulk d + uptoBulkAll r
def uptoBulkEntries {H : Type} : List (Lit × DataW H) → Nat
  | [] => 0
  | x :: r => uptoBulkEntry x + uptoBulkEntries r
def uptoBulkEntry {H : Type} : Lit × DataW H → Nat
  | (.string bytes, d) => bytes.length + uptoBulk d + 1
  | (_, d) => uptoBulk d + 1
 end
def uptoSmall : (H : Type) → List (DataW H) → Bool := fun _ ds => decide (uptoBulkAll ds ≤ 1048576)
def OpenSpec.upto (s : _root_.Go.ChangeSpec) : _root_.Go.OpenSpec := { _root_.Go.OpenSpec.ofChange s with cond := some uptoSmall }

/-- 'bramblelaw16.GssKeeps', WHERE WHAT IT READS IS OF BULK AT MOST 1048576: true; the input reads as it did. -/
def gssKeepsUptoRow : OpenClaim := { program := "ytkfjhkkbbcpjjaa", sum := "e5108d3e385d7dfb9139875c9f26adfe24a6c92826082ae247bfe72a3ce6c4a9", func := "bramble/bramblelaw16.GssKeeps", spec := "gssKeeps", unfollowed := true, recurses := true, plainKeys := false, apart := false, narrowed := true }
def GssKeepsUptoSaid : Prop := gssKeepsUptoRow.holds Try.pinned (OpenSpec.upto gssKeepsSpec)

/-- 'bramblelaw16.GssPushes', WHERE WHAT IT READS IS OF BULK AT MOST 1048576: true; the input reads as it did. -/
def gssPushesUptoRow : OpenClaim := { program := "ytkfjhkkbbcpjjaa", sum := "e5108d3e385d7dfb9139875c9f26adfe24a6c92826082ae247bfe72a3ce6c4a9", func := "bramble/bramblelaw16.GssPushes", spec := "gssPushes", unfollowed := true, recurses := true, plainKeys := false, apart := false, narrowed := true }
def GssPushesUptoSaid : Prop := gssPushesUptoRow.holds Try.pinned (OpenSpec.upto gssPushesSpec)

/-- 'bramblelaw16.GssMerges', WHERE WHAT IT READS IS OF BULK AT MOST 1048576: true; the input reads as it did. -/
def gssMergesUptoRow : OpenClaim := { program := "ytkfjhkkbbcpjjaa", sum := "e5108d3e385d7dfb9139875c9f26adfe24a6c92826082ae247bfe72a3ce6c4a9", func := "bramble/bramblelaw16.GssMerges", spec := "gssMerges", unfollowed := true, recurses := true, plainKeys := false, apart := false, narrowed := true }
def GssMergesUptoSaid : Prop := gssMergesUptoRow.holds Try.pinned (OpenSpec.upto gssMergesSpec)

/-- 'bramblelaw16.GssTells', WHERE WHAT IT READS IS OF BULK AT MOST 1048576: true; the input reads as it did. -/
def gssTellsUptoRow : OpenClaim := { program := "ytkfjhkkbbcpjjaa", sum := "e5108d3e385d7dfb9139875c9f26adfe24a6c92826082ae247bfe72a3ce6c4a9", func := "bramble/bramblelaw16.GssTells", spec := "gssTells", unfollowed := true, recurses := true, plainKeys := false, apart := false, narrowed := true }
def GssTellsUptoSaid : Prop := gssTellsUptoRow.holds Try.pinned (OpenSpec.upto gssTellsSpec)

end Rows
end Go.Proofs.Ytkfjhkkbbcpjjaa
