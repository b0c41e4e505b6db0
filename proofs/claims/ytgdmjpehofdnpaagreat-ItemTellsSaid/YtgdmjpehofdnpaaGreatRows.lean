/-
  No cell of these rows narrows 'for every input' (looked for: loops, veiled, ifaces, maps, wideKeys, modest, calm, conditions, laid).
  DERIVED. THE GIVEN ROWS OF THIS SEAT. 3 by the template 'for every input the law returns true; each argument reads behind the call as it read before'; 0 by the template 'total and deterministic' (their statements: YtgdmjpehofdnpaaGreatTotals.lean).
  GIVEN WITH THE SEED: the statements are not yours to turn. If you find one false, say at which input.
  Laid BY PROGRAM, IN A SANDBOX (cutbox-rows.mjs): the forced cells as the released guide's own fill.sh prints them over the translation fc08e71a2d5ddd79… (all of the seat's roots in one cut). By AI agents, Wed Nov 11 2026. No macro, syntax, notation, axiom, sorry.
-/
import Derived.Test.YtgdmjpehofdnpaaGreatChecked
import GoSem.Claim
import GoSem.ClaimJoined
import GoSem.ClaimMapViews
import Derived.JoinedTies
import Derived.KernelRfl
namespace Go.Proofs.YtgdmjpehofdnpaaGreat
/- THE CELL 'sum', in the pinned program and in every row, IS THE sha256 OF THE DUMP (.gsa) THAT YtgdmjpehofdnpaaGreatProg.lean LOADS. Nothing in Lean hashes anything: it is a label: what it is worth is what the hold of that sum in a sandbox is worth. -/
noncomputable def Tryz.pinned : Pinned := { name := "ytgdmjpehofdnpaagreat", sum := "fc08e71a2d5ddd790bbdce886450dc4c2c357fac28c0927831b8ba40d157311c", checked := Tryz.checked }
namespace Rows
def none {H : Type} : Left H := { results := [], args := [] }

/-- 'bramblelaw11.ItemAll': WHATEVER THE INPUT: true; the input reads as it did. -/
def itemAllSpec : ChangeSpec := { name := "itemAll", fn := fun _ => fun
  | [d] => { results := [.lit (.bool true)], args := [d] }
  | _ => none }
def itemAllRow : OpenClaim := { program := "ytgdmjpehofdnpaagreat", sum := "fc08e71a2d5ddd790bbdce886450dc4c2c357fac28c0927831b8ba40d157311c", func := "bramble/bramblelaw11.ItemAll", spec := "itemAll", unfollowed := true, recurses := true, plainKeys := false, apart := false }
def ItemAllSaid : Prop := itemAllRow.holds Tryz.pinned (OpenSpec.ofChange itemAllSpec)

/-- ITS FALSE NEIGHBOUR: 'it returns false'. Refute it at one input. -/
def itemAllWrong : ChangeSpec := { name := "itemAll", fn := fun _ => fun
  | [d] => { results := [.lit (.bool false)], args := [d] }
  | _ => none }
def ItemAllWrongFalsely : Prop := itemAllRow.holds Tryz.pinned (OpenSpec.ofChange itemAllWrong)

/-- 'bramblelaw11.ItemPrefixes': WHATEVER THE INPUT: true; the input reads as it did. -/
def itemPrefixesSpec : ChangeSpec := { name := "itemPrefixes", fn := fun _ => fun
  | [d1, d2] => { results := [.lit (.bool true)], args := [d1, d2] }
  | _ => none }
def itemPrefixesRow : OpenClaim := { program := "ytgdmjpehofdnpaagreat", sum := "fc08e71a2d5ddd790bbdce886450dc4c2c357fac28c0927831b8ba40d157311c", func := "bramble/bramblelaw11.ItemPrefixes", spec := "itemPrefixes", unfollowed := true, recurses := true, plainKeys := false, apart := false }
def ItemPrefixesSaid : Prop := itemPrefixesRow.holds Tryz.pinned (OpenSpec.ofChange itemPrefixesSpec)

/-- ITS FALSE NEIGHBOUR: 'it returns false'. Refute it at one input. -/
def itemPrefixesWrong : ChangeSpec := { name := "itemPrefixes", fn := fun _ => fun
  | [d1, d2] => { results := [.lit (.bool false)], args := [d1, d2] }
  | _ => none }
def ItemPrefixesWrongFalsely : Prop := itemPrefixesRow.holds Tryz.pinned (OpenSpec.ofChange itemPrefixesWrong)

/-- 'bramblelaw11.ItemTells': WHATEVER THE INPUT: true; the input reads as it did. -/
def itemTellsSpec : ChangeSpec := { name := "itemTells", fn := fun _ => fun
  | [d1, d2, d3] => { results := [.lit (.bool true)], args := [d1, d2, d3] }
  | _ => none }
def itemTellsRow : OpenClaim := { program := "ytgdmjpehofdnpaagreat", sum := "fc08e71a2d5ddd790bbdce886450dc4c2c357fac28c0927831b8ba40d157311c", func := "bramble/bramblelaw11.ItemTells", spec := "itemTells", unfollowed := true, recurses := true, plainKeys := false, apart := false }
def ItemTellsSaid : Prop := itemTellsRow.holds Tryz.pinned (OpenSpec.ofChange itemTellsSpec)

/-- ITS FALSE NEIGHBOUR: 'it returns false'. Refute it at one input. -/
def itemTellsWrong : ChangeSpec := { name := "itemTells", fn := fun _ => fun
  | [d1, d2, d3] => { results := [.lit (.bool false)], args := [d1, d2, d3] }
  | _ => none }
def ItemTellsWrongFalsely : Prop := itemTellsRow.holds Tryz.pinned (OpenSpec.ofChange itemTellsWrong)

/- THE SECOND FORM. 'bulk': how many values and letters a reading holds, each counted each time it is reached (what is shared counts as often as it is met; a slice's spare places count too). A statement '..UptoSaid' is the law's where the arguments, and the package variables that the reading takes, are together of bulk at most 1048576: NARROWER than '..Said'. Prove '..Said' where nothing that the law and all that it calls make is longer than what came in: it says more and counts as full. Else prove '..UptoSaid'. A law counts once. -/
mutual
def uptoBulk {H : Type} : DataW H → Nat
  | .lit (.string bytes) => bytes.length + 1
  | .lit _ => 1
  | .nil => 1
  | .ptr d => uptoBulk d + 1
  | .slice elems spare => uptoBulkAll elems + uptoBulkAll spare + 1
  | .agg parts => uptoBulkAll parts + 1
  | .iface _ d => uptoBulk d + 1
  | .map entries => uptoBulkEntries entries + 1
  | .held _ => 1
def uptoBulkAll {H : Type} : List (DataW H) → Nat
  | [] => 0
  | d :: r => uptoBulk d + uptoBulkAll r
def uptoBulkEntries {H : Type} : List (Lit × DataW H) → Nat
  | [] => 0
  | x :: r => uptoBulkEntry x + uptoBulkEntries r
def uptoBulkEntry {H : Type} : Lit × DataW H → Nat
  | (.string bytes, d) => bytes.length + uptoBulk d + 1
  | (_, d) => uptoBulk d + 1
 end
def uptoSmall : (H : Type) → List (DataW H) → Bool := fun _ ds => decide (uptoBulkAll ds ≤ 1048576)
def OpenSpec.upto (s : _root_.Go.ChangeSpec) : _root_.Go.OpenSpec := { _root_.Go.OpenSpec.ofChange s with cond := some uptoSmall }

/-- 'bramblelaw11.ItemAll', WHERE WHAT IT READS IS OF BULK AT MOST 1048576: true; the input reads as it did. -/
def itemAllUptoRow : OpenClaim := { program := "ytgdmjpehofdnpaagreat", sum := "fc08e71a2d5ddd790bbdce886450dc4c2c357fac28c0927831b8ba40d157311c", func := "bramble/bramblelaw11.ItemAll", spec := "itemAll", unfollowed := true, recurses := true, plainKeys := false, apart := false, narrowed := true }
def ItemAllUptoSaid : Prop := itemAllUptoRow.holds Tryz.pinned (OpenSpec.upto itemAllSpec)

/-- 'bramblelaw11.ItemPrefixes', WHERE WHAT IT READS IS OF BULK AT MOST 1048576: true; the input reads as it did. -/
def itemPrefixesUptoRow : OpenClaim := { program := "ytgdmjpehofdnpaagreat", sum := "fc08e71a2d5ddd790bbdce886450dc4c2c357fac28c0927831b8ba40d157311c", func := "bramble/bramblelaw11.ItemPrefixes", spec := "itemPrefixes", unfollowed := true, recurses := true, plainKeys := false, apart := false, narrowed := true }
def ItemPrefixesUptoSaid : Prop := itemPrefixesUptoRow.holds Tryz.pinned (OpenSpec.upto itemPrefixesSpec)

/-- 'bramblelaw11.ItemTells', WHERE WHAT IT READS IS OF BULK AT MOST 1048576: true; the input reads as it did. -/
def itemTellsUptoRow : OpenClaim := { program := "ytgdmjpehofdnpaagreat", sum := "fc08e71a2d5ddd790bbdce886450dc4c2c357fac28c0927831b8ba40d157311c", func := "bramble/bramblelaw11.ItemTells", spec := "itemTells", unfollowed := true, recurses := true, plainKeys := false, apart := false, narrowed := true }
def ItemTellsUptoSaid : Prop := itemTellsUptoRow.holds Tryz.pinned (OpenSpec.upto itemTellsSpec)

end Rows
end Go.Proofs.YtgdmjpehofdnpaaGreat
