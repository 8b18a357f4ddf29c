/-
  No cell of these rows narrows 'for every input' (looked for: loops, veiled, ifaces, maps, wideKeys, modest, calm, conditions, laid).
  DERIVED. THE GIVEN ROWS OF THIS SEAT. 6 by the template 'for every input the law returns true; each argument reads behind the call as it read before'; 0 by the template 'total and deterministic' (their statements: YtocgifddjpbmlaaTotals.lean).
  GIVEN WITH THE SEED: the statements are not yours to turn. If you find one false, say at which input.
  Laid BY PROGRAM, IN A SANDBOX (cutbox-rows.mjs): the forced cells as the released guide's own fill.sh prints them over the translation 2bc24c546d959ccc… (all of the seat's roots in one cut). By AI agents, Wed Nov 11 2026. No macro, syntax, notation, axiom, sorry.
-/
import Derived.Test.YtocgifddjpbmlaaChecked
import GoSem.Claim
import GoSem.ClaimJoined
import GoSem.ClaimMapViews
import Derived.JoinedTies
import Derived.KernelRfl
namespace Go.Proofs.Ytocgifddjpbmlaa
/- THE CELL 'sum', in the pinned program and in every row, IS THE sha256 OF THE DUMP (.gsa) THAT YtocgifddjpbmlaaProg.lean LOADS. Nothing in Lean hashes anything: it is a label: what it is worth is what the hold of that sum in a sandbox is worth. -/
noncomputable def Try.pinned : Pinned := { name := "ytocgifddjpbmlaa", sum := "2bc24c546d959ccc8cfafe0fefda808f53da130ef6f3f1755d6ec1d7f192a709", checked := Try.checked }
namespace Rows
def none {H : Type} : Left H := { results := [], args := [] }

/-- 'folkmootkeep.LinearIs': WHATEVER THE INPUT: true; the input reads as it did. -/
def linearIsSpec : ChangeSpec := { name := "linearIs", fn := fun _ => fun
  | [d1, d2] => { results := [.lit (.bool true)], args := [d1, d2] }
  | _ => none }
def linearIsRow : OpenClaim := { program := "ytocgifddjpbmlaa", sum := "2bc24c546d959ccc8cfafe0fefda808f53da130ef6f3f1755d6ec1d7f192a709", func := "folkmoot/folkmootkeep.LinearIs", spec := "linearIs", recurses := true, apart := false }
def LinearIsSaid : Prop := linearIsRow.holds Try.pinned (OpenSpec.ofChange linearIsSpec)

/-- ITS FALSE NEIGHBOUR: 'it returns false'. Refute it at one input. -/
def linearIsWrong : ChangeSpec := { name := "linearIs", fn := fun _ => fun
  | [d1, d2] => { results := [.lit (.bool false)], args := [d1, d2] }
  | _ => none }
def LinearIsWrongFalsely : Prop := linearIsRow.holds Try.pinned (OpenSpec.ofChange linearIsWrong)

/-- 'folkmootkeep.LinearLocal': WHATEVER THE INPUT: true; the input reads as it did. -/
def linearLocalSpec : ChangeSpec := { name := "linearLocal", fn := fun _ => fun
  | [d] => { results := [.lit (.bool true)], args := [d] }
  | _ => none }
def linearLocalRow : OpenClaim := { program := "ytocgifddjpbmlaa", sum := "2bc24c546d959ccc8cfafe0fefda808f53da130ef6f3f1755d6ec1d7f192a709", func := "folkmoot/folkmootkeep.LinearLocal", spec := "linearLocal", recurses := true, apart := false }
def LinearLocalSaid : Prop := linearLocalRow.holds Try.pinned (OpenSpec.ofChange linearLocalSpec)

/-- ITS FALSE NEIGHBOUR: 'it returns false'. Refute it at one input. -/
def linearLocalWrong : ChangeSpec := { name := "linearLocal", fn := fun _ => fun
  | [d] => { results := [.lit (.bool false)], args := [d] }
  | _ => none }
def LinearLocalWrongFalsely : Prop := linearLocalRow.holds Try.pinned (OpenSpec.ofChange linearLocalWrong)

/-- 'folkmootkeep.LinearFront': WHATEVER THE INPUT: true; the input reads as it did. -/
def linearFrontSpec : ChangeSpec := { name := "linearFront", fn := fun _ => fun
  | [d1, d2] => { results := [.lit (.bool true)], args := [d1, d2] }
  | _ => none }
def linearFrontRow : OpenClaim := { program := "ytocgifddjpbmlaa", sum := "2bc24c546d959ccc8cfafe0fefda808f53da130ef6f3f1755d6ec1d7f192a709", func := "folkmoot/folkmootkeep.LinearFront", spec := "linearFront", recurses := true, apart := false }
def LinearFrontSaid : Prop := linearFrontRow.holds Try.pinned (OpenSpec.ofChange linearFrontSpec)

/-- ITS FALSE NEIGHBOUR: 'it returns false'. Refute it at one input. -/
def linearFrontWrong : ChangeSpec := { name := "linearFront", fn := fun _ => fun
  | [d1, d2] => { results := [.lit (.bool false)], args := [d1, d2] }
  | _ => none }
def LinearFrontWrongFalsely : Prop := linearFrontRow.holds Try.pinned (OpenSpec.ofChange linearFrontWrong)

/-- 'folkmootkeep.LinearSolo': WHATEVER THE INPUT: true; the input reads as it did. -/
def linearSoloSpec : ChangeSpec := { name := "linearSolo", fn := fun _ => fun
  | [d] => { results := [.lit (.bool true)], args := [d] }
  | _ => none }
def linearSoloRow : OpenClaim := { program := "ytocgifddjpbmlaa", sum := "2bc24c546d959ccc8cfafe0fefda808f53da130ef6f3f1755d6ec1d7f192a709", func := "folkmoot/folkmootkeep.LinearSolo", spec := "linearSolo", recurses := true, apart := false }
def LinearSoloSaid : Prop := linearSoloRow.holds Try.pinned (OpenSpec.ofChange linearSoloSpec)

/-- ITS FALSE NEIGHBOUR: 'it returns false'. Refute it at one input. -/
def linearSoloWrong : ChangeSpec := { name := "linearSolo", fn := fun _ => fun
  | [d] => { results := [.lit (.bool false)], args := [d] }
  | _ => none }
def LinearSoloWrongFalsely : Prop := linearSoloRow.holds Try.pinned (OpenSpec.ofChange linearSoloWrong)

/-- 'folkmootkeep.LinearWrites': WHATEVER THE INPUT: true; the input reads as it did. -/
def linearWritesSpec : ChangeSpec := { name := "linearWrites", fn := fun _ => fun
  | [d] => { results := [.lit (.bool true)], args := [d] }
  | _ => none }
def linearWritesRow : OpenClaim := { program := "ytocgifddjpbmlaa", sum := "2bc24c546d959ccc8cfafe0fefda808f53da130ef6f3f1755d6ec1d7f192a709", func := "folkmoot/folkmootkeep.LinearWrites", spec := "linearWrites", recurses := true, apart := false }
def LinearWritesSaid : Prop := linearWritesRow.holds Try.pinned (OpenSpec.ofChange linearWritesSpec)

/-- ITS FALSE NEIGHBOUR: 'it returns false'. Refute it at one input. -/
def linearWritesWrong : ChangeSpec := { name := "linearWrites", fn := fun _ => fun
  | [d] => { results := [.lit (.bool false)], args := [d] }
  | _ => none }
def LinearWritesWrongFalsely : Prop := linearWritesRow.holds Try.pinned (OpenSpec.ofChange linearWritesWrong)

/-- 'folkmootkeep.LinearBack': WHATEVER THE INPUT: true; the input reads as it did. -/
def linearBackSpec : ChangeSpec := { name := "linearBack", fn := fun _ => fun
  | [d] => { results := [.lit (.bool true)], args := [d] }
  | _ => none }
def linearBackRow : OpenClaim := { program := "ytocgifddjpbmlaa", sum := "2bc24c546d959ccc8cfafe0fefda808f53da130ef6f3f1755d6ec1d7f192a709", func := "folkmoot/folkmootkeep.LinearBack", spec := "linearBack", recurses := true, apart := false }
def LinearBackSaid : Prop := linearBackRow.holds Try.pinned (OpenSpec.ofChange linearBackSpec)

/-- ITS FALSE NEIGHBOUR: 'it returns false'. Refute it at one input. -/
def linearBackWrong : ChangeSpec := { name := "linearBack", fn := fun _ => fun
  | [d] => { results := [.lit (.bool false)], args := [d] }
  | _ => none }
def LinearBackWrongFalsely : Prop := linearBackRow.holds Try.pinned (OpenSpec.ofChange linearBackWrong)

/- THE SECOND FORM. 'bulk': how many values and letters a reading holds, each counted each time it is reached (what is shared counts as often as it is met; a slice's spare places count too). A statement '..UptoSaid' is the law's where the arguments, and the package variables that the reading takes, are together of bulk at most 1048576: NARROWER than '..Said'. Prove '..Said' where nothing that the law and all that it calls make is longer than what came in: it says more and counts as full. Else prove '..UptoSaid'. A law counts once. -/
mutual
def uptoBulk {H : Type} : DataW H → Nat
  | .lit (.string bytes) => bytes.length + 1
  | .lit _ => 1
  | .nil => 1
  | .ptr d => uptoBulk d + 1
  | .slice elems spare => uptoBulkAll elems + uptoBulkAll spare + 1
  | .agg parts => uptoBulkAll parts + 1
  | .iface _ d => uptoBulk d + 1
  | .map entries => uptoBulkEntries entries + 1
  | .held _ => 1
def uptoBulkAll {H : Type} : List (DataW H) → Nat
  | [] => 0
  | d :: r => uptoBulk d + uptoBulkAll r
def uptoBulkEntries {H : Type} : List (Lit × DataW H) → Nat
  | [] => 0
  | x :: r => uptoBulkEntry x + uptoBulkEntries r
def uptoBulkEntry {H : Type} : Lit × DataW H → Nat
  | (.string bytes, d) => bytes.length + uptoBulk d + 1
  | (_, d) => uptoBulk d + 1
 end
def uptoSmall : (H : Type) → List (DataW H) → Bool := fun _ ds => decide (uptoBulkAll ds ≤ 1048576)
def OpenSpec.upto (s : _root_.Go.ChangeSpec) : _root_.Go.OpenSpec := { _root_.Go.OpenSpec.ofChange s with cond := some uptoSmall }

/-- 'folkmootkeep.LinearIs', WHERE WHAT IT READS IS OF BULK AT MOST 1048576: true; the input reads as it did. -/
def linearIsUptoRow : OpenClaim := { program := "ytocgifddjpbmlaa", sum := "2bc24c546d959ccc8cfafe0fefda808f53da130ef6f3f1755d6ec1d7f192a709", func := "folkmoot/folkmootkeep.LinearIs", spec := "linearIs", recurses := true, apart := false, narrowed := true }
def LinearIsUptoSaid : Prop := linearIsUptoRow.holds Try.pinned (OpenSpec.upto linearIsSpec)

/-- 'folkmootkeep.LinearLocal', WHERE WHAT IT READS IS OF BULK AT MOST 1048576: true; the input reads as it did. -/
def linearLocalUptoRow : OpenClaim := { program := "ytocgifddjpbmlaa", sum := "2bc24c546d959ccc8cfafe0fefda808f53da130ef6f3f1755d6ec1d7f192a709", func := "folkmoot/folkmootkeep.LinearLocal", spec := "linearLocal", recurses := true, apart := false, narrowed := true }
def LinearLocalUptoSaid : Prop := linearLocalUptoRow.holds Try.pinned (OpenSpec.upto linearLocalSpec)

/-- 'folkmootkeep.LinearFront', WHERE WHAT IT READS IS OF BULK AT MOST 1048576: true; the input reads as it did. -/
def linearFrontUptoRow : OpenClaim := { program := "ytocgifddjpbmlaa", sum := "2bc24c546d959ccc8cfafe0fefda808f53da130ef6f3f1755d6ec1d7f192a709", func := "folkmoot/folkmootkeep.LinearFront", spec := "linearFront", recurses := true, apart := false, narrowed := true }
def LinearFrontUptoSaid : Prop := linearFrontUptoRow.holds Try.pinned (OpenSpec.upto linearFrontSpec)

/-- 'folkmootkeep.LinearSolo', WHERE WHAT IT READS IS OF BULK AT MOST 1048576: true; the input reads as it did. -/
def linearSoloUptoRow : OpenClaim := { program := "ytocgifddjpbmlaa", sum := "2bc24c546d959ccc8cfafe0fefda808f53da130ef6f3f1755d6ec1d7f192a709", func := "folkmoot/folkmootkeep.LinearSolo", spec := "linearSolo", recurses := true, apart := false, narrowed := true }
def LinearSoloUptoSaid : Prop := linearSoloUptoRow.holds Try.pinned (OpenSpec.upto linearSoloSpec)

/-- 'folkmootkeep.LinearWrites', WHERE WHAT IT READS IS OF BULK AT MOST 1048576: true; the input reads as it did. -/
def linearWritesUptoRow : OpenClaim := { program := "ytocgifddjpbmlaa", sum := "2bc24c546d959ccc8cfafe0fefda808f53da130ef6f3f1755d6ec1d7f192a709", func := "folkmoot/folkmootkeep.LinearWrites", spec := "linearWrites", recurses := true, apart := false, narrowed := true }
def LinearWritesUptoSaid : Prop := linearWritesUptoRow.holds Try.pinned (OpenSpec.upto linearWritesSpec)

/-- 'folkmootkeep.LinearBack', WHERE WHAT IT READS IS OF BULK AT MOST 1048576: true; the input reads as it did. -/
def linearBackUptoRow : OpenClaim := { program := "ytocgifddjpbmlaa", sum := "2bc24c546d959ccc8cfafe0fefda808f53da130ef6f3f1755d6ec1d7f192a709", func := "folkmoot/folkmootkeep.LinearBack", spec := "linearBack", recurses := true, apart := false, narrowed := true }
def LinearBackUptoSaid : Prop := linearBackUptoRow.holds Try.pinned (OpenSpec.upto linearBackSpec)

end Rows
end Go.Proofs.Ytocgifddjpbmlaa
