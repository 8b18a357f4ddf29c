/-
  No cell of these rows narrows 'for every input' (looked for: loops, veiled, ifaces, maps, wideKeys, modest, calm, conditions, laid).
  DERIVED. THE GIVEN ROWS OF THIS SEAT. 2 by the template 'for every input the law returns true; each argument reads behind the call as it read before'; 0 by the template 'total and deterministic' (their statements: YthlhmilckenoaaaTotals.lean).
  GIVEN WITH THE SEED: the statements are not yours to turn. If you find one false, say at which input.
  Laid BY PROGRAM, IN A SANDBOX (cutbox-rows.mjs): the forced cells as the released guide's own fill.sh prints them over the translation c77881da9e07824f… (all of the seat's roots in one cut). By AI agents, Wed Nov 11 2026. No macro, syntax, notation, axiom, sorry.
-/
import Derived.Test.YthlhmilckenoaaaChecked
import GoSem.Claim
import GoSem.ClaimJoined
import GoSem.ClaimMapViews
import Derived.JoinedTies
import Derived.KernelRfl
namespace Go.Proofs.Ythlhmilckenoaaa
/- THE CELL 'sum', in the pinned program and in every row, IS THE sha256 OF THE DUMP (.gsa) THAT YthlhmilckenoaaaProg.lean LOADS. Nothing in Lean hashes anything: it is a label: what it is worth is what the hold of that sum in a sandbox is worth. -/
noncomputable def Try.pinned : Pinned := { name := "ythlhmilckenoaaa", sum := "c77881da9e07824fb04c5ca7d44bdc78e0f616ec9f7ae3568126e2409ca03376", checked := Try.checked }
namespace Rows
def none {H : Type} : Left H := { results := [], args := [] }

/-- 'folkmootkeep.KingAgrees': WHATEVER THE INPUT: true; the input reads as it did. -/
def kingAgreesSpec : ChangeSpec := { name := "kingAgrees", fn := fun _ => fun
  | [d1, d2, d3, d4, d5] => { results := [.lit (.bool true)], args := [d1, d2, d3, d4, d5] }
  | _ => none }
def kingAgreesRow : OpenClaim := { program := "ythlhmilckenoaaa", sum := "c77881da9e07824fb04c5ca7d44bdc78e0f616ec9f7ae3568126e2409ca03376", func := "folkmoot/folkmootkeep.KingAgrees", spec := "kingAgrees", apart := false }
def KingAgreesSaid : Prop := kingAgreesRow.holds Try.pinned (OpenSpec.ofChange kingAgreesSpec)

/-- ITS FALSE NEIGHBOUR: 'it returns false'. Refute it at one input. -/
def kingAgreesWrong : ChangeSpec := { name := "kingAgrees", fn := fun _ => fun
  | [d1, d2, d3, d4, d5] => { results := [.lit (.bool false)], args := [d1, d2, d3, d4, d5] }
  | _ => none }
def KingAgreesWrongFalsely : Prop := kingAgreesRow.holds Try.pinned (OpenSpec.ofChange kingAgreesWrong)

/-- 'folkmootkeep.KingTrue': WHATEVER THE INPUT: true; the input reads as it did. -/
def kingTrueSpec : ChangeSpec := { name := "kingTrue", fn := fun _ => fun
  | [d1, d2, d3, d4] => { results := [.lit (.bool true)], args := [d1, d2, d3, d4] }
  | _ => none }
def kingTrueRow : OpenClaim := { program := "ythlhmilckenoaaa", sum := "c77881da9e07824fb04c5ca7d44bdc78e0f616ec9f7ae3568126e2409ca03376", func := "folkmoot/folkmootkeep.KingTrue", spec := "kingTrue", apart := false }
def KingTrueSaid : Prop := kingTrueRow.holds Try.pinned (OpenSpec.ofChange kingTrueSpec)

/-- ITS FALSE NEIGHBOUR: 'it returns false'. Refute it at one input. -/
def kingTrueWrong : ChangeSpec := { name := "kingTrue", fn := fun _ => fun
  | [d1, d2, d3, d4] => { results := [.lit (.bool false)], args := [d1, d2, d3, d4] }
  | _ => none }
def KingTrueWrongFalsely : Prop := kingTrueRow.holds Try.pinned (OpenSpec.ofChange kingTrueWrong)

/- THE SECOND FORM. 'bulk': how many values and letters a reading holds, each counted each time it is reached (what is shared counts as often as it is met; a slice's spare places count too). A statement '..UptoSaid' is the law's where the arguments, and the package variables that the reading takes, are together of bulk at most 1048576: NARROWER than '..Said'. Prove '..Said' where nothing that the law and all that it calls make is longer than what came in: it says more and counts as full. Else prove '..UptoSaid'. A law counts once. -/
mutual
def uptoBulk {H : Type} : DataW H → Nat
  | .lit (.string bytes) => bytes.length + 1
  | .lit _ => 1
  | .nil => 1
  | .ptr d => uptoBulk d + 1
  | .slice elems spare => uptoBulkAll elems + uptoBulkAll spare + 1
  | .agg parts => uptoBulkAll parts + 1
  | .iface _ d => uptoBulk d + 1
  | .map entries => uptoBulkEntries entries + 1
  | .held _ => 1
def uptoBulkAll {H : Type} : List (DataW H) → Nat
  | [] => 0
  | d :: r => uptoBulk d + uptoBulkAll r
def uptoBulkEntries {H : Type} : List (Lit × DataW H) → Nat
  | [] => 0
  | x :: r => uptoBulkEntry x + uptoBulkEntries r
def uptoBulkEntry {H : Type} : Lit × DataW H → Nat
  | (.string bytes, d) => bytes.length + uptoBulk d + 1
  | (_, d) => uptoBulk d + 1
 end
def uptoSmall : (H : Type) → List (DataW H) → Bool := fun _ ds => decide (uptoBulkAll ds ≤ 1048576)
def OpenSpec.upto (s : _root_.Go.ChangeSpec) : _root_.Go.OpenSpec := { _root_.Go.OpenSpec.ofChange s with cond := some uptoSmall }

/-- 'folkmootkeep.KingAgrees', WHERE WHAT IT READS IS OF BULK AT MOST 1048576: true; the input reads as it did. -/
def kingAgreesUptoRow : OpenClaim := { program := "ythlhmilckenoaaa", sum := "c77881da9e07824fb04c5ca7d44bdc78e0f616ec9f7ae3568126e2409ca03376", func := "folkmoot/folkmootkeep.KingAgrees", spec := "kingAgrees", apart := false, narrowed := true }
def KingAgreesUptoSaid : Prop := kingAgreesUptoRow.holds Try.pinned (OpenSpec.upto kingAgreesSpec)

/-- 'folkmootkeep.KingTrue', WHERE WHAT IT READS IS OF BULK AT MOST 1048576: true; the input reads as it did. -/
def kingTrueUptoRow : OpenClaim := { program := "ythlhmilckenoaaa", sum := "c77881da9e07824fb04c5ca7d44bdc78e0f616ec9f7ae3568126e2409ca03376", func := "folkmoot/folkmootkeep.KingTrue", spec := "kingTrue", apart := false, narrowed := true }
def KingTrueUptoSaid : Prop := kingTrueUptoRow.holds Try.pinned (OpenSpec.upto kingTrueSpec)

end Rows
end Go.Proofs.Ythlhmilckenoaaa
