/-
  No cell of these rows narrows 'for every input' (looked for: loops, veiled, ifaces, maps, wideKeys, modest, calm, conditions, laid).
  DERIVED. THE GIVEN ROWS OF THIS SEAT. 4 by the template 'for every input the law returns true; each argument reads behind the call as it read before'; 0 by the template 'total and deterministic' (their statements: YtgnpngiecnkfiaaTotals.lean).
  GIVEN WITH THE SEED: the statements are not yours to turn. If you find one false, say at which input.
  Laid BY PROGRAM, IN A SANDBOX (cutbox-rows.mjs): the forced cells as the released guide's own fill.sh prints them over the translation 7aff9380022197e3… (all of the seat's roots in one cut). By AI agents, Wed Nov 11 2026. No macro, syntax, notation, axiom, sorry.
-/
import Derived.Test.YtgnpngiecnkfiaaChecked
import GoSem.Claim
import GoSem.ClaimJoined
import GoSem.ClaimMapViews
import Derived.JoinedTies
import Derived.KernelRfl
namespace Go.Proofs.Ytgnpngiecnkfiaa
/- THE CELL 'sum', in the pinned program and in every row, IS THE sha256 OF THE DUMP (.gsa) THAT YtgnpngiecnkfiaaProg.lean LOADS. Nothing in Lean hashes anything: it is a label: what it is worth is what the hold of that sum in a sandbox is worth. -/
noncomputable def Try.pinned : Pinned := { name := "ytgnpngiecnkfiaa", sum := "7aff9380022197e370d789cd841b8edc7a5d37440f99c8f6848426773c6edf58", checked := Try.checked }
namespace Rows
def none {H : Type} : Left H := { results := [], args := [] }

/-- 'folkmootkeep.QuietTrue': WHATEVER THE INPUT: true; the input reads as it did. -/
def quietTrueSpec : ChangeSpec := { name := "quietTrue", fn := fun _ => fun
  | [d1, d2] => { results := [.lit (.bool true)], args := [d1, d2] }
  | _ => none }
def quietTrueRow : OpenClaim := { program := "ytgnpngiecnkfiaa", sum := "7aff9380022197e370d789cd841b8edc7a5d37440f99c8f6848426773c6edf58", func := "folkmoot/folkmootkeep.QuietTrue", spec := "quietTrue", unfollowed := true, recurses := true, plainKeys := false, apart := false }
def QuietTrueSaid : Prop := quietTrueRow.holds Try.pinned (OpenSpec.ofChange quietTrueSpec)

/-- ITS FALSE NEIGHBOUR: 'it returns false'. Refute it at one input. -/
def quietTrueWrong : ChangeSpec := { name := "quietTrue", fn := fun _ => fun
  | [d1, d2] => { results := [.lit (.bool false)], args := [d1, d2] }
  | _ => none }
def QuietTrueWrongFalsely : Prop := quietTrueRow.holds Try.pinned (OpenSpec.ofChange quietTrueWrong)

/-- 'folkmootkeep.QuietTells': WHATEVER THE INPUT: true; the input reads as it did. -/
def quietTellsSpec : ChangeSpec := { name := "quietTells", fn := fun _ => fun
  | [d1, d2] => { results := [.lit (.bool true)], args := [d1, d2] }
  | _ => none }
def quietTellsRow : OpenClaim := { program := "ytgnpngiecnkfiaa", sum := "7aff9380022197e370d789cd841b8edc7a5d37440f99c8f6848426773c6edf58", func := "folkmoot/folkmootkeep.QuietTells", spec := "quietTells", unfollowed := true, recurses := true, plainKeys := false, apart := false }
def QuietTellsSaid : Prop := quietTellsRow.holds Try.pinned (OpenSpec.ofChange quietTellsSpec)

/-- ITS FALSE NEIGHBOUR: 'it returns false'. Refute it at one input. -/
def quietTellsWrong : ChangeSpec := { name := "quietTells", fn := fun _ => fun
  | [d1, d2] => { results := [.lit (.bool false)], args := [d1, d2] }
  | _ => none }
def QuietTellsWrongFalsely : Prop := quietTellsRow.holds Try.pinned (OpenSpec.ofChange quietTellsWrong)

/-- 'folkmootkeep.QuietFront': WHATEVER THE INPUT: true; the input reads as it did. -/
def quietFrontSpec : ChangeSpec := { name := "quietFront", fn := fun _ => fun
  | [d1, d2, d3] => { results := [.lit (.bool true)], args := [d1, d2, d3] }
  | _ => none }
def quietFrontRow : OpenClaim := { program := "ytgnpngiecnkfiaa", sum := "7aff9380022197e370d789cd841b8edc7a5d37440f99c8f6848426773c6edf58", func := "folkmoot/folkmootkeep.QuietFront", spec := "quietFront", unfollowed := true, recurses := true, plainKeys := false, apart := false }
def QuietFrontSaid : Prop := quietFrontRow.holds Try.pinned (OpenSpec.ofChange quietFrontSpec)

/-- ITS FALSE NEIGHBOUR: 'it returns false'. Refute it at one input. -/
def quietFrontWrong : ChangeSpec := { name := "quietFront", fn := fun _ => fun
  | [d1, d2, d3] => { results := [.lit (.bool false)], args := [d1, d2, d3] }
  | _ => none }
def QuietFrontWrongFalsely : Prop := quietFrontRow.holds Try.pinned (OpenSpec.ofChange quietFrontWrong)

/-- 'folkmootkeep.QuietNotYet': WHATEVER THE INPUT: true; the input reads as it did. -/
def quietNotYetSpec : ChangeSpec := { name := "quietNotYet", fn := fun _ => fun
  | [d1, d2] => { results := [.lit (.bool true)], args := [d1, d2] }
  | _ => none }
def quietNotYetRow : OpenClaim := { program := "ytgnpngiecnkfiaa", sum := "7aff9380022197e370d789cd841b8edc7a5d37440f99c8f6848426773c6edf58", func := "folkmoot/folkmootkeep.QuietNotYet", spec := "quietNotYet", unfollowed := true, recurses := true, plainKeys := false, apart := false }
def QuietNotYetSaid : Prop := quietNotYetRow.holds Try.pinned (OpenSpec.ofChange quietNotYetSpec)

/-- ITS FALSE NEIGHBOUR: 'it returns false'. Refute it at one input. -/
def quietNotYetWrong : ChangeSpec := { name := "quietNotYet", fn := fun _ => fun
  | [d1, d2] => { results := [.lit (.bool false)], args := [d1, d2] }
  | _ => none }
def QuietNotYetWrongFalsely : Prop := quietNotYetRow.holds Try.pinned (OpenSpec.ofChange quietNotYetWrong)

/- THE SECOND FORM. 'bulk': how many values and letters a reading holds, each counted each time it is reached (what is shared counts as often as it is met; a slice's spare places count too). A statement '..UptoSaid' is the law's where the arguments, and the package variables that the reading takes, are together of bulk at most 1048576: NARROWER than '..Said'. Prove '..Said' where nothing that the law and all that it calls make is longer than what came in: it says more and counts as full. Else prove '..UptoSaid'. A law counts once. -/
mutual
def uptoBulk {H : Type} : DataW H → Nat
  | .lit (.string bytes) => bytes.length + 1
  | .lit _ => 1
  | .nil => 1
  | .ptr d => uptoBulk d + 1
  | .slice elems spare => uptoBulkAll elems + uptoBulkAll spare + 1
  | .agg parts => uptoBulkAll parts + 1
  | .iface _ d => uptoBulk d + 1
  | .map entries => uptoBulkEntries entries + 1
  | .held _ => 1
def uptoBulkAll {H : Type} : List (DataW H) → Nat
  | [] => 0
  | d :: r => uptoBulk d + uptoBulkAll r
def uptoBulkEntries {H : Type} : List (Lit × DataW H) → Nat
  | [] => 0
  | x :: r => uptoBulkEntry x + uptoBulkEntries r
def uptoBulkEntry {H : Type} : Lit × DataW H → Nat
  | (.string bytes, d) => bytes.length + uptoBulk d + 1
  | (_, d) => uptoBulk d + 1
 end
def uptoSmall : (H : Type) → List (DataW H) → Bool := fun _ ds => decide (uptoBulkAll ds ≤ 1048576)
def OpenSpec.upto (s : _root_.Go.ChangeSpec) : _root_.Go.OpenSpec := { _root_.Go.OpenSpec.ofChange s with cond := some uptoSmall }

/-- 'folkmootkeep.QuietTrue', WHERE WHAT IT READS IS OF BULK AT MOST 1048576: true; the input reads as it did. -/
def quietTrueUptoRow : OpenClaim := { program := "ytgnpngiecnkfiaa", sum := "7aff9380022197e370d789cd841b8edc7a5d37440f99c8f6848426773c6edf58", func := "folkmoot/folkmootkeep.QuietTrue", spec := "quietTrue", unfollowed := true, recurses := true, plainKeys := false, apart := false, narrowed := true }
def QuietTrueUptoSaid : Prop := quietTrueUptoRow.holds Try.pinned (OpenSpec.upto quietTrueSpec)

/-- 'folkmootkeep.QuietTells', WHERE WHAT IT READS IS OF BULK AT MOST 1048576: true; the input reads as it did. -/
def quietTellsUptoRow : OpenClaim := { program := "ytgnpngiecnkfiaa", sum := "7aff9380022197e370d789cd841b8edc7a5d37440f99c8f6848426773c6edf58", func := "folkmoot/folkmootkeep.QuietTells", spec := "quietTells", unfollowed := true, recurses := true, plainKeys := false, apart := false, narrowed := true }
def QuietTellsUptoSaid : Prop := quietTellsUptoRow.holds Try.pinned (OpenSpec.upto quietTellsSpec)

/-- 'folkmootkeep.QuietFront', WHERE WHAT IT READS IS OF BULK AT MOST 1048576: true; the input reads as it did. -/
def quietFrontUptoRow : OpenClaim := { program := "ytgnpngiecnkfiaa", sum := "7aff9380022197e370d789cd841b8edc7a5d37440f99c8f6848426773c6edf58", func := "folkmoot/folkmootkeep.QuietFront", spec := "quietFront", unfollowed := true, recurses := true, plainKeys := false, apart := false, narrowed := true }
def QuietFrontUptoSaid : Prop := quietFrontUptoRow.holds Try.pinned (OpenSpec.upto quietFrontSpec)

/-- 'folkmootkeep.QuietNotYet', WHERE WHAT IT READS IS OF BULK AT MOST 1048576: true; the input reads as it did. -/
def quietNotYetUptoRow : OpenClaim := { program := "ytgnpngiecnkfiaa", sum := "7aff9380022197e370d789cd841b8edc7a5d37440f99c8f6848426773c6edf58", func := "folkmoot/folkmootkeep.QuietNotYet", spec := "quietNotYet", unfollowed := true, recurses := true, plainKeys := false, apart := false, narrowed := true }
def QuietNotYetUptoSaid : Prop := quietNotYetUptoRow.holds Try.pinned (OpenSpec.upto quietNotYetSpec)

end Rows
end Go.Proofs.Ytgnpngiecnkfiaa
