/-
  No cell of these rows narrows 'for every input' (looked for: loops, veiled, ifaces, maps, wideKeys, modest, calm, conditions, laid).
  DERIVED. THE GIVEN ROWS OF THIS SEAT. 4 by the template 'for every input the law returns true; each argument reads behind the call as it read before'; 0 by the template 'total and deterministic' (their statements: YtbfcfekpfgpfbaaTotals.lean).
  GIVEN WITH THE SEED: the statements are not yours to turn. If you find one false, say at which input.
  Laid BY PROGRAM, IN A SANDBOX (cutbox-rows.mjs): the forced cells as the released guide's own fill.sh prints them over the translation 3c297954f1572c76… (all of the seat's roots in one cut). By AI agents, Wed Nov 11 2026. No macro, syntax, notation, axiom, sorry.
-/
import Derived.Test.YtbfcfekpfgpfbaaChecked
import GoSem.Claim
import GoSem.ClaimJoined
import GoSem.ClaimMapViews
import Derived.JoinedTies
import Derived.KernelRfl
namespace Go.Proofs.Ytbfcfekpfgpfbaa
/- THE CELL 'sum', in the pinned program and in every row, IS THE sha256 OF THE DUMP (.gsa) THAT YtbfcfekpfgpfbaaProg.lean LOADS. Nothing in Lean hashes anything: it is a label: what it is worth is what the hold of that sum in a sandbox is worth. -/
noncomputable def Try.pinned : Pinned := { name := "ytbfcfekpfgpfbaa", sum := "3c297954f1572c769fe53393dcf235cd91ef6ee4cacce8cb4a540b531fab0e70", checked := Try.checked }
namespace Rows
def none {H : Type} : Left H := { results := [], args := [] }

/-- 'folkmootkeep.BrachaAgrees': WHATEVER THE INPUT: true; the input reads as it did. -/
def brachaAgreesSpec : ChangeSpec := { name := "brachaAgrees", fn := fun _ => fun
  | [d1, d2, d3, d4, d5] => { results := [.lit (.bool true)], args := [d1, d2, d3, d4, d5] }
  | _ => none }
def brachaAgreesRow : OpenClaim := { program := "ytbfcfekpfgpfbaa", sum := "3c297954f1572c769fe53393dcf235cd91ef6ee4cacce8cb4a540b531fab0e70", func := "folkmoot/folkmootkeep.BrachaAgrees", spec := "brachaAgrees", unfollowed := true, recurses := true, plainKeys := false, apart := false }
def BrachaAgreesSaid : Prop := brachaAgreesRow.holds Try.pinned (OpenSpec.ofChange brachaAgreesSpec)

/-- ITS FALSE NEIGHBOUR: 'it returns false'. Refute it at one input. -/
def brachaAgreesWrong : ChangeSpec := { name := "brachaAgrees", fn := fun _ => fun
  | [d1, d2, d3, d4, d5] => { results := [.lit (.bool false)], args := [d1, d2, d3, d4, d5] }
  | _ => none }
def BrachaAgreesWrongFalsely : Prop := brachaAgreesRow.holds Try.pinned (OpenSpec.ofChange brachaAgreesWrong)

/-- 'folkmootkeep.BrachaTotal': WHATEVER THE INPUT: true; the input reads as it did. -/
def brachaTotalSpec : ChangeSpec := { name := "brachaTotal", fn := fun _ => fun
  | [d1, d2, d3, d4, d5] => { results := [.lit (.bool true)], args := [d1, d2, d3, d4, d5] }
  | _ => none }
def brachaTotalRow : OpenClaim := { program := "ytbfcfekpfgpfbaa", sum := "3c297954f1572c769fe53393dcf235cd91ef6ee4cacce8cb4a540b531fab0e70", func := "folkmoot/folkmootkeep.BrachaTotal", spec := "brachaTotal", unfollowed := true, recurses := true, plainKeys := false, apart := false }
def BrachaTotalSaid : Prop := brachaTotalRow.holds Try.pinned (OpenSpec.ofChange brachaTotalSpec)

/-- ITS FALSE NEIGHBOUR: 'it returns false'. Refute it at one input. -/
def brachaTotalWrong : ChangeSpec := { name := "brachaTotal", fn := fun _ => fun
  | [d1, d2, d3, d4, d5] => { results := [.lit (.bool false)], args := [d1, d2, d3, d4, d5] }
  | _ => none }
def BrachaTotalWrongFalsely : Prop := brachaTotalRow.holds Try.pinned (OpenSpec.ofChange brachaTotalWrong)

/-- 'folkmootkeep.BrachaFront': WHATEVER THE INPUT: true; the input reads as it did. -/
def brachaFrontSpec : ChangeSpec := { name := "brachaFront", fn := fun _ => fun
  | [d1, d2, d3, d4, d5, d6] => { results := [.lit (.bool true)], args := [d1, d2, d3, d4, d5, d6] }
  | _ => none }
def brachaFrontRow : OpenClaim := { program := "ytbfcfekpfgpfbaa", sum := "3c297954f1572c769fe53393dcf235cd91ef6ee4cacce8cb4a540b531fab0e70", func := "folkmoot/folkmootkeep.BrachaFront", spec := "brachaFront", unfollowed := true, recurses := true, plainKeys := false, apart := false }
def BrachaFrontSaid : Prop := brachaFrontRow.holds Try.pinned (OpenSpec.ofChange brachaFrontSpec)

/-- ITS FALSE NEIGHBOUR: 'it returns false'. Refute it at one input. -/
def brachaFrontWrong : ChangeSpec := { name := "brachaFront", fn := fun _ => fun
  | [d1, d2, d3, d4, d5, d6] => { results := [.lit (.bool false)], args := [d1, d2, d3, d4, d5, d6] }
  | _ => none }
def BrachaFrontWrongFalsely : Prop := brachaFrontRow.holds Try.pinned (OpenSpec.ofChange brachaFrontWrong)

/-- 'folkmootkeep.BrachaFew': WHATEVER THE INPUT: true; the input reads as it did. -/
def brachaFewSpec : ChangeSpec := { name := "brachaFew", fn := fun _ => fun
  | [d1, d2, d3, d4, d5] => { results := [.lit (.bool true)], args := [d1, d2, d3, d4, d5] }
  | _ => none }
def brachaFewRow : OpenClaim := { program := "ytbfcfekpfgpfbaa", sum := "3c297954f1572c769fe53393dcf235cd91ef6ee4cacce8cb4a540b531fab0e70", func := "folkmoot/folkmootkeep.BrachaFew", spec := "brachaFew", unfollowed := true, recurses := true, plainKeys := false, apart := false }
def BrachaFewSaid : Prop := brachaFewRow.holds Try.pinned (OpenSpec.ofChange brachaFewSpec)

/-- ITS FALSE NEIGHBOUR: 'it returns false'. Refute it at one input. -/
def brachaFewWrong : ChangeSpec := { name := "brachaFew", fn := fun _ => fun
  | [d1, d2, d3, d4, d5] => { results := [.lit (.bool false)], args := [d1, d2, d3, d4, d5] }
  | _ => none }
def BrachaFewWrongFalsely : Prop := brachaFewRow.holds Try.pinned (OpenSpec.ofChange brachaFewWrong)

/- THE SECOND FORM. 'bulk': how many values and letters a reading holds, each counted each time it is reached (what is shared counts as often as it is met; a slice's spare places count too). A statement '..UptoSaid' is the law's where the arguments, and the package variables that the reading takes, are together of bulk at most 1048576: NARROWER than '..Said'. Prove '..Said' where nothing that the law and all that it calls make is longer than what came in: it says more and counts as full. Else prove '..UptoSaid'. A law counts once. -/
mutual
def uptoBulk {H : Type} : DataW H → Nat
  | .lit (.string bytes) => bytes.length + 1
  | .lit _ => 1
  | .nil => 1
  | .ptr d => uptoBulk d + 1
  | .slice elems spare => uptoBulkAll elems + uptoBulkAll spare + 1
  | .agg parts => uptoBulkAll parts + 1
  | .iface _ d => uptoBulk d + 1
  | .map entries => uptoBulkEntries entries + 1
  | .held _ => 1
def uptoBulkAll {H : Type} : List (DataW H) → Nat
  | [] => 0
  | d :: r => uptoBulk d + uptoBulkAll r
def uptoBulkEntries {H : Type} : List (Lit × DataW H) → Nat
  | [] => 0
  | x :: r => uptoBulkEntry x + uptoBulkEntries r
def uptoBulkEntry {H : Type} : Lit × DataW H → Nat
  | (.string bytes, d) => bytes.length + uptoBulk d + 1
  | (_, d) => uptoBulk d + 1
 end
def uptoSmall : (H : Type) → List (DataW H) → Bool := fun _ ds => decide (uptoBulkAll ds ≤ 1048576)
def OpenSpec.upto (s : _root_.Go.ChangeSpec) : _root_.Go.OpenSpec := { _root_.Go.OpenSpec.ofChange s with cond := some uptoSmall }

/-- 'folkmootkeep.BrachaAgrees', WHERE WHAT IT READS IS OF BULK AT MOST 1048576: true; the input reads as it did. -/
def brachaAgreesUptoRow : OpenClaim := { program := "ytbfcfekpfgpfbaa", sum := "3c297954f1572c769fe53393dcf235cd91ef6ee4cacce8cb4a540b531fab0e70", func := "folkmoot/folkmootkeep.BrachaAgrees", spec := "brachaAgrees", unfollowed := true, recurses := true, plainKeys := false, apart := false, narrowed := true }
def BrachaAgreesUptoSaid : Prop := brachaAgreesUptoRow.holds Try.pinned (OpenSpec.upto brachaAgreesSpec)

/-- 'folkmootkeep.BrachaTotal', WHERE WHAT IT READS IS OF BULK AT MOST 1048576: true; the input reads as it did. -/
def brachaTotalUptoRow : OpenClaim := { program := "ytbfcfekpfgpfbaa", sum := "3c297954f1572c769fe53393dcf235cd91ef6ee4cacce8cb4a540b531fab0e70", func := "folkmoot/folkmootkeep.BrachaTotal", spec := "brachaTotal", unfollowed := true, recurses := true, plainKeys := false, apart := false, narrowed := true }
def BrachaTotalUptoSaid : Prop := brachaTotalUptoRow.holds Try.pinned (OpenSpec.upto brachaTotalSpec)

/-- 'folkmootkeep.BrachaFront', WHERE WHAT IT READS IS OF BULK AT MOST 1048576: true; the input reads as it did. -/
def brachaFrontUptoRow : OpenClaim := { program := "ytbfcfekpfgpfbaa", sum := "3c297954f1572c769fe53393dcf235cd91ef6ee4cacce8cb4a540b531fab0e70", func := "folkmoot/folkmootkeep.BrachaFront", spec := "brachaFront", unfollowed := true, recurses := true, plainKeys := false, apart := false, narrowed := true }
def BrachaFrontUptoSaid : Prop := brachaFrontUptoRow.holds Try.pinned (OpenSpec.upto brachaFrontSpec)

/-- 'folkmootkeep.BrachaFew', WHERE WHAT IT READS IS OF BULK AT MOST 1048576: true; the input reads as it did. -/
def brachaFewUptoRow : OpenClaim := { program := "ytbfcfekpfgpfbaa", sum := "3c297954f1572c769fe53393dcf235cd91ef6ee4cacce8cb4a540b531fab0e70", func := "folkmoot/folkmootkeep.BrachaFew", spec := "brachaFew", unfollowed := true, recurses := true, plainKeys := false, apart := false, narrowed := true }
def BrachaFewUptoSaid : Prop := brachaFewUptoRow.holds Try.pinned (OpenSpec.upto brachaFewSpec)

end Rows
end Go.Proofs.Ytbfcfekpfgpfbaa
