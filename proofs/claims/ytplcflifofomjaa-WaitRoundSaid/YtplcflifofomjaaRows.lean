/-
  No cell of these rows narrows 'for every input' (looked for: loops, veiled, ifaces, maps, wideKeys, modest, calm, conditions, laid).
  DERIVED. THE GIVEN ROWS OF THIS SEAT. 4 by the template 'for every input the law returns true; each argument reads behind the call as it read before'; 0 by the template 'total and deterministic' (their statements: YtplcflifofomjaaTotals.lean).
  GIVEN WITH THE SEED: the statements are not yours to turn. If you find one false, say at which input.
  Laid BY PROGRAM, IN A SANDBOX (cutbox-rows.mjs): the forced cells as the released guide's own fill.sh prints them over the translation cdae8646f12aed50… (all of the seat's roots in one cut). By AI agents, Wed Nov 11 2026. No macro, syntax, notation, axiom, sorry.
-/
import Derived.Test.YtplcflifofomjaaChecked
import GoSem.Claim
import GoSem.ClaimJoined
import GoSem.ClaimMapViews
import Derived.JoinedTies
import Derived.KernelRfl
namespace Go.Proofs.Ytplcflifofomjaa
/- THE CELL 'sum', in the pinned program and in every row, IS THE sha256 OF THE DUMP (.gsa) THAT YtplcflifofomjaaProg.lean LOADS. Nothing in Lean hashes anything: it is a label: what it is worth is what the hold of that sum in a sandbox is worth. -/
noncomputable def Try.pinned : Pinned := { name := "ytplcflifofomjaa", sum := "cdae8646f12aed5063e9122a692a9e20f58195d10aa57023af8642efa85a1d78", checked := Try.checked }
namespace Rows
def none {H : Type} : Left H := { results := [], args := [] }

/-- 'folkmootkeep.WaitLeast': WHATEVER THE INPUT: true; the input reads as it did. -/
def waitLeastSpec : ChangeSpec := { name := "waitLeast", fn := fun _ => fun
  | [d1, d2, d3] => { results := [.lit (.bool true)], args := [d1, d2, d3] }
  | _ => none }
def waitLeastRow : OpenClaim := { program := "ytplcflifofomjaa", sum := "cdae8646f12aed5063e9122a692a9e20f58195d10aa57023af8642efa85a1d78", func := "folkmoot/folkmootkeep.WaitLeast", spec := "waitLeast", unfollowed := true, recurses := true, apart := false }
def WaitLeastSaid : Prop := waitLeastRow.holds Try.pinned (OpenSpec.ofChange waitLeastSpec)

/-- ITS FALSE NEIGHBOUR: 'it returns false'. Refute it at one input. -/
def waitLeastWrong : ChangeSpec := { name := "waitLeast", fn := fun _ => fun
  | [d1, d2, d3] => { results := [.lit (.bool false)], args := [d1, d2, d3] }
  | _ => none }
def WaitLeastWrongFalsely : Prop := waitLeastRow.holds Try.pinned (OpenSpec.ofChange waitLeastWrong)

/-- 'folkmootkeep.WaitAny': WHATEVER THE INPUT: true; the input reads as it did. -/
def waitAnySpec : ChangeSpec := { name := "waitAny", fn := fun _ => fun
  | [d1, d2, d3] => { results := [.lit (.bool true)], args := [d1, d2, d3] }
  | _ => none }
def waitAnyRow : OpenClaim := { program := "ytplcflifofomjaa", sum := "cdae8646f12aed5063e9122a692a9e20f58195d10aa57023af8642efa85a1d78", func := "folkmoot/folkmootkeep.WaitAny", spec := "waitAny", unfollowed := true, recurses := true, apart := false }
def WaitAnySaid : Prop := waitAnyRow.holds Try.pinned (OpenSpec.ofChange waitAnySpec)

/-- ITS FALSE NEIGHBOUR: 'it returns false'. Refute it at one input. -/
def waitAnyWrong : ChangeSpec := { name := "waitAny", fn := fun _ => fun
  | [d1, d2, d3] => { results := [.lit (.bool false)], args := [d1, d2, d3] }
  | _ => none }
def WaitAnyWrongFalsely : Prop := waitAnyRow.holds Try.pinned (OpenSpec.ofChange waitAnyWrong)

/-- 'folkmootkeep.WaitMore': WHATEVER THE INPUT: true; the input reads as it did. -/
def waitMoreSpec : ChangeSpec := { name := "waitMore", fn := fun _ => fun
  | [d1, d2] => { results := [.lit (.bool true)], args := [d1, d2] }
  | _ => none }
def waitMoreRow : OpenClaim := { program := "ytplcflifofomjaa", sum := "cdae8646f12aed5063e9122a692a9e20f58195d10aa57023af8642efa85a1d78", func := "folkmoot/folkmootkeep.WaitMore", spec := "waitMore", unfollowed := true, recurses := true, apart := false }
def WaitMoreSaid : Prop := waitMoreRow.holds Try.pinned (OpenSpec.ofChange waitMoreSpec)

/-- ITS FALSE NEIGHBOUR: 'it returns false'. Refute it at one input. -/
def waitMoreWrong : ChangeSpec := { name := "waitMore", fn := fun _ => fun
  | [d1, d2] => { results := [.lit (.bool false)], args := [d1, d2] }
  | _ => none }
def WaitMoreWrongFalsely : Prop := waitMoreRow.holds Try.pinned (OpenSpec.ofChange waitMoreWrong)

/-- 'folkmootkeep.WaitRound': WHATEVER THE INPUT: true; the input reads as it did. -/
def waitRoundSpec : ChangeSpec := { name := "waitRound", fn := fun _ => fun
  | [d1, d2, d3] => { results := [.lit (.bool true)], args := [d1, d2, d3] }
  | _ => none }
def waitRoundRow : OpenClaim := { program := "ytplcflifofomjaa", sum := "cdae8646f12aed5063e9122a692a9e20f58195d10aa57023af8642efa85a1d78", func := "folkmoot/folkmootkeep.WaitRound", spec := "waitRound", unfollowed := true, recurses := true, apart := false }
def WaitRoundSaid : Prop := waitRoundRow.holds Try.pinned (OpenSpec.ofChange waitRoundSpec)

/-- ITS FALSE NEIGHBOUR: 'it returns false'. Refute it at one input. -/
def waitRoundWrong : ChangeSpec := { name := "waitRound", fn := fun _ => fun
  | [d1, d2, d3] => { results := [.lit (.bool false)], args := [d1, d2, d3] }
  | _ => none }
def WaitRoundWrongFalsely : Prop := waitRoundRow.holds Try.pinned (OpenSpec.ofChange waitRoundWrong)

/- THE SECOND FORM. 'bulk': how many values and letters a reading holds, each counted each time it is reached (what is shared counts as often as it is met; a slice's spare places count too). A statement '..UptoSaid' is the law's where the arguments, and the package variables that the reading takes, are together of bulk at most 1048576: NARROWER than '..Said'. Prove '..Said' where nothing that the law and all that it calls make is longer than what came in: it says more and counts as full. Else prove '..UptoSaid'. A law counts once. -/
mutual
def uptoBulk {H : Type} : DataW H → Nat
  | .lit (.string bytes) => bytes.length + 1
  | .lit _ => 1
  | .nil => 1
  | .ptr d => uptoBulk d + 1
  | .slice elems spare => uptoBulkAll elems + uptoBulkAll spare + 1
  | .agg parts => uptoBulkAll parts + 1
  | .iface _ d => uptoBulk d + 1
  | .map entries => uptoBulkEntries entries + 1
  | .held _ => 1
def uptoBulkAll {H : Type} : List (DataW H) → Nat
  | [] => 0
  | d :: r => uptoBulk d + uptoBulkAll r
def uptoBulkEntries {H : Type} : List (Lit × DataW H) → Nat
  | [] => 0
  | x :: r => uptoBulkEntry x + uptoBulkEntries r
def uptoBulkEntry {H : Type} : Lit × DataW H → Nat
  | (.string bytes, d) => bytes.length + uptoBulk d + 1
  | (_, d) => uptoBulk d + 1
 end
def uptoSmall : (H : Type) → List (DataW H) → Bool := fun _ ds => decide (uptoBulkAll ds ≤ 1048576)
def OpenSpec.upto (s : _root_.Go.ChangeSpec) : _root_.Go.OpenSpec := { _root_.Go.OpenSpec.ofChange s with cond := some uptoSmall }

/-- 'folkmootkeep.WaitLeast', WHERE WHAT IT READS IS OF BULK AT MOST 1048576: true; the input reads as it did. -/
def waitLeastUptoRow : OpenClaim := { program := "ytplcflifofomjaa", sum := "cdae8646f12aed5063e9122a692a9e20f58195d10aa57023af8642efa85a1d78", func := "folkmoot/folkmootkeep.WaitLeast", spec := "waitLeast", unfollowed := true, recurses := true, apart := false, narrowed := true }
def WaitLeastUptoSaid : Prop := waitLeastUptoRow.holds Try.pinned (OpenSpec.upto waitLeastSpec)

/-- 'folkmootkeep.WaitAny', WHERE WHAT IT READS IS OF BULK AT MOST 1048576: true; the input reads as it did. -/
def waitAnyUptoRow : OpenClaim := { program := "ytplcflifofomjaa", sum := "cdae8646f12aed5063e9122a692a9e20f58195d10aa57023af8642efa85a1d78", func := "folkmoot/folkmootkeep.WaitAny", spec := "waitAny", unfollowed := true, recurses := true, apart := false, narrowed := true }
def WaitAnyUptoSaid : Prop := waitAnyUptoRow.holds Try.pinned (OpenSpec.upto waitAnySpec)

/-- 'folkmootkeep.WaitMore', WHERE WHAT IT READS IS OF BULK AT MOST 1048576: true; the input reads as it did. -/
def waitMoreUptoRow : OpenClaim := { program := "ytplcflifofomjaa", sum := "cdae8646f12aed5063e9122a692a9e20f58195d10aa57023af8642efa85a1d78", func := "folkmoot/folkmootkeep.WaitMore", spec := "waitMore", unfollowed := true, recurses := true, apart := false, narrowed := true }
def WaitMoreUptoSaid : Prop := waitMoreUptoRow.holds Try.pinned (OpenSpec.upto waitMoreSpec)

/-- 'folkmootkeep.WaitRound', WHERE WHAT IT READS IS OF BULK AT MOST 1048576: true; the input reads as it did. -/
def waitRoundUptoRow : OpenClaim := { program := "ytplcflifofomjaa", sum := "cdae8646f12aed5063e9122a692a9e20f58195d10aa57023af8642efa85a1d78", func := "folkmoot/folkmootkeep.WaitRound", spec := "waitRound", unfollowed := true, recurses := true, apart := false, narrowed := true }
def WaitRoundUptoSaid : Prop := waitRoundUptoRow.holds Try.pinned (OpenSpec.upto waitRoundSpec)

end Rows
end Go.Proofs.Ytplcflifofomjaa
