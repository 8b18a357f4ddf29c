/-
  No cell of these rows narrows 'for every input' (looked for: loops, veiled, ifaces, maps, wideKeys, modest, calm, conditions, laid).
  DERIVED. THE GIVEN ROWS OF THIS SEAT. 4 by the template 'for every input the law returns true; each argument reads behind the call as it read before'; 0 by the template 'total and deterministic' (their statements: YtcjdphhofjibdaaTotals.lean).
  GIVEN WITH THE SEED: the statements are not yours to turn. If you find one false, say at which input.
  Laid BY PROGRAM, IN A SANDBOX (cutbox-rows.mjs): the forced cells as the released guide's own fill.sh prints them over the translation 98cfb021ef197edd… (all of the seat's roots in one cut). By AI agents, Wed Nov 11 2026. No macro, syntax, notation, axiom, sorry.
-/
import Derived.Test.YtcjdphhofjibdaaChecked
import GoSem.Claim
import GoSem.ClaimJoined
import GoSem.ClaimMapViews
import Derived.JoinedTies
import Derived.KernelRfl
namespace Go.Proofs.Ytcjdphhofjibdaa
/- THE CELL 'sum', in the pinned program and in every row, IS THE sha256 OF THE DUMP (.gsa) THAT YtcjdphhofjibdaaProg.lean LOADS. Nothing in Lean hashes anything: it is a label: what it is worth is what the hold of that sum in a sandbox is worth. -/
noncomputable def Try.pinned : Pinned := { name := "ytcjdphhofjibdaa", sum := "98cfb021ef197eddfcb6f7f01217644bf5eaf74677f24e6ea3a20b31961bf329", checked := Try.checked }
namespace Rows
def none {H : Type} : Left H := { results := [], args := [] }

/-- 'folkmootkeep.CausalOrder': WHATEVER THE INPUT: true; the input reads as it did. -/
def causalOrderSpec : ChangeSpec := { name := "causalOrder", fn := fun _ => fun
  | [d1, d2] => { results := [.lit (.bool true)], args := [d1, d2] }
  | _ => none }
def causalOrderRow : OpenClaim := { program := "ytcjdphhofjibdaa", sum := "98cfb021ef197eddfcb6f7f01217644bf5eaf74677f24e6ea3a20b31961bf329", func := "folkmoot/folkmootkeep.CausalOrder", spec := "causalOrder", inPlace := ["slices.overlaps[int]"], unfollowed := true, recurses := true, apart := false }
def CausalOrderSaid : Prop := causalOrderRow.holds Try.pinned (OpenSpec.ofChange causalOrderSpec)

/-- ITS FALSE NEIGHBOUR: 'it returns false'. Refute it at one input. -/
def causalOrderWrong : ChangeSpec := { name := "causalOrder", fn := fun _ => fun
  | [d1, d2] => { results := [.lit (.bool false)], args := [d1, d2] }
  | _ => none }
def CausalOrderWrongFalsely : Prop := causalOrderRow.holds Try.pinned (OpenSpec.ofChange causalOrderWrong)

/-- 'folkmootkeep.CausalAll': WHATEVER THE INPUT: true; the input reads as it did. -/
def causalAllSpec : ChangeSpec := { name := "causalAll", fn := fun _ => fun
  | [d1, d2] => { results := [.lit (.bool true)], args := [d1, d2] }
  | _ => none }
def causalAllRow : OpenClaim := { program := "ytcjdphhofjibdaa", sum := "98cfb021ef197eddfcb6f7f01217644bf5eaf74677f24e6ea3a20b31961bf329", func := "folkmoot/folkmootkeep.CausalAll", spec := "causalAll", inPlace := ["slices.overlaps[int]"], unfollowed := true, recurses := true, apart := false }
def CausalAllSaid : Prop := causalAllRow.holds Try.pinned (OpenSpec.ofChange causalAllSpec)

/-- ITS FALSE NEIGHBOUR: 'it returns false'. Refute it at one input. -/
def causalAllWrong : ChangeSpec := { name := "causalAll", fn := fun _ => fun
  | [d1, d2] => { results := [.lit (.bool false)], args := [d1, d2] }
  | _ => none }
def CausalAllWrongFalsely : Prop := causalAllRow.holds Try.pinned (OpenSpec.ofChange causalAllWrong)

/-- 'folkmootkeep.CausalFront': WHATEVER THE INPUT: true; the input reads as it did. -/
def causalFrontSpec : ChangeSpec := { name := "causalFront", fn := fun _ => fun
  | [d1, d2, d3] => { results := [.lit (.bool true)], args := [d1, d2, d3] }
  | _ => none }
def causalFrontRow : OpenClaim := { program := "ytcjdphhofjibdaa", sum := "98cfb021ef197eddfcb6f7f01217644bf5eaf74677f24e6ea3a20b31961bf329", func := "folkmoot/folkmootkeep.CausalFront", spec := "causalFront", inPlace := ["slices.overlaps[int]"], unfollowed := true, recurses := true, apart := false }
def CausalFrontSaid : Prop := causalFrontRow.holds Try.pinned (OpenSpec.ofChange causalFrontSpec)

/-- ITS FALSE NEIGHBOUR: 'it returns false'. Refute it at one input. -/
def causalFrontWrong : ChangeSpec := { name := "causalFront", fn := fun _ => fun
  | [d1, d2, d3] => { results := [.lit (.bool false)], args := [d1, d2, d3] }
  | _ => none }
def CausalFrontWrongFalsely : Prop := causalFrontRow.holds Try.pinned (OpenSpec.ofChange causalFrontWrong)

/-- 'folkmootkeep.CausalOwn': WHATEVER THE INPUT: true; the input reads as it did. -/
def causalOwnSpec : ChangeSpec := { name := "causalOwn", fn := fun _ => fun
  | [d1, d2] => { results := [.lit (.bool true)], args := [d1, d2] }
  | _ => none }
def causalOwnRow : OpenClaim := { program := "ytcjdphhofjibdaa", sum := "98cfb021ef197eddfcb6f7f01217644bf5eaf74677f24e6ea3a20b31961bf329", func := "folkmoot/folkmootkeep.CausalOwn", spec := "causalOwn", inPlace := ["slices.overlaps[int]"], unfollowed := true, recurses := true, apart := false }
def CausalOwnSaid : Prop := causalOwnRow.holds Try.pinned (OpenSpec.ofChange causalOwnSpec)

/-- ITS FALSE NEIGHBOUR: 'it returns false'. Refute it at one input. -/
def causalOwnWrong : ChangeSpec := { name := "causalOwn", fn := fun _ => fun
  | [d1, d2] => { results := [.lit (.bool false)], args := [d1, d2] }
  | _ => none }
def CausalOwnWrongFalsely : Prop := causalOwnRow.holds Try.pinned (OpenSpec.ofChange causalOwnWrong)

/- THE SECOND FORM. 'bulk': how many values and letters a reading holds, each counted each time it is reached (what is shared counts as often as it is met; a slice's spare places count too). A statement '..UptoSaid' is the law's where the arguments, and the package variables that the reading takes, are together of bulk at most 1048576: NARROWER than '..Said'. Prove '..Said' where nothing that the law and all that it calls make is longer than what came in: it says more and counts as full. Else prove '..UptoSaid'. A law counts once. -/
mutual
def uptoBulk {H : Type} : DataW H → Nat
  | .lit (.string bytes) => bytes.length + 1
  | .lit _ => 1
  | .nil => 1
  | .ptr d => uptoBulk d + 1
  | .slice elems spare => uptoBulkAll elems + uptoBulkAll spare + 1
  | .agg parts => uptoBulkAll parts + 1
  | .iface _ d => uptoBulk d + 1
  | .map entries => uptoBulkEntries entries + 1
  | .held _ => 1
def uptoBulkAll {H : Type} : List (DataW H) → Nat
  | [] => 0
  | d :: r => uptoBulk d + uptoBulkAll r
def uptoBulkEntries {H : Type} : List (Lit × DataW H) → Nat
  | [] => 0
  | x :: r => uptoBulkEntry x + uptoBulkEntries r
def uptoBulkEntry {H : Type} : Lit × DataW H → Nat
  | (.string bytes, d) => bytes.length + uptoBulk d + 1
  | (_, d) => uptoBulk d + 1
 end
def uptoSmall : (H : Type) → List (DataW H) → Bool := fun _ ds => decide (uptoBulkAll ds ≤ 1048576)
def OpenSpec.upto (s : _root_.Go.ChangeSpec) : _root_.Go.OpenSpec := { _root_.Go.OpenSpec.ofChange s with cond := some uptoSmall }

/-- 'folkmootkeep.CausalOrder', WHERE WHAT IT READS IS OF BULK AT MOST 1048576: true; the input reads as it did. -/
def causalOrderUptoRow : OpenClaim := { program := "ytcjdphhofjibdaa", sum := "98cfb021ef197eddfcb6f7f01217644bf5eaf74677f24e6ea3a20b31961bf329", func := "folkmoot/folkmootkeep.CausalOrder", spec := "causalOrder", inPlace := ["slices.overlaps[int]"], unfollowed := true, recurses := true, apart := false, narrowed := true }
def CausalOrderUptoSaid : Prop := causalOrderUptoRow.holds Try.pinned (OpenSpec.upto causalOrderSpec)

/-- 'folkmootkeep.CausalAll', WHERE WHAT IT READS IS OF BULK AT MOST 1048576: true; the input reads as it did. -/
def causalAllUptoRow : OpenClaim := { program := "ytcjdphhofjibdaa", sum := "98cfb021ef197eddfcb6f7f01217644bf5eaf74677f24e6ea3a20b31961bf329", func := "folkmoot/folkmootkeep.CausalAll", spec := "causalAll", inPlace := ["slices.overlaps[int]"], unfollowed := true, recurses := true, apart := false, narrowed := true }
def CausalAllUptoSaid : Prop := causalAllUptoRow.holds Try.pinned (OpenSpec.upto causalAllSpec)

/-- 'folkmootkeep.CausalFront', WHERE WHAT IT READS IS OF BULK AT MOST 1048576: true; the input reads as it did. -/
def causalFrontUptoRow : OpenClaim := { program := "ytcjdphhofjibdaa", sum := "98cfb021ef197eddfcb6f7f01217644bf5eaf74677f24e6ea3a20b31961bf329", func := "folkmoot/folkmootkeep.CausalFront", spec := "causalFront", inPlace := ["slices.overlaps[int]"], unfollowed := true, recurses := true, apart := false, narrowed := true }
def CausalFrontUptoSaid : Prop := causalFrontUptoRow.holds Try.pinned (OpenSpec.upto causalFrontSpec)

/-- 'folkmootkeep.CausalOwn', WHERE WHAT IT READS IS OF BULK AT MOST 1048576: true; the input reads as it did. -/
def causalOwnUptoRow : OpenClaim := { program := "ytcjdphhofjibdaa", sum := "98cfb021ef197eddfcb6f7f01217644bf5eaf74677f24e6ea3a20b31961bf329", func := "folkmoot/folkmootkeep.CausalOwn", spec := "causalOwn", inPlace := ["slices.overlaps[int]"], unfollowed := true, recurses := true, apart := false, narrowed := true }
def CausalOwnUptoSaid : Prop := causalOwnUptoRow.holds Try.pinned (OpenSpec.upto causalOwnSpec)

end Rows
end Go.Proofs.Ytcjdphhofjibdaa
