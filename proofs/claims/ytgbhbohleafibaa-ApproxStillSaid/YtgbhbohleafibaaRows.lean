/-
  No cell of these rows narrows 'for every input' (looked for: loops, veiled, ifaces, maps, wideKeys, modest, calm, conditions, laid).
  DERIVED. THE GIVEN ROWS OF THIS SEAT. 4 by the template 'for every input the law returns true; each argument reads behind the call as it read before'; 0 by the template 'total and deterministic' (their statements: YtgbhbohleafibaaTotals.lean).
  GIVEN WITH THE SEED: the statements are not yours to turn. If you find one false, say at which input.
  Laid BY PROGRAM, IN A SANDBOX (cutbox-rows.mjs): the forced cells as the released guide's own fill.sh prints them over the translation d541c00741279188… (all of the seat's roots in one cut). By AI agents, Wed Nov 11 2026. No macro, syntax, notation, axiom, sorry.
-/
import Derived.Test.YtgbhbohleafibaaChecked
import GoSem.Claim
import GoSem.ClaimJoined
import GoSem.ClaimMapViews
import Derived.JoinedTies
import Derived.KernelRfl
namespace Go.Proofs.Ytgbhbohleafibaa
/- THE CELL 'sum', in the pinned program and in every row, IS THE sha256 OF THE DUMP (.gsa) THAT YtgbhbohleafibaaProg.lean LOADS. Nothing in Lean hashes anything: it is a label: what it is worth is what the hold of that sum in a sandbox is worth. -/
noncomputable def Try.pinned : Pinned := { name := "ytgbhbohleafibaa", sum := "d541c007412791888cbedd1e33565d3526276f930573584858e025be6ab9ebba", checked := Try.checked }
namespace Rows
def none {H : Type} : Left H := { results := [], args := [] }

/-- 'folkmootkeep.ApproxHalves': WHATEVER THE INPUT: true; the input reads as it did. -/
def approxHalvesSpec : ChangeSpec := { name := "approxHalves", fn := fun _ => fun
  | [d1, d2, d3, d4] => { results := [.lit (.bool true)], args := [d1, d2, d3, d4] }
  | _ => none }
def approxHalvesRow : OpenClaim := { program := "ytgbhbohleafibaa", sum := "d541c007412791888cbedd1e33565d3526276f930573584858e025be6ab9ebba", func := "folkmoot/folkmootkeep.ApproxHalves", spec := "approxHalves", unfollowed := true, recurses := true, apart := false }
def ApproxHalvesSaid : Prop := approxHalvesRow.holds Try.pinned (OpenSpec.ofChange approxHalvesSpec)

/-- ITS FALSE NEIGHBOUR: 'it returns false'. Refute it at one input. -/
def approxHalvesWrong : ChangeSpec := { name := "approxHalves", fn := fun _ => fun
  | [d1, d2, d3, d4] => { results := [.lit (.bool false)], args := [d1, d2, d3, d4] }
  | _ => none }
def ApproxHalvesWrongFalsely : Prop := approxHalvesRow.holds Try.pinned (OpenSpec.ofChange approxHalvesWrong)

/-- 'folkmootkeep.ApproxEnds': WHATEVER THE INPUT: true; the input reads as it did. -/
def approxEndsSpec : ChangeSpec := { name := "approxEnds", fn := fun _ => fun
  | [d1, d2, d3, d4] => { results := [.lit (.bool true)], args := [d1, d2, d3, d4] }
  | _ => none }
def approxEndsRow : OpenClaim := { program := "ytgbhbohleafibaa", sum := "d541c007412791888cbedd1e33565d3526276f930573584858e025be6ab9ebba", func := "folkmoot/folkmootkeep.ApproxEnds", spec := "approxEnds", unfollowed := true, recurses := true, apart := false }
def ApproxEndsSaid : Prop := approxEndsRow.holds Try.pinned (OpenSpec.ofChange approxEndsSpec)

/-- ITS FALSE NEIGHBOUR: 'it returns false'. Refute it at one input. -/
def approxEndsWrong : ChangeSpec := { name := "approxEnds", fn := fun _ => fun
  | [d1, d2, d3, d4] => { results := [.lit (.bool false)], args := [d1, d2, d3, d4] }
  | _ => none }
def ApproxEndsWrongFalsely : Prop := approxEndsRow.holds Try.pinned (OpenSpec.ofChange approxEndsWrong)

/-- 'folkmootkeep.ApproxOrder': WHATEVER THE INPUT: true; the input reads as it did. -/
def approxOrderSpec : ChangeSpec := { name := "approxOrder", fn := fun _ => fun
  | [d1, d2, d3, d4, d5] => { results := [.lit (.bool true)], args := [d1, d2, d3, d4, d5] }
  | _ => none }
def approxOrderRow : OpenClaim := { program := "ytgbhbohleafibaa", sum := "d541c007412791888cbedd1e33565d3526276f930573584858e025be6ab9ebba", func := "folkmoot/folkmootkeep.ApproxOrder", spec := "approxOrder", unfollowed := true, recurses := true, apart := false }
def ApproxOrderSaid : Prop := approxOrderRow.holds Try.pinned (OpenSpec.ofChange approxOrderSpec)

/-- ITS FALSE NEIGHBOUR: 'it returns false'. Refute it at one input. -/
def approxOrderWrong : ChangeSpec := { name := "approxOrder", fn := fun _ => fun
  | [d1, d2, d3, d4, d5] => { results := [.lit (.bool false)], args := [d1, d2, d3, d4, d5] }
  | _ => none }
def ApproxOrderWrongFalsely : Prop := approxOrderRow.holds Try.pinned (OpenSpec.ofChange approxOrderWrong)

/-- 'folkmootkeep.ApproxStill': WHATEVER THE INPUT: true; the input reads as it did. -/
def approxStillSpec : ChangeSpec := { name := "approxStill", fn := fun _ => fun
  | [d1, d2, d3, d4, d5] => { results := [.lit (.bool true)], args := [d1, d2, d3, d4, d5] }
  | _ => none }
def approxStillRow : OpenClaim := { program := "ytgbhbohleafibaa", sum := "d541c007412791888cbedd1e33565d3526276f930573584858e025be6ab9ebba", func := "folkmoot/folkmootkeep.ApproxStill", spec := "approxStill", unfollowed := true, recurses := true, apart := false }
def ApproxStillSaid : Prop := approxStillRow.holds Try.pinned (OpenSpec.ofChange approxStillSpec)

/-- ITS FALSE NEIGHBOUR: 'it returns false'. Refute it at one input. -/
def approxStillWrong : ChangeSpec := { name := "approxStill", fn := fun _ => fun
  | [d1, d2, d3, d4, d5] => { results := [.lit (.bool false)], args := [d1, d2, d3, d4, d5] }
  | _ => none }
def ApproxStillWrongFalsely : Prop := approxStillRow.holds Try.pinned (OpenSpec.ofChange approxStillWrong)

/- THE SECOND FORM. 'bulk': how many values and letters a reading holds, each counted each time it is reached (what is shared counts as often as it is met; a slice's spare places count too). A statement '..UptoSaid' is the law's where the arguments, and the package variables that the reading takes, are together of bulk at most 1048576: NARROWER than '..Said'. Prove '..Said' where nothing that the law and all that it calls make is longer than what came in: it says more and counts as full. Else prove '..UptoSaid'. A law counts once. -/
mutual
def uptoBulk {H : Type} : DataW H → Nat
  | .lit (.string bytes) => bytes.length + 1
  | .lit _ => 1
  | .nil => 1
  | .ptr d => uptoBulk d + 1
  | .slice elems spare => uptoBulkAll elems + uptoBulkAll spare + 1
  | .agg parts => uptoBulkAll parts + 1
  | .iface _ d => uptoBulk d + 1
  | .map entries => uptoBulkEntries entries + 1
  | .held _ => 1
def uptoBulkAll {H : Type} : List (DataW H) → Nat
  | [] => 0
  | d :: r => uptoBulk d + uptoBulkAll r
def uptoBulkEntries {H : Type} : List (Lit × DataW H) → Nat
  | [] => 0
  | x :: r => uptoBulkEntry x + uptoBulkEntries r
def uptoBulkEntry {H : Type} : Lit × DataW H → Nat
  | (.string bytes, d) => bytes.length + uptoBulk d + 1
  | (_, d) => uptoBulk d + 1
 end
def uptoSmall : (H : Type) → List (DataW H) → Bool := fun _ ds => decide (uptoBulkAll ds ≤ 1048576)
def OpenSpec.upto (s : _root_.Go.ChangeSpec) : _root_.Go.OpenSpec := { _root_.Go.OpenSpec.ofChange s with cond := some uptoSmall }

/-- 'folkmootkeep.ApproxHalves', WHERE WHAT IT READS IS OF BULK AT MOST 1048576: true; the input reads as it did. -/
def approxHalvesUptoRow : OpenClaim := { program := "ytgbhbohleafibaa", sum := "d541c007412791888cbedd1e33565d3526276f930573584858e025be6ab9ebba", func := "folkmoot/folkmootkeep.ApproxHalves", spec := "approxHalves", unfollowed := true, recurses := true, apart := false, narrowed := true }
def ApproxHalvesUptoSaid : Prop := approxHalvesUptoRow.holds Try.pinned (OpenSpec.upto approxHalvesSpec)

/-- 'folkmootkeep.ApproxEnds', WHERE WHAT IT READS IS OF BULK AT MOST 1048576: true; the input reads as it did. -/
def approxEndsUptoRow : OpenClaim := { program := "ytgbhbohleafibaa", sum := "d541c007412791888cbedd1e33565d3526276f930573584858e025be6ab9ebba", func := "folkmoot/folkmootkeep.ApproxEnds", spec := "approxEnds", unfollowed := true, recurses := true, apart := false, narrowed := true }
def ApproxEndsUptoSaid : Prop := approxEndsUptoRow.holds Try.pinned (OpenSpec.upto approxEndsSpec)

/-- 'folkmootkeep.ApproxOrder', WHERE WHAT IT READS IS OF BULK AT MOST 1048576: true; the input reads as it did. -/
def approxOrderUptoRow : OpenClaim := { program := "ytgbhbohleafibaa", sum := "d541c007412791888cbedd1e33565d3526276f930573584858e025be6ab9ebba", func := "folkmoot/folkmootkeep.ApproxOrder", spec := "approxOrder", unfollowed := true, recurses := true, apart := false, narrowed := true }
def ApproxOrderUptoSaid : Prop := approxOrderUptoRow.holds Try.pinned (OpenSpec.upto approxOrderSpec)

/-- 'folkmootkeep.ApproxStill', WHERE WHAT IT READS IS OF BULK AT MOST 1048576: true; the input reads as it did. -/
def approxStillUptoRow : OpenClaim := { program := "ytgbhbohleafibaa", sum := "d541c007412791888cbedd1e33565d3526276f930573584858e025be6ab9ebba", func := "folkmoot/folkmootkeep.ApproxStill", spec := "approxStill", unfollowed := true, recurses := true, apart := false, narrowed := true }
def ApproxStillUptoSaid : Prop := approxStillUptoRow.holds Try.pinned (OpenSpec.upto approxStillSpec)

end Rows
end Go.Proofs.Ytgbhbohleafibaa
