/-
  No cell of these rows narrows 'for every input' (looked for: loops, veiled, ifaces, maps, wideKeys, modest, calm, conditions, laid).
  DERIVED. THE GIVEN ROWS OF THIS SEAT. 4 by the template 'for every input the law returns true; each argument reads behind the call as it read before'; 0 by the template 'total and deterministic' (their statements: YteejbaindbiimaaTotals.lean).
  GIVEN WITH THE SEED: the statements are not yours to turn. If you find one false, say at which input.
  Laid BY PROGRAM, IN A SANDBOX (cutbox-rows.mjs): the forced cells as the released guide's own fill.sh prints them over the translation fdbd65a3528f061e… (all of the seat's roots in one cut). By AI agents, Wed Nov 11 2026. No macro, syntax, notation, axiom, sorry.
-/
import Derived.Test.YteejbaindbiimaaChecked
import GoSem.Claim
import GoSem.ClaimJoined
import GoSem.ClaimMapViews
import Derived.JoinedTies
import Derived.KernelRfl
namespace Go.Proofs.Yteejbaindbiimaa
/- THE CELL 'sum', in the pinned program and in every row, IS THE sha256 OF THE DUMP (.gsa) THAT YteejbaindbiimaaProg.lean LOADS. Nothing in Lean hashes anything: it is a label: what it is worth is what the hold of that sum in a sandbox is worth. -/
noncomputable def Try.pinned : Pinned := { name := "yteejbaindbiimaa", sum := "fdbd65a3528f061ec1888741762770e7afb039232723933236b58df568a63d52", checked := Try.checked }
namespace Rows
def none {H : Type} : Left H := { results := [], args := [] }

/-- 'folkmootkeep.RingGreatest': WHATEVER THE INPUT: true; the input reads as it did. -/
def ringGreatestSpec : ChangeSpec := { name := "ringGreatest", fn := fun _ => fun
  | [d1, d2] => { results := [.lit (.bool true)], args := [d1, d2] }
  | _ => none }
def ringGreatestRow : OpenClaim := { program := "yteejbaindbiimaa", sum := "fdbd65a3528f061ec1888741762770e7afb039232723933236b58df568a63d52", func := "folkmoot/folkmootkeep.RingGreatest", spec := "ringGreatest", recurses := true, apart := false }
def RingGreatestSaid : Prop := ringGreatestRow.holds Try.pinned (OpenSpec.ofChange ringGreatestSpec)

/-- ITS FALSE NEIGHBOUR: 'it returns false'. Refute it at one input. -/
def ringGreatestWrong : ChangeSpec := { name := "ringGreatest", fn := fun _ => fun
  | [d1, d2] => { results := [.lit (.bool false)], args := [d1, d2] }
  | _ => none }
def RingGreatestWrongFalsely : Prop := ringGreatestRow.holds Try.pinned (OpenSpec.ofChange ringGreatestWrong)

/-- 'folkmootkeep.RingFew': WHATEVER THE INPUT: true; the input reads as it did. -/
def ringFewSpec : ChangeSpec := { name := "ringFew", fn := fun _ => fun
  | [d1, d2] => { results := [.lit (.bool true)], args := [d1, d2] }
  | _ => none }
def ringFewRow : OpenClaim := { program := "yteejbaindbiimaa", sum := "fdbd65a3528f061ec1888741762770e7afb039232723933236b58df568a63d52", func := "folkmoot/folkmootkeep.RingFew", spec := "ringFew", recurses := true, apart := false }
def RingFewSaid : Prop := ringFewRow.holds Try.pinned (OpenSpec.ofChange ringFewSpec)

/-- ITS FALSE NEIGHBOUR: 'it returns false'. Refute it at one input. -/
def ringFewWrong : ChangeSpec := { name := "ringFew", fn := fun _ => fun
  | [d1, d2] => { results := [.lit (.bool false)], args := [d1, d2] }
  | _ => none }
def RingFewWrongFalsely : Prop := ringFewRow.holds Try.pinned (OpenSpec.ofChange ringFewWrong)

/-- 'folkmootkeep.RingEnds': WHATEVER THE INPUT: true; the input reads as it did. -/
def ringEndsSpec : ChangeSpec := { name := "ringEnds", fn := fun _ => fun
  | [d1, d2] => { results := [.lit (.bool true)], args := [d1, d2] }
  | _ => none }
def ringEndsRow : OpenClaim := { program := "yteejbaindbiimaa", sum := "fdbd65a3528f061ec1888741762770e7afb039232723933236b58df568a63d52", func := "folkmoot/folkmootkeep.RingEnds", spec := "ringEnds", recurses := true, apart := false }
def RingEndsSaid : Prop := ringEndsRow.holds Try.pinned (OpenSpec.ofChange ringEndsSpec)

/-- ITS FALSE NEIGHBOUR: 'it returns false'. Refute it at one input. -/
def ringEndsWrong : ChangeSpec := { name := "ringEnds", fn := fun _ => fun
  | [d1, d2] => { results := [.lit (.bool false)], args := [d1, d2] }
  | _ => none }
def RingEndsWrongFalsely : Prop := ringEndsRow.holds Try.pinned (OpenSpec.ofChange ringEndsWrong)

/-- 'folkmootkeep.RingFront': WHATEVER THE INPUT: true; the input reads as it did. -/
def ringFrontSpec : ChangeSpec := { name := "ringFront", fn := fun _ => fun
  | [d1, d2, d3] => { results := [.lit (.bool true)], args := [d1, d2, d3] }
  | _ => none }
def ringFrontRow : OpenClaim := { program := "yteejbaindbiimaa", sum := "fdbd65a3528f061ec1888741762770e7afb039232723933236b58df568a63d52", func := "folkmoot/folkmootkeep.RingFront", spec := "ringFront", recurses := true, apart := false }
def RingFrontSaid : Prop := ringFrontRow.holds Try.pinned (OpenSpec.ofChange ringFrontSpec)

/-- ITS FALSE NEIGHBOUR: 'it returns false'. Refute it at one input. -/
def ringFrontWrong : ChangeSpec := { name := "ringFront", fn := fun _ => fun
  | [d1, d2, d3] => { results := [.lit (.bool false)], args := [d1, d2, d3] }
  | _ => none }
def RingFrontWrongFalsely : Prop := ringFrontRow.holds Try.pinned (OpenSpec.ofChange ringFrontWrong)

/- THE SECOND FORM. 'bulk': how many values and letters a reading holds, each counted each time it is reached (what is shared counts as often as it is met; a slice's spare places count too). A statement '..UptoSaid' is the law's where the arguments, and the package variables that the reading takes, are together of bulk at most 1048576: NARROWER than '..Said'. Prove '..Said' where nothing that the law and all that it calls make is longer than what came in: it says more and counts as full. Else prove '..UptoSaid'. A law counts once. -/
mutual
def uptoBulk {H : Type} : DataW H → Nat
  | .lit (.string bytes) => bytes.length + 1
  | .lit _ => 1
  | .nil => 1
  | .ptr d => uptoBulk d + 1
  | .slice elems spare => uptoBulkAll elems + uptoBulkAll spare + 1
  | .agg parts => uptoBulkAll parts + 1
  | .iface _ d => uptoBulk d + 1
  | .map entries => uptoBulkEntries entries + 1
  | .held _ => 1
def uptoBulkAll {H : Type} : List (DataW H) → Nat
  | [] => 0
  | d :: r => uptoBulk d + uptoBulkAll r
def uptoBulkEntries {H : Type} : List (Lit × DataW H) → Nat
  | [] => 0
  | x :: r => uptoBulkEntry x + uptoBulkEntries r
def uptoBulkEntry {H : Type} : Lit × DataW H → Nat
  | (.string bytes, d) => bytes.length + uptoBulk d + 1
  | (_, d) => uptoBulk d + 1
 end
def uptoSmall : (H : Type) → List (DataW H) → Bool := fun _ ds => decide (uptoBulkAll ds ≤ 1048576)
def OpenSpec.upto (s : _root_.Go.ChangeSpec) : _root_.Go.OpenSpec := { _root_.Go.OpenSpec.ofChange s with cond := some uptoSmall }

/-- 'folkmootkeep.RingGreatest', WHERE WHAT IT READS IS OF BULK AT MOST 1048576: true; the input reads as it did. -/
def ringGreatestUptoRow : OpenClaim := { program := "yteejbaindbiimaa", sum := "fdbd65a3528f061ec1888741762770e7afb039232723933236b58df568a63d52", func := "folkmoot/folkmootkeep.RingGreatest", spec := "ringGreatest", recurses := true, apart := false, narrowed := true }
def RingGreatestUptoSaid : Prop := ringGreatestUptoRow.holds Try.pinned (OpenSpec.upto ringGreatestSpec)

/-- 'folkmootkeep.RingFew', WHERE WHAT IT READS IS OF BULK AT MOST 1048576: true; the input reads as it did. -/
def ringFewUptoRow : OpenClaim := { program := "yteejbaindbiimaa", sum := "fdbd65a3528f061ec1888741762770e7afb039232723933236b58df568a63d52", func := "folkmoot/folkmootkeep.RingFew", spec := "ringFew", recurses := true, apart := false, narrowed := true }
def RingFewUptoSaid : Prop := ringFewUptoRow.holds Try.pinned (OpenSpec.upto ringFewSpec)

/-- 'folkmootkeep.RingEnds', WHERE WHAT IT READS IS OF BULK AT MOST 1048576: true; the input reads as it did. -/
def ringEndsUptoRow : OpenClaim := { program := "yteejbaindbiimaa", sum := "fdbd65a3528f061ec1888741762770e7afb039232723933236b58df568a63d52", func := "folkmoot/folkmootkeep.RingEnds", spec := "ringEnds", recurses := true, apart := false, narrowed := true }
def RingEndsUptoSaid : Prop := ringEndsUptoRow.holds Try.pinned (OpenSpec.upto ringEndsSpec)

/-- 'folkmootkeep.RingFront', WHERE WHAT IT READS IS OF BULK AT MOST 1048576: true; the input reads as it did. -/
def ringFrontUptoRow : OpenClaim := { program := "yteejbaindbiimaa", sum := "fdbd65a3528f061ec1888741762770e7afb039232723933236b58df568a63d52", func := "folkmoot/folkmootkeep.RingFront", spec := "ringFront", recurses := true, apart := false, narrowed := true }
def RingFrontUptoSaid : Prop := ringFrontUptoRow.holds Try.pinned (OpenSpec.upto ringFrontSpec)

end Rows
end Go.Proofs.Yteejbaindbiimaa
