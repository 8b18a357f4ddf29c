/-
  No cell of these rows narrows 'for every input' (looked for: loops, veiled, ifaces, maps, wideKeys, modest, calm, conditions, laid).
  DERIVED. THE GIVEN ROWS OF THIS SEAT. 4 by the template 'for every input the law returns true; each argument reads behind the call as it read before'; 0 by the template 'total and deterministic' (their statements: YthpbdckiiljegaaTotals.lean).
  GIVEN WITH THE SEED: the statements are not yours to turn. If you find one false, say at which input.
  Laid BY PROGRAM, IN A SANDBOX (cutbox-rows.mjs): the forced cells as the released guide's own fill.sh prints them over the translation 9ac7197a14b8b6e4… (all of the seat's roots in one cut). By AI agents, Wed Nov 11 2026. No macro, syntax, notation, axiom, sorry.
-/
import Derived.Test.YthpbdckiiljegaaChecked
import GoSem.Claim
import GoSem.ClaimJoined
import GoSem.ClaimMapViews
import Derived.JoinedTies
import Derived.KernelRfl
namespace Go.Proofs.Ythpbdckiiljegaa
/- THE CELL 'sum', in the pinned program and in every row, IS THE sha256 OF THE DUMP (.gsa) THAT YthpbdckiiljegaaProg.lean LOADS. Nothing in Lean hashes anything: it is a label: what it is worth is what the hold of that sum in a sandbox is worth. -/
noncomputable def Try.pinned : Pinned := { name := "ythpbdckiiljegaa", sum := "9ac7197a14b8b6e4ca826494fc24c25ca795f83c504d338d25d5abeefed7ecae", checked := Try.checked }
namespace Rows
def none {H : Type} : Left H := { results := [], args := [] }

/-- 'folkmootkeep.BakeryOne': WHATEVER THE INPUT: true; the input reads as it did. -/
def bakeryOneSpec : ChangeSpec := { name := "bakeryOne", fn := fun _ => fun
  | [d1, d2] => { results := [.lit (.bool true)], args := [d1, d2] }
  | _ => none }
def bakeryOneRow : OpenClaim := { program := "ythpbdckiiljegaa", sum := "9ac7197a14b8b6e4ca826494fc24c25ca795f83c504d338d25d5abeefed7ecae", func := "folkmoot/folkmootkeep.BakeryOne", spec := "bakeryOne", unfollowed := true, recurses := true, apart := false }
def BakeryOneSaid : Prop := bakeryOneRow.holds Try.pinned (OpenSpec.ofChange bakeryOneSpec)

/-- ITS FALSE NEIGHBOUR: 'it returns false'. Refute it at one input. -/
def bakeryOneWrong : ChangeSpec := { name := "bakeryOne", fn := fun _ => fun
  | [d1, d2] => { results := [.lit (.bool false)], args := [d1, d2] }
  | _ => none }
def BakeryOneWrongFalsely : Prop := bakeryOneRow.holds Try.pinned (OpenSpec.ofChange bakeryOneWrong)

/-- 'folkmootkeep.BakeryFirst': WHATEVER THE INPUT: true; the input reads as it did. -/
def bakeryFirstSpec : ChangeSpec := { name := "bakeryFirst", fn := fun _ => fun
  | [d1, d2, d3, d4, d5] => { results := [.lit (.bool true)], args := [d1, d2, d3, d4, d5] }
  | _ => none }
def bakeryFirstRow : OpenClaim := { program := "ythpbdckiiljegaa", sum := "9ac7197a14b8b6e4ca826494fc24c25ca795f83c504d338d25d5abeefed7ecae", func := "folkmoot/folkmootkeep.BakeryFirst", spec := "bakeryFirst", unfollowed := true, recurses := true, apart := false }
def BakeryFirstSaid : Prop := bakeryFirstRow.holds Try.pinned (OpenSpec.ofChange bakeryFirstSpec)

/-- ITS FALSE NEIGHBOUR: 'it returns false'. Refute it at one input. -/
def bakeryFirstWrong : ChangeSpec := { name := "bakeryFirst", fn := fun _ => fun
  | [d1, d2, d3, d4, d5] => { results := [.lit (.bool false)], args := [d1, d2, d3, d4, d5] }
  | _ => none }
def BakeryFirstWrongFalsely : Prop := bakeryFirstRow.holds Try.pinned (OpenSpec.ofChange bakeryFirstWrong)

/-- 'folkmootkeep.BakeryAlone': WHATEVER THE INPUT: true; the input reads as it did. -/
def bakeryAloneSpec : ChangeSpec := { name := "bakeryAlone", fn := fun _ => fun
  | [d1, d2, d3] => { results := [.lit (.bool true)], args := [d1, d2, d3] }
  | _ => none }
def bakeryAloneRow : OpenClaim := { program := "ythpbdckiiljegaa", sum := "9ac7197a14b8b6e4ca826494fc24c25ca795f83c504d338d25d5abeefed7ecae", func := "folkmoot/folkmootkeep.BakeryAlone", spec := "bakeryAlone", unfollowed := true, recurses := true, apart := false }
def BakeryAloneSaid : Prop := bakeryAloneRow.holds Try.pinned (OpenSpec.ofChange bakeryAloneSpec)

/-- ITS FALSE NEIGHBOUR: 'it returns false'. Refute it at one input. -/
def bakeryAloneWrong : ChangeSpec := { name := "bakeryAlone", fn := fun _ => fun
  | [d1, d2, d3] => { results := [.lit (.bool false)], args := [d1, d2, d3] }
  | _ => none }
def BakeryAloneWrongFalsely : Prop := bakeryAloneRow.holds Try.pinned (OpenSpec.ofChange bakeryAloneWrong)

/-- 'folkmootkeep.BakeryFront': WHATEVER THE INPUT: true; the input reads as it did. -/
def bakeryFrontSpec : ChangeSpec := { name := "bakeryFront", fn := fun _ => fun
  | [d1, d2, d3] => { results := [.lit (.bool true)], args := [d1, d2, d3] }
  | _ => none }
def bakeryFrontRow : OpenClaim := { program := "ythpbdckiiljegaa", sum := "9ac7197a14b8b6e4ca826494fc24c25ca795f83c504d338d25d5abeefed7ecae", func := "folkmoot/folkmootkeep.BakeryFront", spec := "bakeryFront", unfollowed := true, recurses := true, apart := false }
def BakeryFrontSaid : Prop := bakeryFrontRow.holds Try.pinned (OpenSpec.ofChange bakeryFrontSpec)

/-- ITS FALSE NEIGHBOUR: 'it returns false'. Refute it at one input. -/
def bakeryFrontWrong : ChangeSpec := { name := "bakeryFront", fn := fun _ => fun
  | [d1, d2, d3] => { results := [.lit (.bool false)], args := [d1, d2, d3] }
  | _ => none }
def BakeryFrontWrongFalsely : Prop := bakeryFrontRow.holds Try.pinned (OpenSpec.ofChange bakeryFrontWrong)

/- THE SECOND FORM. 'bulk': how many values and letters a reading holds, each counted each time it is reached (what is shared counts as often as it is met; a slice's spare places count too). A statement '..UptoSaid' is the law's where the arguments, and the package variables that the reading takes, are together of bulk at most 1048576: NARROWER than '..Said'. Prove '..Said' where nothing that the law and all that it calls make is longer than what came in: it says more and counts as full. Else prove '..UptoSaid'. A law counts once. -/
mutual
def uptoBulk {H : Type} : DataW H → Nat
  | .lit (.string bytes) => bytes.length + 1
  | .lit _ => 1
  | .nil => 1
  | .ptr d => uptoBulk d + 1
  | .slice elems spare => uptoBulkAll elems + uptoBulkAll spare + 1
  | .agg parts => uptoBulkAll parts + 1
  | .iface _ d => uptoBulk d + 1
  | .map entries => uptoBulkEntries entries + 1
  | .held _ => 1
def uptoBulkAll {H : Type} : List (DataW H) → Nat
  | [] => 0
  | d :: r => uptoBulk d + uptoBulkAll r
def uptoBulkEntries {H : Type} : List (Lit × DataW H) → Nat
  | [] => 0
  | x :: r => uptoBulkEntry x + uptoBulkEntries r
def uptoBulkEntry {H : Type} : Lit × DataW H → Nat
  | (.string bytes, d) => bytes.length + uptoBulk d + 1
  | (_, d) => uptoBulk d + 1
 end
def uptoSmall : (H : Type) → List (DataW H) → Bool := fun _ ds => decide (uptoBulkAll ds ≤ 1048576)
def OpenSpec.upto (s : _root_.Go.ChangeSpec) : _root_.Go.OpenSpec := { _root_.Go.OpenSpec.ofChange s with cond := some uptoSmall }

/-- 'folkmootkeep.BakeryOne', WHERE WHAT IT READS IS OF BULK AT MOST 1048576: true; the input reads as it did. -/
def bakeryOneUptoRow : OpenClaim := { program := "ythpbdckiiljegaa", sum := "9ac7197a14b8b6e4ca826494fc24c25ca795f83c504d338d25d5abeefed7ecae", func := "folkmoot/folkmootkeep.BakeryOne", spec := "bakeryOne", unfollowed := true, recurses := true, apart := false, narrowed := true }
def BakeryOneUptoSaid : Prop := bakeryOneUptoRow.holds Try.pinned (OpenSpec.upto bakeryOneSpec)

/-- 'folkmootkeep.BakeryFirst', WHERE WHAT IT READS IS OF BULK AT MOST 1048576: true; the input reads as it did. -/
def bakeryFirstUptoRow : OpenClaim := { program := "ythpbdckiiljegaa", sum := "9ac7197a14b8b6e4ca826494fc24c25ca795f83c504d338d25d5abeefed7ecae", func := "folkmoot/folkmootkeep.BakeryFirst", spec := "bakeryFirst", unfollowed := true, recurses := true, apart := false, narrowed := true }
def BakeryFirstUptoSaid : Prop := bakeryFirstUptoRow.holds Try.pinned (OpenSpec.upto bakeryFirstSpec)

/-- 'folkmootkeep.BakeryAlone', WHERE WHAT IT READS IS OF BULK AT MOST 1048576: true; the input reads as it did. -/
def bakeryAloneUptoRow : OpenClaim := { program := "ythpbdckiiljegaa", sum := "9ac7197a14b8b6e4ca826494fc24c25ca795f83c504d338d25d5abeefed7ecae", func := "folkmoot/folkmootkeep.BakeryAlone", spec := "bakeryAlone", unfollowed := true, recurses := true, apart := false, narrowed := true }
def BakeryAloneUptoSaid : Prop := bakeryAloneUptoRow.holds Try.pinned (OpenSpec.upto bakeryAloneSpec)

/-- 'folkmootkeep.BakeryFront', WHERE WHAT IT READS IS OF BULK AT MOST 1048576: true; the input reads as it did. -/
def bakeryFrontUptoRow : OpenClaim := { program := "ythpbdckiiljegaa", sum := "9ac7197a14b8b6e4ca826494fc24c25ca795f83c504d338d25d5abeefed7ecae", func := "folkmoot/folkmootkeep.BakeryFront", spec := "bakeryFront", unfollowed := true, recurses := true, apart := false, narrowed := true }
def BakeryFrontUptoSaid : Prop := bakeryFrontUptoRow.holds Try.pinned (OpenSpec.upto bakeryFrontSpec)

end Rows
end Go.Proofs.Ythpbdckiiljegaa
