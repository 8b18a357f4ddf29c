/-
  No cell of these rows narrows 'for every input' (looked for: loops, veiled, ifaces, maps, wideKeys, modest, calm, conditions, laid).
  DERIVED. THE GIVEN ROWS OF THIS SEAT. 4 by the template 'for every input the law returns true; each argument reads behind the call as it read before'; 0 by the template 'total and deterministic' (their statements: YtbakeeempbadcaaTotals.lean).
  GIVEN WITH THE SEED: the statements are not yours to turn. If you find one false, say at which input.
  Laid BY PROGRAM, IN A SANDBOX (cutbox-rows.mjs): the forced cells as the released guide's own fill.sh prints them over the translation dcb862f71f666a9e… (all of the seat's roots in one cut). By AI agents, Wed Nov 11 2026. No macro, syntax, notation, axiom, sorry.
-/
import Derived.Test.YtbakeeempbadcaaChecked
import GoSem.Claim
import GoSem.ClaimJoined
import GoSem.ClaimMapViews
import Derived.JoinedTies
import Derived.KernelRfl
namespace Go.Proofs.Ytbakeeempbadcaa
/- THE CELL 'sum', in the pinned program and in every row, IS THE sha256 OF THE DUMP (.gsa) THAT YtbakeeempbadcaaProg.lean LOADS. Nothing in Lean hashes anything: it is a label: what it is worth is what the hold of that sum in a sandbox is worth. -/
noncomputable def Try.pinned : Pinned := { name := "ytbakeeempbadcaa", sum := "dcb862f71f666a9e9cd1cc981e849e612c530a2153b8595bf2cad133d8b29273", checked := Try.checked }
namespace Rows
def none {H : Type} : Left H := { results := [], args := [] }

/-- 'folkmootkeep.PaxosOne': WHATEVER THE INPUT: true; the input reads as it did. -/
def paxosOneSpec : ChangeSpec := { name := "paxosOne", fn := fun _ => fun
  | [d1, d2] => { results := [.lit (.bool true)], args := [d1, d2] }
  | _ => none }
def paxosOneRow : OpenClaim := { program := "ytbakeeempbadcaa", sum := "dcb862f71f666a9e9cd1cc981e849e612c530a2153b8595bf2cad133d8b29273", func := "folkmoot/folkmootkeep.PaxosOne", spec := "paxosOne", apart := false }
def PaxosOneSaid : Prop := paxosOneRow.holds Try.pinned (OpenSpec.ofChange paxosOneSpec)

/-- ITS FALSE NEIGHBOUR: 'it returns false'. Refute it at one input. -/
def paxosOneWrong : ChangeSpec := { name := "paxosOne", fn := fun _ => fun
  | [d1, d2] => { results := [.lit (.bool false)], args := [d1, d2] }
  | _ => none }
def PaxosOneWrongFalsely : Prop := paxosOneRow.holds Try.pinned (OpenSpec.ofChange paxosOneWrong)

/-- 'folkmootkeep.PaxosGoes': WHATEVER THE INPUT: true; the input reads as it did. -/
def paxosGoesSpec : ChangeSpec := { name := "paxosGoes", fn := fun _ => fun
  | [d1, d2, d3] => { results := [.lit (.bool true)], args := [d1, d2, d3] }
  | _ => none }
def paxosGoesRow : OpenClaim := { program := "ytbakeeempbadcaa", sum := "dcb862f71f666a9e9cd1cc981e849e612c530a2153b8595bf2cad133d8b29273", func := "folkmoot/folkmootkeep.PaxosGoes", spec := "paxosGoes", apart := false }
def PaxosGoesSaid : Prop := paxosGoesRow.holds Try.pinned (OpenSpec.ofChange paxosGoesSpec)

/-- ITS FALSE NEIGHBOUR: 'it returns false'. Refute it at one input. -/
def paxosGoesWrong : ChangeSpec := { name := "paxosGoes", fn := fun _ => fun
  | [d1, d2, d3] => { results := [.lit (.bool false)], args := [d1, d2, d3] }
  | _ => none }
def PaxosGoesWrongFalsely : Prop := paxosGoesRow.holds Try.pinned (OpenSpec.ofChange paxosGoesWrong)

/-- 'folkmootkeep.PaxosFront': WHATEVER THE INPUT: true; the input reads as it did. -/
def paxosFrontSpec : ChangeSpec := { name := "paxosFront", fn := fun _ => fun
  | [d1, d2, d3] => { results := [.lit (.bool true)], args := [d1, d2, d3] }
  | _ => none }
def paxosFrontRow : OpenClaim := { program := "ytbakeeempbadcaa", sum := "dcb862f71f666a9e9cd1cc981e849e612c530a2153b8595bf2cad133d8b29273", func := "folkmoot/folkmootkeep.PaxosFront", spec := "paxosFront", apart := false }
def PaxosFrontSaid : Prop := paxosFrontRow.holds Try.pinned (OpenSpec.ofChange paxosFrontSpec)

/-- ITS FALSE NEIGHBOUR: 'it returns false'. Refute it at one input. -/
def paxosFrontWrong : ChangeSpec := { name := "paxosFront", fn := fun _ => fun
  | [d1, d2, d3] => { results := [.lit (.bool false)], args := [d1, d2, d3] }
  | _ => none }
def PaxosFrontWrongFalsely : Prop := paxosFrontRow.holds Try.pinned (OpenSpec.ofChange paxosFrontWrong)

/-- 'folkmootkeep.PaxosPromise': WHATEVER THE INPUT: true; the input reads as it did. -/
def paxosPromiseSpec : ChangeSpec := { name := "paxosPromise", fn := fun _ => fun
  | [d1, d2] => { results := [.lit (.bool true)], args := [d1, d2] }
  | _ => none }
def paxosPromiseRow : OpenClaim := { program := "ytbakeeempbadcaa", sum := "dcb862f71f666a9e9cd1cc981e849e612c530a2153b8595bf2cad133d8b29273", func := "folkmoot/folkmootkeep.PaxosPromise", spec := "paxosPromise", apart := false }
def PaxosPromiseSaid : Prop := paxosPromiseRow.holds Try.pinned (OpenSpec.ofChange paxosPromiseSpec)

/-- ITS FALSE NEIGHBOUR: 'it returns false'. Refute it at one input. -/
def paxosPromiseWrong : ChangeSpec := { name := "paxosPromise", fn := fun _ => fun
  | [d1, d2] => { results := [.lit (.bool false)], args := [d1, d2] }
  | _ => none }
def PaxosPromiseWrongFalsely : Prop := paxosPromiseRow.holds Try.pinned (OpenSpec.ofChange paxosPromiseWrong)

/- THE SECOND FORM. 'bulk': how many values and letters a reading holds, each counted each time it is reached (what is shared counts as often as it is met; a slice's spare places count too). A statement '..UptoSaid' is the law's where the arguments, and the package variables that the reading takes, are together of bulk at most 1048576: NARROWER than '..Said'. Prove '..Said' where nothing that the law and all that it calls make is longer than what came in: it says more and counts as full. Else prove '..UptoSaid'. A law counts once. -/
mutual
def uptoBulk {H : Type} : DataW H → Nat
  | .lit (.string bytes) => bytes.length + 1
  | .lit _ => 1
  | .nil => 1
  | .ptr d => uptoBulk d + 1
  | .slice elems spare => uptoBulkAll elems + uptoBulkAll spare + 1
  | .agg parts => uptoBulkAll parts + 1
  | .iface _ d => uptoBulk d + 1
  | .map entries => uptoBulkEntries entries + 1
  | .held _ => 1
def uptoBulkAll {H : Type} : List (DataW H) → Nat
  | [] => 0
  | d :: r => uptoBulk d + uptoBulkAll r
def uptoBulkEntries {H : Type} : List (Lit × DataW H) → Nat
  | [] => 0
  | x :: r => uptoBulkEntry x + uptoBulkEntries r
def uptoBulkEntry {H : Type} : Lit × DataW H → Nat
  | (.string bytes, d) => bytes.length + uptoBulk d + 1
  | (_, d) => uptoBulk d + 1
 end
def uptoSmall : (H : Type) → List (DataW H) → Bool := fun _ ds => decide (uptoBulkAll ds ≤ 1048576)
def OpenSpec.upto (s : _root_.Go.ChangeSpec) : _root_.Go.OpenSpec := { _root_.Go.OpenSpec.ofChange s with cond := some uptoSmall }

/-- 'folkmootkeep.PaxosOne', WHERE WHAT IT READS IS OF BULK AT MOST 1048576: true; the input reads as it did. -/
def paxosOneUptoRow : OpenClaim := { program := "ytbakeeempbadcaa", sum := "dcb862f71f666a9e9cd1cc981e849e612c530a2153b8595bf2cad133d8b29273", func := "folkmoot/folkmootkeep.PaxosOne", spec := "paxosOne", apart := false, narrowed := true }
def PaxosOneUptoSaid : Prop := paxosOneUptoRow.holds Try.pinned (OpenSpec.upto paxosOneSpec)

/-- 'folkmootkeep.PaxosGoes', WHERE WHAT IT READS IS OF BULK AT MOST 1048576: true; the input reads as it did. -/
def paxosGoesUptoRow : OpenClaim := { program := "ytbakeeempbadcaa", sum := "dcb862f71f666a9e9cd1cc981e849e612c530a2153b8595bf2cad133d8b29273", func := "folkmoot/folkmootkeep.PaxosGoes", spec := "paxosGoes", apart := false, narrowed := true }
def PaxosGoesUptoSaid : Prop := paxosGoesUptoRow.holds Try.pinned (OpenSpec.upto paxosGoesSpec)

/-- 'folkmootkeep.PaxosFront', WHERE WHAT IT READS IS OF BULK AT MOST 1048576: true; the input reads as it did. -/
def paxosFrontUptoRow : OpenClaim := { program := "ytbakeeempbadcaa", sum := "dcb862f71f666a9e9cd1cc981e849e612c530a2153b8595bf2cad133d8b29273", func := "folkmoot/folkmootkeep.PaxosFront", spec := "paxosFront", apart := false, narrowed := true }
def PaxosFrontUptoSaid : Prop := paxosFrontUptoRow.holds Try.pinned (OpenSpec.upto paxosFrontSpec)

/-- 'folkmootkeep.PaxosPromise', WHERE WHAT IT READS IS OF BULK AT MOST 1048576: true; the input reads as it did. -/
def paxosPromiseUptoRow : OpenClaim := { program := "ytbakeeempbadcaa", sum := "dcb862f71f666a9e9cd1cc981e849e612c530a2153b8595bf2cad133d8b29273", func := "folkmoot/folkmootkeep.PaxosPromise", spec := "paxosPromise", apart := false, narrowed := true }
def PaxosPromiseUptoSaid : Prop := paxosPromiseUptoRow.holds Try.pinned (OpenSpec.upto paxosPromiseSpec)

end Rows
end Go.Proofs.Ytbakeeempbadcaa
