/-
  No cell of these rows narrows 'for every input' (looked for: loops, veiled, ifaces, maps, wideKeys, modest, calm, conditions, laid).
  DERIVED. THE GIVEN ROWS OF THIS SEAT. 3 by the template 'for every input the law returns true; each argument reads behind the call as it read before'; 0 by the template 'total and deterministic' (their statements: YtmkhjlmhobihmaaTotals.lean).
  GIVEN WITH THE SEED: the statements are not yours to turn. If you find one false, say at which input.
  Laid BY PROGRAM, IN A SANDBOX (cutbox-rows.mjs): the forced cells as the released guide's own fill.sh prints them over the translation ecf4bf2f0a71665c… (all of the seat's roots in one cut). By AI agents, Wed Nov 11 2026. No macro, syntax, notation, axiom, sorry.
-/
import Derived.Test.YtmkhjlmhobihmaaChecked
import GoSem.Claim
import GoSem.ClaimJoined
import GoSem.ClaimMapViews
import Derived.JoinedTies
import Derived.KernelRfl
namespace Go.Proofs.Ytmkhjlmhobihmaa
/- THE CELL 'sum', in the pinned program and in every row, IS THE sha256 OF THE DUMP (.gsa) THAT YtmkhjlmhobihmaaProg.lean LOADS. Nothing in Lean hashes anything: it is a label: what it is worth is what the hold of that sum in a sandbox is worth. -/
noncomputable def Try.pinned : Pinned := { name := "ytmkhjlmhobihmaa", sum := "ecf4bf2f0a71665ce100e3071c42f6c035ec96fe865861d977c03c1f4565b54e", checked := Try.checked }
namespace Rows
def none {H : Type} : Left H := { results := [], args := [] }

/-- 'folkmootkeep.FloodAgrees': WHATEVER THE INPUT: true; the input reads as it did. -/
def floodAgreesSpec : ChangeSpec := { name := "floodAgrees", fn := fun _ => fun
  | [d1, d2, d3] => { results := [.lit (.bool true)], args := [d1, d2, d3] }
  | _ => none }
def floodAgreesRow : OpenClaim := { program := "ytmkhjlmhobihmaa", sum := "ecf4bf2f0a71665ce100e3071c42f6c035ec96fe865861d977c03c1f4565b54e", func := "folkmoot/folkmootkeep.FloodAgrees", spec := "floodAgrees", inPlace := ["maps.clone"], unfollowed := true, recurses := true, apart := false }
def FloodAgreesSaid : Prop := floodAgreesRow.holds Try.pinned (OpenSpec.ofChange floodAgreesSpec)

/-- ITS FALSE NEIGHBOUR: 'it returns false'. Refute it at one input. -/
def floodAgreesWrong : ChangeSpec := { name := "floodAgrees", fn := fun _ => fun
  | [d1, d2, d3] => { results := [.lit (.bool false)], args := [d1, d2, d3] }
  | _ => none }
def FloodAgreesWrongFalsely : Prop := floodAgreesRow.holds Try.pinned (OpenSpec.ofChange floodAgreesWrong)

/-- 'folkmootkeep.FloodMore': WHATEVER THE INPUT: true; the input reads as it did. -/
def floodMoreSpec : ChangeSpec := { name := "floodMore", fn := fun _ => fun
  | [d1, d2, d3] => { results := [.lit (.bool true)], args := [d1, d2, d3] }
  | _ => none }
def floodMoreRow : OpenClaim := { program := "ytmkhjlmhobihmaa", sum := "ecf4bf2f0a71665ce100e3071c42f6c035ec96fe865861d977c03c1f4565b54e", func := "folkmoot/folkmootkeep.FloodMore", spec := "floodMore", inPlace := ["maps.clone"], unfollowed := true, recurses := true, apart := false }
def FloodMoreSaid : Prop := floodMoreRow.holds Try.pinned (OpenSpec.ofChange floodMoreSpec)

/-- ITS FALSE NEIGHBOUR: 'it returns false'. Refute it at one input. -/
def floodMoreWrong : ChangeSpec := { name := "floodMore", fn := fun _ => fun
  | [d1, d2, d3] => { results := [.lit (.bool false)], args := [d1, d2, d3] }
  | _ => none }
def FloodMoreWrongFalsely : Prop := floodMoreRow.holds Try.pinned (OpenSpec.ofChange floodMoreWrong)

/-- 'folkmootkeep.FloodNone': WHATEVER THE INPUT: true; the input reads as it did. -/
def floodNoneSpec : ChangeSpec := { name := "floodNone", fn := fun _ => fun
  | [d1, d2, d3] => { results := [.lit (.bool true)], args := [d1, d2, d3] }
  | _ => none }
def floodNoneRow : OpenClaim := { program := "ytmkhjlmhobihmaa", sum := "ecf4bf2f0a71665ce100e3071c42f6c035ec96fe865861d977c03c1f4565b54e", func := "folkmoot/folkmootkeep.FloodNone", spec := "floodNone", inPlace := ["maps.clone"], unfollowed := true, recurses := true, apart := false }
def FloodNoneSaid : Prop := floodNoneRow.holds Try.pinned (OpenSpec.ofChange floodNoneSpec)

/-- ITS FALSE NEIGHBOUR: 'it returns false'. Refute it at one input. -/
def floodNoneWrong : ChangeSpec := { name := "floodNone", fn := fun _ => fun
  | [d1, d2, d3] => { results := [.lit (.bool false)], args := [d1, d2, d3] }
  | _ => none }
def FloodNoneWrongFalsely : Prop := floodNoneRow.holds Try.pinned (OpenSpec.ofChange floodNoneWrong)

/- THE SECOND FORM. 'bulk': how many values and letters a reading holds, each counted each time it is reached (what is shared counts as often as it is met; a slice's spare places count too). A statement '..UptoSaid' is the law's where the arguments, and the package variables that the reading takes, are together of bulk at most 1048576: NARROWER than '..Said'. Prove '..Said' where nothing that the law and all that it calls make is longer than what came in: it says more and counts as full. Else prove '..UptoSaid'. A law counts once. -/
mutual
def uptoBulk {H : Type} : DataW H → Nat
  | .lit (.string bytes) => bytes.length + 1
  | .lit _ => 1
  | .nil => 1
  | .ptr d => uptoBulk d + 1
  | .slice elems spare => uptoBulkAll elems + uptoBulkAll spare + 1
  | .agg parts => uptoBulkAll parts + 1
  | .iface _ d => uptoBulk d + 1
  | .map entries => uptoBulkEntries entries + 1
  | .held _ => 1
def uptoBulkAll {H : Type} : List (DataW H) → Nat
  | [] => 0
  | d :: r => uptoBulk d + uptoBulkAll r
def uptoBulkEntries {H : Type} : List (Lit × DataW H) → Nat
  | [] => 0
  | x :: r => uptoBulkEntry x + uptoBulkEntries r
def uptoBulkEntry {H : Type} : Lit × DataW H → Nat
  | (.string bytes, d) => bytes.length + uptoBulk d + 1
  | (_, d) => uptoBulk d + 1
 end
def uptoSmall : (H : Type) → List (DataW H) → Bool := fun _ ds => decide (uptoBulkAll ds ≤ 1048576)
def OpenSpec.upto (s : _root_.Go.ChangeSpec) : _root_.Go.OpenSpec := { _root_.Go.OpenSpec.ofChange s with cond := some uptoSmall }

/-- 'folkmootkeep.FloodAgrees', WHERE WHAT IT READS IS OF BULK AT MOST 1048576: true; the input reads as it did. -/
def floodAgreesUptoRow : OpenClaim := { program := "ytmkhjlmhobihmaa", sum := "ecf4bf2f0a71665ce100e3071c42f6c035ec96fe865861d977c03c1f4565b54e", func := "folkmoot/folkmootkeep.FloodAgrees", spec := "floodAgrees", inPlace := ["maps.clone"], unfollowed := true, recurses := true, apart := false, narrowed := true }
def FloodAgreesUptoSaid : Prop := floodAgreesUptoRow.holds Try.pinned (OpenSpec.upto floodAgreesSpec)

/-- 'folkmootkeep.FloodMore', WHERE WHAT IT READS IS OF BULK AT MOST 1048576: true; the input reads as it did. -/
def floodMoreUptoRow : OpenClaim := { program := "ytmkhjlmhobihmaa", sum := "ecf4bf2f0a71665ce100e3071c42f6c035ec96fe865861d977c03c1f4565b54e", func := "folkmoot/folkmootkeep.FloodMore", spec := "floodMore", inPlace := ["maps.clone"], unfollowed := true, recurses := true, apart := false, narrowed := true }
def FloodMoreUptoSaid : Prop := floodMoreUptoRow.holds Try.pinned (OpenSpec.upto floodMoreSpec)

/-- 'folkmootkeep.FloodNone', WHERE WHAT IT READS IS OF BULK AT MOST 1048576: true; the input reads as it did. -/
def floodNoneUptoRow : OpenClaim := { program := "ytmkhjlmhobihmaa", sum := "ecf4bf2f0a71665ce100e3071c42f6c035ec96fe865861d977c03c1f4565b54e", func := "folkmoot/folkmootkeep.FloodNone", spec := "floodNone", inPlace := ["maps.clone"], unfollowed := true, recurses := true, apart := false, narrowed := true }
def FloodNoneUptoSaid : Prop := floodNoneUptoRow.holds Try.pinned (OpenSpec.upto floodNoneSpec)

end Rows
end Go.Proofs.Ytmkhjlmhobihmaa
