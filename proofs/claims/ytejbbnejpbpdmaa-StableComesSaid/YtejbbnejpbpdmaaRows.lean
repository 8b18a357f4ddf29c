/-
  No cell of these rows narrows 'for every input' (looked for: loops, veiled, ifaces, maps, wideKeys, modest, calm, conditions, laid).
  DERIVED. THE GIVEN ROWS OF THIS SEAT. 4 by the template 'for every input the law returns true; each argument reads behind the call as it read before'; 0 by the template 'total and deterministic' (their statements: YtejbbnejpbpdmaaTotals.lean).
  GIVEN WITH THE SEED: the statements are not yours to turn. If you find one false, say at which input.
  Laid BY PROGRAM, IN A SANDBOX (cutbox-rows.mjs): the forced cells as the released guide's own fill.sh prints them over the translation d152e56a990f31e4… (all of the seat's roots in one cut). By AI agents, Wed Nov 11 2026. No macro, syntax, notation, axiom, sorry.
-/
import Derived.Test.YtejbbnejpbpdmaaChecked
import GoSem.Claim
import GoSem.ClaimJoined
import GoSem.ClaimMapViews
import Derived.JoinedTies
import Derived.KernelRfl
namespace Go.Proofs.Ytejbbnejpbpdmaa
/- THE CELL 'sum', in the pinned program and in every row, IS THE sha256 OF THE DUMP (.gsa) THAT YtejbbnejpbpdmaaProg.lean LOADS. Nothing in Lean hashes anything: it is a label: what it is worth is what the hold of that sum in a sandbox is worth. -/
noncomputable def Try.pinned : Pinned := { name := "ytejbbnejpbpdmaa", sum := "d152e56a990f31e4bd81d81663aa7cda361c46501eede01bdb4cc070a0fd4127", checked := Try.checked }
namespace Rows
def none {H : Type} : Left H := { results := [], args := [] }

/-- 'folkmootkeep.StableSame': WHATEVER THE INPUT: true; the input reads as it did. -/
def stableSameSpec : ChangeSpec := { name := "stableSame", fn := fun _ => fun
  | [d1, d2, d3] => { results := [.lit (.bool true)], args := [d1, d2, d3] }
  | _ => none }
def stableSameRow : OpenClaim := { program := "ytejbbnejpbpdmaa", sum := "d152e56a990f31e4bd81d81663aa7cda361c46501eede01bdb4cc070a0fd4127", func := "folkmoot/folkmootkeep.StableSame", spec := "stableSame", unfollowed := true, recurses := true, apart := false }
def StableSameSaid : Prop := stableSameRow.holds Try.pinned (OpenSpec.ofChange stableSameSpec)

/-- ITS FALSE NEIGHBOUR: 'it returns false'. Refute it at one input. -/
def stableSameWrong : ChangeSpec := { name := "stableSame", fn := fun _ => fun
  | [d1, d2, d3] => { results := [.lit (.bool false)], args := [d1, d2, d3] }
  | _ => none }
def StableSameWrongFalsely : Prop := stableSameRow.holds Try.pinned (OpenSpec.ofChange stableSameWrong)

/-- 'folkmootkeep.StableSome': WHATEVER THE INPUT: true; the input reads as it did. -/
def stableSomeSpec : ChangeSpec := { name := "stableSome", fn := fun _ => fun
  | [d1, d2] => { results := [.lit (.bool true)], args := [d1, d2] }
  | _ => none }
def stableSomeRow : OpenClaim := { program := "ytejbbnejpbpdmaa", sum := "d152e56a990f31e4bd81d81663aa7cda361c46501eede01bdb4cc070a0fd4127", func := "folkmoot/folkmootkeep.StableSome", spec := "stableSome", unfollowed := true, recurses := true, apart := false }
def StableSomeSaid : Prop := stableSomeRow.holds Try.pinned (OpenSpec.ofChange stableSomeSpec)

/-- ITS FALSE NEIGHBOUR: 'it returns false'. Refute it at one input. -/
def stableSomeWrong : ChangeSpec := { name := "stableSome", fn := fun _ => fun
  | [d1, d2] => { results := [.lit (.bool false)], args := [d1, d2] }
  | _ => none }
def StableSomeWrongFalsely : Prop := stableSomeRow.holds Try.pinned (OpenSpec.ofChange stableSomeWrong)

/-- 'folkmootkeep.StableComes': WHATEVER THE INPUT: true; the input reads as it did. -/
def stableComesSpec : ChangeSpec := { name := "stableComes", fn := fun _ => fun
  | [d1, d2, d3] => { results := [.lit (.bool true)], args := [d1, d2, d3] }
  | _ => none }
def stableComesRow : OpenClaim := { program := "ytejbbnejpbpdmaa", sum := "d152e56a990f31e4bd81d81663aa7cda361c46501eede01bdb4cc070a0fd4127", func := "folkmoot/folkmootkeep.StableComes", spec := "stableComes", unfollowed := true, recurses := true, apart := false }
def StableComesSaid : Prop := stableComesRow.holds Try.pinned (OpenSpec.ofChange stableComesSpec)

/-- ITS FALSE NEIGHBOUR: 'it returns false'. Refute it at one input. -/
def stableComesWrong : ChangeSpec := { name := "stableComes", fn := fun _ => fun
  | [d1, d2, d3] => { results := [.lit (.bool false)], args := [d1, d2, d3] }
  | _ => none }
def StableComesWrongFalsely : Prop := stableComesRow.holds Try.pinned (OpenSpec.ofChange stableComesWrong)

/-- 'folkmootkeep.StableTurns': WHATEVER THE INPUT: true; the input reads as it did. -/
def stableTurnsSpec : ChangeSpec := { name := "stableTurns", fn := fun _ => fun
  | [d1, d2] => { results := [.lit (.bool true)], args := [d1, d2] }
  | _ => none }
def stableTurnsRow : OpenClaim := { program := "ytejbbnejpbpdmaa", sum := "d152e56a990f31e4bd81d81663aa7cda361c46501eede01bdb4cc070a0fd4127", func := "folkmoot/folkmootkeep.StableTurns", spec := "stableTurns", unfollowed := true, recurses := true, apart := false }
def StableTurnsSaid : Prop := stableTurnsRow.holds Try.pinned (OpenSpec.ofChange stableTurnsSpec)

/-- ITS FALSE NEIGHBOUR: 'it returns false'. Refute it at one input. -/
def stableTurnsWrong : ChangeSpec := { name := "stableTurns", fn := fun _ => fun
  | [d1, d2] => { results := [.lit (.bool false)], args := [d1, d2] }
  | _ => none }
def StableTurnsWrongFalsely : Prop := stableTurnsRow.holds Try.pinned (OpenSpec.ofChange stableTurnsWrong)

/- THE SECOND FORM. 'bulk': how many values and letters a reading holds, each counted each time it is reached (what is shared counts as often as it is met; a slice's spare places count too). A statement '..UptoSaid' is the law's where the arguments, and the package variables that the reading takes, are together of bulk at most 1048576: NARROWER than '..Said'. Prove '..Said' where nothing that the law and all that it calls make is longer than what came in: it says more and counts as full. Else prove '..UptoSaid'. A law counts once. -/
mutual
def uptoBulk {H : Type} : DataW H → Nat
  | .lit (.string bytes) => bytes.length + 1
  | .lit _ => 1
  | .nil => 1
  | .ptr d => uptoBulk d + 1
  | .slice elems spare => uptoBulkAll elems + uptoBulkAll spare + 1
  | .agg parts => uptoBulkAll parts + 1
  | .iface _ d => uptoBulk d + 1
  | .map entries => uptoBulkEntries entries + 1
  | .held _ => 1
def uptoBulkAll {H : Type} : List (DataW H) → Nat
  | [] => 0
  | d :: r => uptoBulk d + uptoBulkAll r
def uptoBulkEntries {H : Type} : List (Lit × DataW H) → Nat
  | [] => 0
  | x :: r => uptoBulkEntry x + uptoBulkEntries r
def uptoBulkEntry {H : Type} : Lit × DataW H → Nat
  | (.string bytes, d) => bytes.length + uptoBulk d + 1
  | (_, d) => uptoBulk d + 1
 end
def uptoSmall : (H : Type) → List (DataW H) → Bool := fun _ ds => decide (uptoBulkAll ds ≤ 1048576)
def OpenSpec.upto (s : _root_.Go.ChangeSpec) : _root_.Go.OpenSpec := { _root_.Go.OpenSpec.ofChange s with cond := some uptoSmall }

/-- 'folkmootkeep.StableSame', WHERE WHAT IT READS IS OF BULK AT MOST 1048576: true; the input reads as it did. -/
def stableSameUptoRow : OpenClaim := { program := "ytejbbnejpbpdmaa", sum := "d152e56a990f31e4bd81d81663aa7cda361c46501eede01bdb4cc070a0fd4127", func := "folkmoot/folkmootkeep.StableSame", spec := "stableSame", unfollowed := true, recurses := true, apart := false, narrowed := true }
def StableSameUptoSaid : Prop := stableSameUptoRow.holds Try.pinned (OpenSpec.upto stableSameSpec)

/-- 'folkmootkeep.StableSome', WHERE WHAT IT READS IS OF BULK AT MOST 1048576: true; the input reads as it did. -/
def stableSomeUptoRow : OpenClaim := { program := "ytejbbnejpbpdmaa", sum := "d152e56a990f31e4bd81d81663aa7cda361c46501eede01bdb4cc070a0fd4127", func := "folkmoot/folkmootkeep.StableSome", spec := "stableSome", unfollowed := true, recurses := true, apart := false, narrowed := true }
def StableSomeUptoSaid : Prop := stableSomeUptoRow.holds Try.pinned (OpenSpec.upto stableSomeSpec)

/-- 'folkmootkeep.StableComes', WHERE WHAT IT READS IS OF BULK AT MOST 1048576: true; the input reads as it did. -/
def stableComesUptoRow : OpenClaim := { program := "ytejbbnejpbpdmaa", sum := "d152e56a990f31e4bd81d81663aa7cda361c46501eede01bdb4cc070a0fd4127", func := "folkmoot/folkmootkeep.StableComes", spec := "stableComes", unfollowed := true, recurses := true, apart := false, narrowed := true }
def StableComesUptoSaid : Prop := stableComesUptoRow.holds Try.pinned (OpenSpec.upto stableComesSpec)

/-- 'folkmootkeep.StableTurns', WHERE WHAT IT READS IS OF BULK AT MOST 1048576: true; the input reads as it did. -/
def stableTurnsUptoRow : OpenClaim := { program := "ytejbbnejpbpdmaa", sum := "d152e56a990f31e4bd81d81663aa7cda361c46501eede01bdb4cc070a0fd4127", func := "folkmoot/folkmootkeep.StableTurns", spec := "stableTurns", unfollowed := true, recurses := true, apart := false, narrowed := true }
def StableTurnsUptoSaid : Prop := stableTurnsUptoRow.holds Try.pinned (OpenSpec.upto stableTurnsSpec)

end Rows
end Go.Proofs.Ytejbbnejpbpdmaa
