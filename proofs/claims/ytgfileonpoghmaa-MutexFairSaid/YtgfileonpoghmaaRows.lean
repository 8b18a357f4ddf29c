/-
  No cell of these rows narrows 'for every input' (looked for: loops, veiled, ifaces, maps, wideKeys, modest, calm, conditions, laid).
  DERIVED. THE GIVEN ROWS OF THIS SEAT. 3 by the template 'for every input the law returns true; each argument reads behind the call as it read before'; 0 by the template 'total and deterministic' (their statements: YtgfileonpoghmaaTotals.lean).
  GIVEN WITH THE SEED: the statements are not yours to turn. If you find one false, say at which input.
  Laid BY PROGRAM, IN A SANDBOX (cutbox-rows.mjs): the forced cells as the released guide's own fill.sh prints them over the translation bfafb260514f890d… (all of the seat's roots in one cut). By AI agents, Wed Nov 11 2026. No macro, syntax, notation, axiom, sorry.
-/
import Derived.Test.YtgfileonpoghmaaChecked
import GoSem.Claim
import GoSem.ClaimJoined
import GoSem.ClaimMapViews
import Derived.JoinedTies
import Derived.KernelRfl
namespace Go.Proofs.Ytgfileonpoghmaa
/- THE CELL 'sum', in the pinned program and in every row, IS THE sha256 OF THE DUMP (.gsa) THAT YtgfileonpoghmaaProg.lean LOADS. Nothing in Lean hashes anything: it is a label: what it is worth is what the hold of that sum in a sandbox is worth. -/
noncomputable def Try.pinned : Pinned := { name := "ytgfileonpoghmaa", sum := "bfafb260514f890df6f3eb8495c60e1f0e90932cb781d5083b0e8e14e2f07e5e", checked := Try.checked }
namespace Rows
def none {H : Type} : Left H := { results := [], args := [] }

/-- 'folkmootkeep.MutexOne': WHATEVER THE INPUT: true; the input reads as it did. -/
def mutexOneSpec : ChangeSpec := { name := "mutexOne", fn := fun _ => fun
  | [d1, d2, d3] => { results := [.lit (.bool true)], args := [d1, d2, d3] }
  | _ => none }
def mutexOneRow : OpenClaim := { program := "ytgfileonpoghmaa", sum := "bfafb260514f890df6f3eb8495c60e1f0e90932cb781d5083b0e8e14e2f07e5e", func := "folkmoot/folkmootkeep.MutexOne", spec := "mutexOne", unfollowed := true, recurses := true, plainKeys := false, apart := false }
def MutexOneSaid : Prop := mutexOneRow.holds Try.pinned (OpenSpec.ofChange mutexOneSpec)

/-- ITS FALSE NEIGHBOUR: 'it returns false'. Refute it at one input. -/
def mutexOneWrong : ChangeSpec := { name := "mutexOne", fn := fun _ => fun
  | [d1, d2, d3] => { results := [.lit (.bool false)], args := [d1, d2, d3] }
  | _ => none }
def MutexOneWrongFalsely : Prop := mutexOneRow.holds Try.pinned (OpenSpec.ofChange mutexOneWrong)

/-- 'folkmootkeep.MutexGoes': WHATEVER THE INPUT: true; the input reads as it did. -/
def mutexGoesSpec : ChangeSpec := { name := "mutexGoes", fn := fun _ => fun
  | [d1, d2] => { results := [.lit (.bool true)], args := [d1, d2] }
  | _ => none }
def mutexGoesRow : OpenClaim := { program := "ytgfileonpoghmaa", sum := "bfafb260514f890df6f3eb8495c60e1f0e90932cb781d5083b0e8e14e2f07e5e", func := "folkmoot/folkmootkeep.MutexGoes", spec := "mutexGoes", unfollowed := true, recurses := true, plainKeys := false, apart := false }
def MutexGoesSaid : Prop := mutexGoesRow.holds Try.pinned (OpenSpec.ofChange mutexGoesSpec)

/-- ITS FALSE NEIGHBOUR: 'it returns false'. Refute it at one input. -/
def mutexGoesWrong : ChangeSpec := { name := "mutexGoes", fn := fun _ => fun
  | [d1, d2] => { results := [.lit (.bool false)], args := [d1, d2] }
  | _ => none }
def MutexGoesWrongFalsely : Prop := mutexGoesRow.holds Try.pinned (OpenSpec.ofChange mutexGoesWrong)

/-- 'folkmootkeep.MutexFair': WHATEVER THE INPUT: true; the input reads as it did. -/
def mutexFairSpec : ChangeSpec := { name := "mutexFair", fn := fun _ => fun
  | [d1, d2, d3, d4, d5] => { results := [.lit (.bool true)], args := [d1, d2, d3, d4, d5] }
  | _ => none }
def mutexFairRow : OpenClaim := { program := "ytgfileonpoghmaa", sum := "bfafb260514f890df6f3eb8495c60e1f0e90932cb781d5083b0e8e14e2f07e5e", func := "folkmoot/folkmootkeep.MutexFair", spec := "mutexFair", unfollowed := true, recurses := true, plainKeys := false, apart := false }
def MutexFairSaid : Prop := mutexFairRow.holds Try.pinned (OpenSpec.ofChange mutexFairSpec)

/-- ITS FALSE NEIGHBOUR: 'it returns false'. Refute it at one input. -/
def mutexFairWrong : ChangeSpec := { name := "mutexFair", fn := fun _ => fun
  | [d1, d2, d3, d4, d5] => { results := [.lit (.bool false)], args := [d1, d2, d3, d4, d5] }
  | _ => none }
def MutexFairWrongFalsely : Prop := mutexFairRow.holds Try.pinned (OpenSpec.ofChange mutexFairWrong)

/- THE SECOND FORM. 'bulk': how many values and letters a reading holds, each counted each time it is reached (what is shared counts as often as it is met; a slice's spare places count too). A statement '..UptoSaid' is the law's where the arguments, and the package variables that the reading takes, are together of bulk at most 1048576: NARROWER than '..Said'. Prove '..Said' where nothing that the law and all that it calls make is longer than what came in: it says more and counts as full. Else prove '..UptoSaid'. A law counts once. -/
mutual
def uptoBulk {H : Type} : DataW H → Nat
  | .lit (.string bytes) => bytes.length + 1
  | .lit _ => 1
  | .nil => 1
  | .ptr d => uptoBulk d + 1
  | .slice elems spare => uptoBulkAll elems + uptoBulkAll spare + 1
  | .agg parts => uptoBulkAll parts + 1
  | .iface _ d => uptoBulk d + 1
  | .map entries => uptoBulkEntries entries + 1
  | .held _ => 1
def uptoBulkAll {H : Type} : List (DataW H) → Nat
  | [] => 0
  | d :: r => uptoBulk d + uptoBulkAll r
def uptoBulkEntries {H : Type} : List (Lit × DataW H) → Nat
  | [] => 0
  | x :: r => uptoBulkEntry x + uptoBulkEntries r
def uptoBulkEntry {H : Type} : Lit × DataW H → Nat
  | (.string bytes, d) => bytes.length + uptoBulk d + 1
  | (_, d) => uptoBulk d + 1
 end
def uptoSmall : (H : Type) → List (DataW H) → Bool := fun _ ds => decide (uptoBulkAll ds ≤ 1048576)
def OpenSpec.upto (s : _root_.Go.ChangeSpec) : _root_.Go.OpenSpec := { _root_.Go.OpenSpec.ofChange s with cond := some uptoSmall }

/-- 'folkmootkeep.MutexOne', WHERE WHAT IT READS IS OF BULK AT MOST 1048576: true; the input reads as it did. -/
def mutexOneUptoRow : OpenClaim := { program := "ytgfileonpoghmaa", sum := "bfafb260514f890df6f3eb8495c60e1f0e90932cb781d5083b0e8e14e2f07e5e", func := "folkmoot/folkmootkeep.MutexOne", spec := "mutexOne", unfollowed := true, recurses := true, plainKeys := false, apart := false, narrowed := true }
def MutexOneUptoSaid : Prop := mutexOneUptoRow.holds Try.pinned (OpenSpec.upto mutexOneSpec)

/-- 'folkmootkeep.MutexGoes', WHERE WHAT IT READS IS OF BULK AT MOST 1048576: true; the input reads as it did. -/
def mutexGoesUptoRow : OpenClaim := { program := "ytgfileonpoghmaa", sum := "bfafb260514f890df6f3eb8495c60e1f0e90932cb781d5083b0e8e14e2f07e5e", func := "folkmoot/folkmootkeep.MutexGoes", spec := "mutexGoes", unfollowed := true, recurses := true, plainKeys := false, apart := false, narrowed := true }
def MutexGoesUptoSaid : Prop := mutexGoesUptoRow.holds Try.pinned (OpenSpec.upto mutexGoesSpec)

/-- 'folkmootkeep.MutexFair', WHERE WHAT IT READS IS OF BULK AT MOST 1048576: true; the input reads as it did. -/
def mutexFairUptoRow : OpenClaim := { program := "ytgfileonpoghmaa", sum := "bfafb260514f890df6f3eb8495c60e1f0e90932cb781d5083b0e8e14e2f07e5e", func := "folkmoot/folkmootkeep.MutexFair", spec := "mutexFair", unfollowed := true, recurses := true, plainKeys := false, apart := false, narrowed := true }
def MutexFairUptoSaid : Prop := mutexFairUptoRow.holds Try.pinned (OpenSpec.upto mutexFairSpec)

end Rows
end Go.Proofs.Ytgfileonpoghmaa
