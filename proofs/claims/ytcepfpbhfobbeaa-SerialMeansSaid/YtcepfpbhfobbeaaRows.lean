/-
  No cell of these rows narrows 'for every input' (looked for: loops, veiled, ifaces, maps, wideKeys, modest, calm, conditions, laid).
  DERIVED. THE GIVEN ROWS OF THIS SEAT. 5 by the template 'for every input the law returns true; each argument reads behind the call as it read before'; 0 by the template 'total and deterministic' (their statements: YtcepfpbhfobbeaaTotals.lean).
  GIVEN WITH THE SEED: the statements are not yours to turn. If you find one false, say at which input.
  Laid BY PROGRAM, IN A SANDBOX (cutbox-rows.mjs): the forced cells as the released guide's own fill.sh prints them over the translation 848a2040153f1081… (all of the seat's roots in one cut). By AI agents, Wed Nov 11 2026. No macro, syntax, notation, axiom, sorry.
-/
import Derived.Test.YtcepfpbhfobbeaaChecked
import GoSem.Claim
import GoSem.ClaimJoined
import GoSem.ClaimMapViews
import Derived.JoinedTies
import Derived.KernelRfl
namespace Go.Proofs.Ytcepfpbhfobbeaa
/- THE CELL 'sum', in the pinned program and in every row, IS THE sha256 OF THE DUMP (.gsa) THAT YtcepfpbhfobbeaaProg.lean LOADS. Nothing in Lean hashes anything: it is a label: what it is worth is what the hold of that sum in a sandbox is worth. -/
noncomputable def Try.pinned : Pinned := { name := "ytcepfpbhfobbeaa", sum := "848a2040153f1081a25e09d1cd04f95ed4a2034bfaba795e0b97d565e7ecd619", checked := Try.checked }
namespace Rows
def none {H : Type} : Left H := { results := [], args := [] }

/-- 'folkmootkeep.SerialKeeps': WHATEVER THE INPUT: true; the input reads as it did. -/
def serialKeepsSpec : ChangeSpec := { name := "serialKeeps", fn := fun _ => fun
  | [d1, d2] => { results := [.lit (.bool true)], args := [d1, d2] }
  | _ => none }
def serialKeepsRow : OpenClaim := { program := "ytcepfpbhfobbeaa", sum := "848a2040153f1081a25e09d1cd04f95ed4a2034bfaba795e0b97d565e7ecd619", func := "folkmoot/folkmootkeep.SerialKeeps", spec := "serialKeeps", apart := false }
def SerialKeepsSaid : Prop := serialKeepsRow.holds Try.pinned (OpenSpec.ofChange serialKeepsSpec)

/-- ITS FALSE NEIGHBOUR: 'it returns false'. Refute it at one input. -/
def serialKeepsWrong : ChangeSpec := { name := "serialKeeps", fn := fun _ => fun
  | [d1, d2] => { results := [.lit (.bool false)], args := [d1, d2] }
  | _ => none }
def SerialKeepsWrongFalsely : Prop := serialKeepsRow.holds Try.pinned (OpenSpec.ofChange serialKeepsWrong)

/-- 'folkmootkeep.SerialSwap': WHATEVER THE INPUT: true; the input reads as it did. -/
def serialSwapSpec : ChangeSpec := { name := "serialSwap", fn := fun _ => fun
  | [d1, d2] => { results := [.lit (.bool true)], args := [d1, d2] }
  | _ => none }
def serialSwapRow : OpenClaim := { program := "ytcepfpbhfobbeaa", sum := "848a2040153f1081a25e09d1cd04f95ed4a2034bfaba795e0b97d565e7ecd619", func := "folkmoot/folkmootkeep.SerialSwap", spec := "serialSwap", apart := false }
def SerialSwapSaid : Prop := serialSwapRow.holds Try.pinned (OpenSpec.ofChange serialSwapSpec)

/-- ITS FALSE NEIGHBOUR: 'it returns false'. Refute it at one input. -/
def serialSwapWrong : ChangeSpec := { name := "serialSwap", fn := fun _ => fun
  | [d1, d2] => { results := [.lit (.bool false)], args := [d1, d2] }
  | _ => none }
def SerialSwapWrongFalsely : Prop := serialSwapRow.holds Try.pinned (OpenSpec.ofChange serialSwapWrong)

/-- 'folkmootkeep.SerialOne': WHATEVER THE INPUT: true; the input reads as it did. -/
def serialOneSpec : ChangeSpec := { name := "serialOne", fn := fun _ => fun
  | [d] => { results := [.lit (.bool true)], args := [d] }
  | _ => none }
def serialOneRow : OpenClaim := { program := "ytcepfpbhfobbeaa", sum := "848a2040153f1081a25e09d1cd04f95ed4a2034bfaba795e0b97d565e7ecd619", func := "folkmoot/folkmootkeep.SerialOne", spec := "serialOne", apart := false }
def SerialOneSaid : Prop := serialOneRow.holds Try.pinned (OpenSpec.ofChange serialOneSpec)

/-- ITS FALSE NEIGHBOUR: 'it returns false'. Refute it at one input. -/
def serialOneWrong : ChangeSpec := { name := "serialOne", fn := fun _ => fun
  | [d] => { results := [.lit (.bool false)], args := [d] }
  | _ => none }
def SerialOneWrongFalsely : Prop := serialOneRow.holds Try.pinned (OpenSpec.ofChange serialOneWrong)

/-- 'folkmootkeep.SerialLocks': WHATEVER THE INPUT: true; the input reads as it did. -/
def serialLocksSpec : ChangeSpec := { name := "serialLocks", fn := fun _ => fun
  | [d] => { results := [.lit (.bool true)], args := [d] }
  | _ => none }
def serialLocksRow : OpenClaim := { program := "ytcepfpbhfobbeaa", sum := "848a2040153f1081a25e09d1cd04f95ed4a2034bfaba795e0b97d565e7ecd619", func := "folkmoot/folkmootkeep.SerialLocks", spec := "serialLocks", apart := false }
def SerialLocksSaid : Prop := serialLocksRow.holds Try.pinned (OpenSpec.ofChange serialLocksSpec)

/-- ITS FALSE NEIGHBOUR: 'it returns false'. Refute it at one input. -/
def serialLocksWrong : ChangeSpec := { name := "serialLocks", fn := fun _ => fun
  | [d] => { results := [.lit (.bool false)], args := [d] }
  | _ => none }
def SerialLocksWrongFalsely : Prop := serialLocksRow.holds Try.pinned (OpenSpec.ofChange serialLocksWrong)

/-- 'folkmootkeep.SerialMeans': WHATEVER THE INPUT: true; the input reads as it did. -/
def serialMeansSpec : ChangeSpec := { name := "serialMeans", fn := fun _ => fun
  | [d] => { results := [.lit (.bool true)], args := [d] }
  | _ => none }
def serialMeansRow : OpenClaim := { program := "ytcepfpbhfobbeaa", sum := "848a2040153f1081a25e09d1cd04f95ed4a2034bfaba795e0b97d565e7ecd619", func := "folkmoot/folkmootkeep.SerialMeans", spec := "serialMeans", apart := false }
def SerialMeansSaid : Prop := serialMeansRow.holds Try.pinned (OpenSpec.ofChange serialMeansSpec)

/-- ITS FALSE NEIGHBOUR: 'it returns false'. Refute it at one input. -/
def serialMeansWrong : ChangeSpec := { name := "serialMeans", fn := fun _ => fun
  | [d] => { results := [.lit (.bool false)], args := [d] }
  | _ => none }
def SerialMeansWrongFalsely : Prop := serialMeansRow.holds Try.pinned (OpenSpec.ofChange serialMeansWrong)

/- THE SECOND FORM. 'bulk': how many values and letters a reading holds, each counted each time it is reached (what is shared counts as often as it is met; a slice's spare places count too). A statement '..UptoSaid' is the law's where the arguments, and the package variables that the reading takes, are together of bulk at most 1048576: NARROWER than '..Said'. Prove '..Said' where nothing that the law and all that it calls make is longer than what came in: it says more and counts as full. Else prove '..UptoSaid'. A law counts once. -/
mutual
def uptoBulk {H : Type} : DataW H → Nat
  | .lit (.string bytes) => bytes.length + 1
  | .lit _ => 1
  | .nil => 1
  | .ptr d => uptoBulk d + 1
  | .slice elems spare => uptoBulkAll elems + uptoBulkAll spare + 1
  | .agg parts => uptoBulkAll parts + 1
  | .iface _ d => uptoBulk d + 1
  | .map entries => uptoBulkEntries entries + 1
  | .held _ => 1
def uptoBulkAll {H : Type} : List (DataW H) → Nat
  | [] => 0
  | d :: r => uptoBulk d + uptoBulkAll r
def uptoBulkEntries {H : Type} : List (Lit × DataW H) → Nat
  | [] => 0
  | x :: r => uptoBulkEntry x + uptoBulkEntries r
def uptoBulkEntry {H : Type} : Lit × DataW H → Nat
  | (.string bytes, d) => bytes.length + uptoBulk d + 1
  | (_, d) => uptoBulk d + 1
 end
def uptoSmall : (H : Type) → List (DataW H) → Bool := fun _ ds => decide (uptoBulkAll ds ≤ 1048576)
def OpenSpec.upto (s : _root_.Go.ChangeSpec) : _root_.Go.OpenSpec := { _root_.Go.OpenSpec.ofChange s with cond := some uptoSmall }

/-- 'folkmootkeep.SerialKeeps', WHERE WHAT IT READS IS OF BULK AT MOST 1048576: true; the input reads as it did. -/
def serialKeepsUptoRow : OpenClaim := { program := "ytcepfpbhfobbeaa", sum := "848a2040153f1081a25e09d1cd04f95ed4a2034bfaba795e0b97d565e7ecd619", func := "folkmoot/folkmootkeep.SerialKeeps", spec := "serialKeeps", apart := false, narrowed := true }
def SerialKeepsUptoSaid : Prop := serialKeepsUptoRow.holds Try.pinned (OpenSpec.upto serialKeepsSpec)

/-- 'folkmootkeep.SerialSwap', WHERE WHAT IT READS IS OF BULK AT MOST 1048576: true; the input reads as it did. -/
def serialSwapUptoRow : OpenClaim := { program := "ytcepfpbhfobbeaa", sum := "848a2040153f1081a25e09d1cd04f95ed4a2034bfaba795e0b97d565e7ecd619", func := "folkmoot/folkmootkeep.SerialSwap", spec := "serialSwap", apart := false, narrowed := true }
def SerialSwapUptoSaid : Prop := serialSwapUptoRow.holds Try.pinned (OpenSpec.upto serialSwapSpec)

/-- 'folkmootkeep.SerialOne', WHERE WHAT IT READS IS OF BULK AT MOST 1048576: true; the input reads as it did. -/
def serialOneUptoRow : OpenClaim := { program := "ytcepfpbhfobbeaa", sum := "848a2040153f1081a25e09d1cd04f95ed4a2034bfaba795e0b97d565e7ecd619", func := "folkmoot/folkmootkeep.SerialOne", spec := "serialOne", apart := false, narrowed := true }
def SerialOneUptoSaid : Prop := serialOneUptoRow.holds Try.pinned (OpenSpec.upto serialOneSpec)

/-- 'folkmootkeep.SerialLocks', WHERE WHAT IT READS IS OF BULK AT MOST 1048576: true; the input reads as it did. -/
def serialLocksUptoRow : OpenClaim := { program := "ytcepfpbhfobbeaa", sum := "848a2040153f1081a25e09d1cd04f95ed4a2034bfaba795e0b97d565e7ecd619", func := "folkmoot/folkmootkeep.SerialLocks", spec := "serialLocks", apart := false, narrowed := true }
def SerialLocksUptoSaid : Prop := serialLocksUptoRow.holds Try.pinned (OpenSpec.upto serialLocksSpec)

/-- 'folkmootkeep.SerialMeans', WHERE WHAT IT READS IS OF BULK AT MOST 1048576: true; the input reads as it did. -/
def serialMeansUptoRow : OpenClaim := { program := "ytcepfpbhfobbeaa", sum := "848a2040153f1081a25e09d1cd04f95ed4a2034bfaba795e0b97d565e7ecd619", func := "folkmoot/folkmootkeep.SerialMeans", spec := "serialMeans", apart := false, narrowed := true }
def SerialMeansUptoSaid : Prop := serialMeansUptoRow.holds Try.pinned (OpenSpec.upto serialMeansSpec)

end Rows
end Go.Proofs.Ytcepfpbhfobbeaa
