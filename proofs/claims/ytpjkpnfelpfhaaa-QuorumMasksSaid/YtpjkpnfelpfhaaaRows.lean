/-
  No cell of these rows narrows 'for every input' (looked for: loops, veiled, ifaces, maps, wideKeys, modest, calm, conditions, laid).
  DERIVED. THE GIVEN ROWS OF THIS SEAT. 5 by the template 'for every input the law returns true; each argument reads behind the call as it read before'; 0 by the template 'total and deterministic' (their statements: YtpjkpnfelpfhaaaTotals.lean).
  GIVEN WITH THE SEED: the statements are not yours to turn. If you find one false, say at which input.
  Laid BY PROGRAM, IN A SANDBOX (cutbox-rows.mjs): the forced cells as the released guide's own fill.sh prints them over the translation 952e7433a2de3576… (all of the seat's roots in one cut). By AI agents, Wed Nov 11 2026. No macro, syntax, notation, axiom, sorry.
-/
import Derived.Test.YtpjkpnfelpfhaaaChecked
import GoSem.Claim
import GoSem.ClaimJoined
import GoSem.ClaimMapViews
import Derived.JoinedTies
import Derived.KernelRfl
namespace Go.Proofs.Ytpjkpnfelpfhaaa
/- THE CELL 'sum', in the pinned program and in every row, IS THE sha256 OF THE DUMP (.gsa) THAT YtpjkpnfelpfhaaaProg.lean LOADS. Nothing in Lean hashes anything: it is a label: what it is worth is what the hold of that sum in a sandbox is worth. -/
noncomputable def Try.pinned : Pinned := { name := "ytpjkpnfelpfhaaa", sum := "952e7433a2de3576337daa88a2aad2499a6e98006803178b69c409401472785d", checked := Try.checked }
namespace Rows
def none {H : Type} : Left H := { results := [], args := [] }

/-- 'folkmootkeep.QuorumTwice': WHATEVER THE INPUT: true; the input reads as it did. -/
def quorumTwiceSpec : ChangeSpec := { name := "quorumTwice", fn := fun _ => fun
  | [d1, d2] => { results := [.lit (.bool true)], args := [d1, d2] }
  | _ => none }
def quorumTwiceRow : OpenClaim := { program := "ytpjkpnfelpfhaaa", sum := "952e7433a2de3576337daa88a2aad2499a6e98006803178b69c409401472785d", func := "folkmoot/folkmootkeep.QuorumTwice", spec := "quorumTwice", unfollowed := true, recurses := true, apart := false }
def QuorumTwiceSaid : Prop := quorumTwiceRow.holds Try.pinned (OpenSpec.ofChange quorumTwiceSpec)

/-- ITS FALSE NEIGHBOUR: 'it returns false'. Refute it at one input. -/
def quorumTwiceWrong : ChangeSpec := { name := "quorumTwice", fn := fun _ => fun
  | [d1, d2] => { results := [.lit (.bool false)], args := [d1, d2] }
  | _ => none }
def QuorumTwiceWrongFalsely : Prop := quorumTwiceRow.holds Try.pinned (OpenSpec.ofChange quorumTwiceWrong)

/-- 'folkmootkeep.QuorumBerge': WHATEVER THE INPUT: true; the input reads as it did. -/
def quorumBergeSpec : ChangeSpec := { name := "quorumBerge", fn := fun _ => fun
  | [d1, d2] => { results := [.lit (.bool true)], args := [d1, d2] }
  | _ => none }
def quorumBergeRow : OpenClaim := { program := "ytpjkpnfelpfhaaa", sum := "952e7433a2de3576337daa88a2aad2499a6e98006803178b69c409401472785d", func := "folkmoot/folkmootkeep.QuorumBerge", spec := "quorumBerge", unfollowed := true, recurses := true, apart := false }
def QuorumBergeSaid : Prop := quorumBergeRow.holds Try.pinned (OpenSpec.ofChange quorumBergeSpec)

/-- ITS FALSE NEIGHBOUR: 'it returns false'. Refute it at one input. -/
def quorumBergeWrong : ChangeSpec := { name := "quorumBerge", fn := fun _ => fun
  | [d1, d2] => { results := [.lit (.bool false)], args := [d1, d2] }
  | _ => none }
def QuorumBergeWrongFalsely : Prop := quorumBergeRow.holds Try.pinned (OpenSpec.ofChange quorumBergeWrong)

/-- 'folkmootkeep.QuorumSame': WHATEVER THE INPUT: true; the input reads as it did. -/
def quorumSameSpec : ChangeSpec := { name := "quorumSame", fn := fun _ => fun
  | [d1, d2] => { results := [.lit (.bool true)], args := [d1, d2] }
  | _ => none }
def quorumSameRow : OpenClaim := { program := "ytpjkpnfelpfhaaa", sum := "952e7433a2de3576337daa88a2aad2499a6e98006803178b69c409401472785d", func := "folkmoot/folkmootkeep.QuorumSame", spec := "quorumSame", unfollowed := true, recurses := true, apart := false }
def QuorumSameSaid : Prop := quorumSameRow.holds Try.pinned (OpenSpec.ofChange quorumSameSpec)

/-- ITS FALSE NEIGHBOUR: 'it returns false'. Refute it at one input. -/
def quorumSameWrong : ChangeSpec := { name := "quorumSame", fn := fun _ => fun
  | [d1, d2] => { results := [.lit (.bool false)], args := [d1, d2] }
  | _ => none }
def QuorumSameWrongFalsely : Prop := quorumSameRow.holds Try.pinned (OpenSpec.ofChange quorumSameWrong)

/-- 'folkmootkeep.QuorumFull': WHATEVER THE INPUT: true; the input reads as it did. -/
def quorumFullSpec : ChangeSpec := { name := "quorumFull", fn := fun _ => fun
  | [d1, d2] => { results := [.lit (.bool true)], args := [d1, d2] }
  | _ => none }
def quorumFullRow : OpenClaim := { program := "ytpjkpnfelpfhaaa", sum := "952e7433a2de3576337daa88a2aad2499a6e98006803178b69c409401472785d", func := "folkmoot/folkmootkeep.QuorumFull", spec := "quorumFull", unfollowed := true, recurses := true, apart := false }
def QuorumFullSaid : Prop := quorumFullRow.holds Try.pinned (OpenSpec.ofChange quorumFullSpec)

/-- ITS FALSE NEIGHBOUR: 'it returns false'. Refute it at one input. -/
def quorumFullWrong : ChangeSpec := { name := "quorumFull", fn := fun _ => fun
  | [d1, d2] => { results := [.lit (.bool false)], args := [d1, d2] }
  | _ => none }
def QuorumFullWrongFalsely : Prop := quorumFullRow.holds Try.pinned (OpenSpec.ofChange quorumFullWrong)

/-- 'folkmootkeep.QuorumMasks': WHATEVER THE INPUT: true; the input reads as it did. -/
def quorumMasksSpec : ChangeSpec := { name := "quorumMasks", fn := fun _ => fun
  | [d1, d2, d3, d4, d5, d6] => { results := [.lit (.bool true)], args := [d1, d2, d3, d4, d5, d6] }
  | _ => none }
def quorumMasksRow : OpenClaim := { program := "ytpjkpnfelpfhaaa", sum := "952e7433a2de3576337daa88a2aad2499a6e98006803178b69c409401472785d", func := "folkmoot/folkmootkeep.QuorumMasks", spec := "quorumMasks", unfollowed := true, recurses := true, apart := false }
def QuorumMasksSaid : Prop := quorumMasksRow.holds Try.pinned (OpenSpec.ofChange quorumMasksSpec)

/-- ITS FALSE NEIGHBOUR: 'it returns false'. Refute it at one input. -/
def quorumMasksWrong : ChangeSpec := { name := "quorumMasks", fn := fun _ => fun
  | [d1, d2, d3, d4, d5, d6] => { results := [.lit (.bool false)], args := [d1, d2, d3, d4, d5, d6] }
  | _ => none }
def QuorumMasksWrongFalsely : Prop := quorumMasksRow.holds Try.pinned (OpenSpec.ofChange quorumMasksWrong)

/- THE SECOND FORM. 'bulk': how many values and letters a reading holds, each counted each time it is reached (what is shared counts as often as it is met; a slice's spare places count too). A statement '..UptoSaid' is the law's where the arguments, and the package variables that the reading takes, are together of bulk at most 1048576: NARROWER than '..Said'. Prove '..Said' where nothing that the law and all that it calls make is longer than what came in: it says more and counts as full. Else prove '..UptoSaid'. A law counts once. -/
mutual
def uptoBulk {H : Type} : DataW H → Nat
  | .lit (.string bytes) => bytes.length + 1
  | .lit _ => 1
  | .nil => 1
  | .ptr d => uptoBulk d + 1
  | .slice elems spare => uptoBulkAll elems + uptoBulkAll spare + 1
  | .agg parts => uptoBulkAll parts + 1
  | .iface _ d => uptoBulk d + 1
  | .map entries => uptoBulkEntries entries + 1
  | .held _ => 1
def uptoBulkAll {H : Type} : List (DataW H) → Nat
  | [] => 0
  | d :: r => uptoBulk d + uptoBulkAll r
def uptoBulkEntries {H : Type} : List (Lit × DataW H) → Nat
  | [] => 0
  | x :: r => uptoBulkEntry x + uptoBulkEntries r
def uptoBulkEntry {H : Type} : Lit × DataW H → Nat
  | (.string bytes, d) => bytes.length + uptoBulk d + 1
  | (_, d) => uptoBulk d + 1
 end
def uptoSmall : (H : Type) → List (DataW H) → Bool := fun _ ds => decide (uptoBulkAll ds ≤ 1048576)
def OpenSpec.upto (s : _root_.Go.ChangeSpec) : _root_.Go.OpenSpec := { _root_.Go.OpenSpec.ofChange s with cond := some uptoSmall }

/-- 'folkmootkeep.QuorumTwice', WHERE WHAT IT READS IS OF BULK AT MOST 1048576: true; the input reads as it did. -/
def quorumTwiceUptoRow : OpenClaim := { program := "ytpjkpnfelpfhaaa", sum := "952e7433a2de3576337daa88a2aad2499a6e98006803178b69c409401472785d", func := "folkmoot/folkmootkeep.QuorumTwice", spec := "quorumTwice", unfollowed := true, recurses := true, apart := false, narrowed := true }
def QuorumTwiceUptoSaid : Prop := quorumTwiceUptoRow.holds Try.pinned (OpenSpec.upto quorumTwiceSpec)

/-- 'folkmootkeep.QuorumBerge', WHERE WHAT IT READS IS OF BULK AT MOST 1048576: true; the input reads as it did. -/
def quorumBergeUptoRow : OpenClaim := { program := "ytpjkpnfelpfhaaa", sum := "952e7433a2de3576337daa88a2aad2499a6e98006803178b69c409401472785d", func := "folkmoot/folkmootkeep.QuorumBerge", spec := "quorumBerge", unfollowed := true, recurses := true, apart := false, narrowed := true }
def QuorumBergeUptoSaid : Prop := quorumBergeUptoRow.holds Try.pinned (OpenSpec.upto quorumBergeSpec)

/-- 'folkmootkeep.QuorumSame', WHERE WHAT IT READS IS OF BULK AT MOST 1048576: true; the input reads as it did. -/
def quorumSameUptoRow : OpenClaim := { program := "ytpjkpnfelpfhaaa", sum := "952e7433a2de3576337daa88a2aad2499a6e98006803178b69c409401472785d", func := "folkmoot/folkmootkeep.QuorumSame", spec := "quorumSame", unfollowed := true, recurses := true, apart := false, narrowed := true }
def QuorumSameUptoSaid : Prop := quorumSameUptoRow.holds Try.pinned (OpenSpec.upto quorumSameSpec)

/-- 'folkmootkeep.QuorumFull', WHERE WHAT IT READS IS OF BULK AT MOST 1048576: true; the input reads as it did. -/
def quorumFullUptoRow : OpenClaim := { program := "ytpjkpnfelpfhaaa", sum := "952e7433a2de3576337daa88a2aad2499a6e98006803178b69c409401472785d", func := "folkmoot/folkmootkeep.QuorumFull", spec := "quorumFull", unfollowed := true, recurses := true, apart := false, narrowed := true }
def QuorumFullUptoSaid : Prop := quorumFullUptoRow.holds Try.pinned (OpenSpec.upto quorumFullSpec)

/-- 'folkmootkeep.QuorumMasks', WHERE WHAT IT READS IS OF BULK AT MOST 1048576: true; the input reads as it did. -/
def quorumMasksUptoRow : OpenClaim := { program := "ytpjkpnfelpfhaaa", sum := "952e7433a2de3576337daa88a2aad2499a6e98006803178b69c409401472785d", func := "folkmoot/folkmootkeep.QuorumMasks", spec := "quorumMasks", unfollowed := true, recurses := true, apart := false, narrowed := true }
def QuorumMasksUptoSaid : Prop := quorumMasksUptoRow.holds Try.pinned (OpenSpec.upto quorumMasksSpec)

end Rows
end Go.Proofs.Ytpjkpnfelpfhaaa
