/-
  No cell of these rows narrows 'for every input' (looked for: loops, veiled, ifaces, maps, wideKeys, modest, calm, conditions, laid).
  DERIVED. THE GIVEN ROWS OF THIS SEAT. 6 by the template 'for every input the law returns true; each argument reads behind the call as it read before'; 0 by the template 'total and deterministic' (their statements: YtfpkfbffpkjgbaaTotals.lean).
  GIVEN WITH THE SEED: the statements are not yours to turn. If you find one false, say at which input.
  Laid BY PROGRAM, IN A SANDBOX (cutbox-rows.mjs): the forced cells as the released guide's own fill.sh prints them over the translation 22ecf272e7298358… (all of the seat's roots in one cut). By AI agents, Wed Nov 11 2026. No macro, syntax, notation, axiom, sorry.
-/
import Derived.Test.YtfpkfbffpkjgbaaChecked
import GoSem.Claim
import GoSem.ClaimJoined
import GoSem.ClaimMapViews
import Derived.JoinedTies
import Derived.KernelRfl
namespace Go.Proofs.Ytfpkfbffpkjgbaa
/- THE CELL 'sum', in the pinned program and in every row, IS THE sha256 OF THE DUMP (.gsa) THAT YtfpkfbffpkjgbaaProg.lean LOADS. Nothing in Lean hashes anything: it is a label: what it is worth is what the hold of that sum in a sandbox is worth. -/
noncomputable def Try.pinned : Pinned := { name := "ytfpkfbffpkjgbaa", sum := "22ecf272e729835802499b856c6d4cd2a7dbc66260fd916f8058795b6ca9518f", checked := Try.checked }
namespace Rows
def none {H : Type} : Left H := { results := [], args := [] }

/-- 'folkmootkeep.MergeAlgebra': WHATEVER THE INPUT: true; the input reads as it did. -/
def mergeAlgebraSpec : ChangeSpec := { name := "mergeAlgebra", fn := fun _ => fun
  | [d1, d2, d3, d4] => { results := [.lit (.bool true)], args := [d1, d2, d3, d4] }
  | _ => none }
def mergeAlgebraRow : OpenClaim := { program := "ytfpkfbffpkjgbaa", sum := "22ecf272e729835802499b856c6d4cd2a7dbc66260fd916f8058795b6ca9518f", func := "folkmoot/folkmootkeep.MergeAlgebra", spec := "mergeAlgebra", unfollowed := true, recurses := true, apart := false }
def MergeAlgebraSaid : Prop := mergeAlgebraRow.holds Try.pinned (OpenSpec.ofChange mergeAlgebraSpec)

/-- ITS FALSE NEIGHBOUR: 'it returns false'. Refute it at one input. -/
def mergeAlgebraWrong : ChangeSpec := { name := "mergeAlgebra", fn := fun _ => fun
  | [d1, d2, d3, d4] => { results := [.lit (.bool false)], args := [d1, d2, d3, d4] }
  | _ => none }
def MergeAlgebraWrongFalsely : Prop := mergeAlgebraRow.holds Try.pinned (OpenSpec.ofChange mergeAlgebraWrong)

/-- 'folkmootkeep.MergeMeets': WHATEVER THE INPUT: true; the input reads as it did. -/
def mergeMeetsSpec : ChangeSpec := { name := "mergeMeets", fn := fun _ => fun
  | [d1, d2] => { results := [.lit (.bool true)], args := [d1, d2] }
  | _ => none }
def mergeMeetsRow : OpenClaim := { program := "ytfpkfbffpkjgbaa", sum := "22ecf272e729835802499b856c6d4cd2a7dbc66260fd916f8058795b6ca9518f", func := "folkmoot/folkmootkeep.MergeMeets", spec := "mergeMeets", unfollowed := true, recurses := true, apart := false }
def MergeMeetsSaid : Prop := mergeMeetsRow.holds Try.pinned (OpenSpec.ofChange mergeMeetsSpec)

/-- ITS FALSE NEIGHBOUR: 'it returns false'. Refute it at one input. -/
def mergeMeetsWrong : ChangeSpec := { name := "mergeMeets", fn := fun _ => fun
  | [d1, d2] => { results := [.lit (.bool false)], args := [d1, d2] }
  | _ => none }
def MergeMeetsWrongFalsely : Prop := mergeMeetsRow.holds Try.pinned (OpenSpec.ofChange mergeMeetsWrong)

/-- 'folkmootkeep.MergeCounts': WHATEVER THE INPUT: true; the input reads as it did. -/
def mergeCountsSpec : ChangeSpec := { name := "mergeCounts", fn := fun _ => fun
  | [d1, d2] => { results := [.lit (.bool true)], args := [d1, d2] }
  | _ => none }
def mergeCountsRow : OpenClaim := { program := "ytfpkfbffpkjgbaa", sum := "22ecf272e729835802499b856c6d4cd2a7dbc66260fd916f8058795b6ca9518f", func := "folkmoot/folkmootkeep.MergeCounts", spec := "mergeCounts", unfollowed := true, recurses := true, apart := false }
def MergeCountsSaid : Prop := mergeCountsRow.holds Try.pinned (OpenSpec.ofChange mergeCountsSpec)

/-- ITS FALSE NEIGHBOUR: 'it returns false'. Refute it at one input. -/
def mergeCountsWrong : ChangeSpec := { name := "mergeCounts", fn := fun _ => fun
  | [d1, d2] => { results := [.lit (.bool false)], args := [d1, d2] }
  | _ => none }
def MergeCountsWrongFalsely : Prop := mergeCountsRow.holds Try.pinned (OpenSpec.ofChange mergeCountsWrong)

/-- 'folkmootkeep.MergeLast': WHATEVER THE INPUT: true; the input reads as it did. -/
def mergeLastSpec : ChangeSpec := { name := "mergeLast", fn := fun _ => fun
  | [d1, d2] => { results := [.lit (.bool true)], args := [d1, d2] }
  | _ => none }
def mergeLastRow : OpenClaim := { program := "ytfpkfbffpkjgbaa", sum := "22ecf272e729835802499b856c6d4cd2a7dbc66260fd916f8058795b6ca9518f", func := "folkmoot/folkmootkeep.MergeLast", spec := "mergeLast", unfollowed := true, recurses := true, apart := false }
def MergeLastSaid : Prop := mergeLastRow.holds Try.pinned (OpenSpec.ofChange mergeLastSpec)

/-- ITS FALSE NEIGHBOUR: 'it returns false'. Refute it at one input. -/
def mergeLastWrong : ChangeSpec := { name := "mergeLast", fn := fun _ => fun
  | [d1, d2] => { results := [.lit (.bool false)], args := [d1, d2] }
  | _ => none }
def MergeLastWrongFalsely : Prop := mergeLastRow.holds Try.pinned (OpenSpec.ofChange mergeLastWrong)

/-- 'folkmootkeep.MergeSwap': WHATEVER THE INPUT: true; the input reads as it did. -/
def mergeSwapSpec : ChangeSpec := { name := "mergeSwap", fn := fun _ => fun
  | [d1, d2, d3] => { results := [.lit (.bool true)], args := [d1, d2, d3] }
  | _ => none }
def mergeSwapRow : OpenClaim := { program := "ytfpkfbffpkjgbaa", sum := "22ecf272e729835802499b856c6d4cd2a7dbc66260fd916f8058795b6ca9518f", func := "folkmoot/folkmootkeep.MergeSwap", spec := "mergeSwap", unfollowed := true, recurses := true, apart := false }
def MergeSwapSaid : Prop := mergeSwapRow.holds Try.pinned (OpenSpec.ofChange mergeSwapSpec)

/-- ITS FALSE NEIGHBOUR: 'it returns false'. Refute it at one input. -/
def mergeSwapWrong : ChangeSpec := { name := "mergeSwap", fn := fun _ => fun
  | [d1, d2, d3] => { results := [.lit (.bool false)], args := [d1, d2, d3] }
  | _ => none }
def MergeSwapWrongFalsely : Prop := mergeSwapRow.holds Try.pinned (OpenSpec.ofChange mergeSwapWrong)

/-- 'folkmootkeep.MergeAdds': WHATEVER THE INPUT: true; the input reads as it did. -/
def mergeAddsSpec : ChangeSpec := { name := "mergeAdds", fn := fun _ => fun
  | [d1, d2, d3] => { results := [.lit (.bool true)], args := [d1, d2, d3] }
  | _ => none }
def mergeAddsRow : OpenClaim := { program := "ytfpkfbffpkjgbaa", sum := "22ecf272e729835802499b856c6d4cd2a7dbc66260fd916f8058795b6ca9518f", func := "folkmoot/folkmootkeep.MergeAdds", spec := "mergeAdds", unfollowed := true, recurses := true, apart := false }
def MergeAddsSaid : Prop := mergeAddsRow.holds Try.pinned (OpenSpec.ofChange mergeAddsSpec)

/-- ITS FALSE NEIGHBOUR: 'it returns false'. Refute it at one input. -/
def mergeAddsWrong : ChangeSpec := { name := "mergeAdds", fn := fun _ => fun
  | [d1, d2, d3] => { results := [.lit (.bool false)], args := [d1, d2, d3] }
  | _ => none }
def MergeAddsWrongFalsely : Prop := mergeAddsRow.holds Try.pinned (OpenSpec.ofChange mergeAddsWrong)

/- THE SECOND FORM. 'bulk': how many values and letters a reading holds, each counted each time it is reached (what is shared counts as often as it is met; a slice's spare places count too). A statement '..UptoSaid' is the law's where the arguments, and the package variables that the reading takes, are together of bulk at most 1048576: NARROWER than '..Said'. Prove '..Said' where nothing that the law and all that it calls make is longer than what came in: it says more and counts as full. Else prove '..UptoSaid'. A law counts once. -/
mutual
def uptoBulk {H : Type} : DataW H → Nat
  | .lit (.string bytes) => bytes.length + 1
  | .lit _ => 1
  | .nil => 1
  | .ptr d => uptoBulk d + 1
  | .slice elems spare => uptoBulkAll elems + uptoBulkAll spare + 1
  | .agg parts => uptoBulkAll parts + 1
  | .iface _ d => uptoBulk d + 1
  | .map entries => uptoBulkEntries entries + 1
  | .held _ => 1
def uptoBulkAll {H : Type} : List (DataW H) → Nat
  | [] => 0
  | d :: r => uptoBulk d + uptoBulkAll r
def uptoBulkEntries {H : Type} : List (Lit × DataW H) → Nat
  | [] => 0
  | x :: r => uptoBulkEntry x + uptoBulkEntries r
def uptoBulkEntry {H : Type} : Lit × DataW H → Nat
  | (.string bytes, d) => bytes.length + uptoBulk d + 1
  | (_, d) => uptoBulk d + 1
 end
def uptoSmall : (H : Type) → List (DataW H) → Bool := fun _ ds => decide (uptoBulkAll ds ≤ 1048576)
def OpenSpec.upto (s : _root_.Go.ChangeSpec) : _root_.Go.OpenSpec := { _root_.Go.OpenSpec.ofChange s with cond := some uptoSmall }

/-- 'folkmootkeep.MergeAlgebra', WHERE WHAT IT READS IS OF BULK AT MOST 1048576: true; the input reads as it did. -/
def mergeAlgebraUptoRow : OpenClaim := { program := "ytfpkfbffpkjgbaa", sum := "22ecf272e729835802499b856c6d4cd2a7dbc66260fd916f8058795b6ca9518f", func := "folkmoot/folkmootkeep.MergeAlgebra", spec := "mergeAlgebra", unfollowed := true, recurses := true, apart := false, narrowed := true }
def MergeAlgebraUptoSaid : Prop := mergeAlgebraUptoRow.holds Try.pinned (OpenSpec.upto mergeAlgebraSpec)

/-- 'folkmootkeep.MergeMeets', WHERE WHAT IT READS IS OF BULK AT MOST 1048576: true; the input reads as it did. -/
def mergeMeetsUptoRow : OpenClaim := { program := "ytfpkfbffpkjgbaa", sum := "22ecf272e729835802499b856c6d4cd2a7dbc66260fd916f8058795b6ca9518f", func := "folkmoot/folkmootkeep.MergeMeets", spec := "mergeMeets", unfollowed := true, recurses := true, apart := false, narrowed := true }
def MergeMeetsUptoSaid : Prop := mergeMeetsUptoRow.holds Try.pinned (OpenSpec.upto mergeMeetsSpec)

/-- 'folkmootkeep.MergeCounts', WHERE WHAT IT READS IS OF BULK AT MOST 1048576: true; the input reads as it did. -/
def mergeCountsUptoRow : OpenClaim := { program := "ytfpkfbffpkjgbaa", sum := "22ecf272e729835802499b856c6d4cd2a7dbc66260fd916f8058795b6ca9518f", func := "folkmoot/folkmootkeep.MergeCounts", spec := "mergeCounts", unfollowed := true, recurses := true, apart := false, narrowed := true }
def MergeCountsUptoSaid : Prop := mergeCountsUptoRow.holds Try.pinned (OpenSpec.upto mergeCountsSpec)

/-- 'folkmootkeep.MergeLast', WHERE WHAT IT READS IS OF BULK AT MOST 1048576: true; the input reads as it did. -/
def mergeLastUptoRow : OpenClaim := { program := "ytfpkfbffpkjgbaa", sum := "22ecf272e729835802499b856c6d4cd2a7dbc66260fd916f8058795b6ca9518f", func := "folkmoot/folkmootkeep.MergeLast", spec := "mergeLast", unfollowed := true, recurses := true, apart := false, narrowed := true }
def MergeLastUptoSaid : Prop := mergeLastUptoRow.holds Try.pinned (OpenSpec.upto mergeLastSpec)

/-- 'folkmootkeep.MergeSwap', WHERE WHAT IT READS IS OF BULK AT MOST 1048576: true; the input reads as it did. -/
def mergeSwapUptoRow : OpenClaim := { program := "ytfpkfbffpkjgbaa", sum := "22ecf272e729835802499b856c6d4cd2a7dbc66260fd916f8058795b6ca9518f", func := "folkmoot/folkmootkeep.MergeSwap", spec := "mergeSwap", unfollowed := true, recurses := true, apart := false, narrowed := true }
def MergeSwapUptoSaid : Prop := mergeSwapUptoRow.holds Try.pinned (OpenSpec.upto mergeSwapSpec)

/-- 'folkmootkeep.MergeAdds', WHERE WHAT IT READS IS OF BULK AT MOST 1048576: true; the input reads as it did. -/
def mergeAddsUptoRow : OpenClaim := { program := "ytfpkfbffpkjgbaa", sum := "22ecf272e729835802499b856c6d4cd2a7dbc66260fd916f8058795b6ca9518f", func := "folkmoot/folkmootkeep.MergeAdds", spec := "mergeAdds", unfollowed := true, recurses := true, apart := false, narrowed := true }
def MergeAddsUptoSaid : Prop := mergeAddsUptoRow.holds Try.pinned (OpenSpec.upto mergeAddsSpec)

end Rows
end Go.Proofs.Ytfpkfbffpkjgbaa
