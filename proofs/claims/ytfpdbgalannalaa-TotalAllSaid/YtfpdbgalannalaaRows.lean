/-
  No cell of these rows narrows 'for every input' (looked for: loops, veiled, ifaces, maps, wideKeys, modest, calm, conditions, laid).
  DERIVED. THE GIVEN ROWS OF THIS SEAT. 4 by the template 'for every input the law returns true; each argument reads behind the call as it read before'; 0 by the template 'total and deterministic' (their statements: YtfpdbgalannalaaTotals.lean).
  GIVEN WITH THE SEED: the statements are not yours to turn. If you find one false, say at which input.
  Laid BY PROGRAM, IN A SANDBOX (cutbox-rows.mjs): the forced cells as the released guide's own fill.sh prints them over the translation ec5c21408ee4be4d… (all of the seat's roots in one cut). By AI agents, Wed Nov 11 2026. No macro, syntax, notation, axiom, sorry.
-/
import Derived.Test.YtfpdbgalannalaaChecked
import GoSem.Claim
import GoSem.ClaimJoined
import GoSem.ClaimMapViews
import Derived.JoinedTies
import Derived.KernelRfl
namespace Go.Proofs.Ytfpdbgalannalaa
/- THE CELL 'sum', in the pinned program and in every row, IS THE sha256 OF THE DUMP (.gsa) THAT YtfpdbgalannalaaProg.lean LOADS. Nothing in Lean hashes anything: it is a label: what it is worth is what the hold of that sum in a sandbox is worth. -/
noncomputable def Try.pinned : Pinned := { name := "ytfpdbgalannalaa", sum := "ec5c21408ee4be4d1f5dc5f8bc29ae7bd624b2455f585d28d87d85c62e81b4d3", checked := Try.checked }
namespace Rows
def none {H : Type} : Left H := { results := [], args := [] }

/-- 'folkmootkeep.TotalSame': WHATEVER THE INPUT: true; the input reads as it did. -/
def totalSameSpec : ChangeSpec := { name := "totalSame", fn := fun _ => fun
  | [d1, d2] => { results := [.lit (.bool true)], args := [d1, d2] }
  | _ => none }
def totalSameRow : OpenClaim := { program := "ytfpdbgalannalaa", sum := "ec5c21408ee4be4d1f5dc5f8bc29ae7bd624b2455f585d28d87d85c62e81b4d3", func := "folkmoot/folkmootkeep.TotalSame", spec := "totalSame", apart := false }
def TotalSameSaid : Prop := totalSameRow.holds Try.pinned (OpenSpec.ofChange totalSameSpec)

/-- ITS FALSE NEIGHBOUR: 'it returns false'. Refute it at one input. -/
def totalSameWrong : ChangeSpec := { name := "totalSame", fn := fun _ => fun
  | [d1, d2] => { results := [.lit (.bool false)], args := [d1, d2] }
  | _ => none }
def TotalSameWrongFalsely : Prop := totalSameRow.holds Try.pinned (OpenSpec.ofChange totalSameWrong)

/-- 'folkmootkeep.TotalAll': WHATEVER THE INPUT: true; the input reads as it did. -/
def totalAllSpec : ChangeSpec := { name := "totalAll", fn := fun _ => fun
  | [d1, d2] => { results := [.lit (.bool true)], args := [d1, d2] }
  | _ => none }
def totalAllRow : OpenClaim := { program := "ytfpdbgalannalaa", sum := "ec5c21408ee4be4d1f5dc5f8bc29ae7bd624b2455f585d28d87d85c62e81b4d3", func := "folkmoot/folkmootkeep.TotalAll", spec := "totalAll", apart := false }
def TotalAllSaid : Prop := totalAllRow.holds Try.pinned (OpenSpec.ofChange totalAllSpec)

/-- ITS FALSE NEIGHBOUR: 'it returns false'. Refute it at one input. -/
def totalAllWrong : ChangeSpec := { name := "totalAll", fn := fun _ => fun
  | [d1, d2] => { results := [.lit (.bool false)], args := [d1, d2] }
  | _ => none }
def TotalAllWrongFalsely : Prop := totalAllRow.holds Try.pinned (OpenSpec.ofChange totalAllWrong)

/-- 'folkmootkeep.TotalFront': WHATEVER THE INPUT: true; the input reads as it did. -/
def totalFrontSpec : ChangeSpec := { name := "totalFront", fn := fun _ => fun
  | [d1, d2, d3] => { results := [.lit (.bool true)], args := [d1, d2, d3] }
  | _ => none }
def totalFrontRow : OpenClaim := { program := "ytfpdbgalannalaa", sum := "ec5c21408ee4be4d1f5dc5f8bc29ae7bd624b2455f585d28d87d85c62e81b4d3", func := "folkmoot/folkmootkeep.TotalFront", spec := "totalFront", apart := false }
def TotalFrontSaid : Prop := totalFrontRow.holds Try.pinned (OpenSpec.ofChange totalFrontSpec)

/-- ITS FALSE NEIGHBOUR: 'it returns false'. Refute it at one input. -/
def totalFrontWrong : ChangeSpec := { name := "totalFront", fn := fun _ => fun
  | [d1, d2, d3] => { results := [.lit (.bool false)], args := [d1, d2, d3] }
  | _ => none }
def TotalFrontWrongFalsely : Prop := totalFrontRow.holds Try.pinned (OpenSpec.ofChange totalFrontWrong)

/-- 'folkmootkeep.TotalTold': WHATEVER THE INPUT: true; the input reads as it did. -/
def totalToldSpec : ChangeSpec := { name := "totalTold", fn := fun _ => fun
  | [d1, d2] => { results := [.lit (.bool true)], args := [d1, d2] }
  | _ => none }
def totalToldRow : OpenClaim := { program := "ytfpdbgalannalaa", sum := "ec5c21408ee4be4d1f5dc5f8bc29ae7bd624b2455f585d28d87d85c62e81b4d3", func := "folkmoot/folkmootkeep.TotalTold", spec := "totalTold", apart := false }
def TotalToldSaid : Prop := totalToldRow.holds Try.pinned (OpenSpec.ofChange totalToldSpec)

/-- ITS FALSE NEIGHBOUR: 'it returns false'. Refute it at one input. -/
def totalToldWrong : ChangeSpec := { name := "totalTold", fn := fun _ => fun
  | [d1, d2] => { results := [.lit (.bool false)], args := [d1, d2] }
  | _ => none }
def TotalToldWrongFalsely : Prop := totalToldRow.holds Try.pinned (OpenSpec.ofChange totalToldWrong)

/- THE SECOND FORM. 'bulk': how many values and letters a reading holds, each counted each time it is reached (what is shared counts as often as it is met; a slice's spare places count too). A statement '..UptoSaid' is the law's where the arguments, and the package variables that the reading takes, are together of bulk at most 1048576: NARROWER than '..Said'. Prove '..Said' where nothing that the law and all that it calls make is longer than what came in: it says more and counts as full. Else prove '..UptoSaid'. A law counts once. -/
mutual
def uptoBulk {H : Type} : DataW H → Nat
  | .lit (.string bytes) => bytes.length + 1
  | .lit _ => 1
  | .nil => 1
  | .ptr d => uptoBulk d + 1
  | .slice elems spare => uptoBulkAll elems + uptoBulkAll spare + 1
  | .agg parts => uptoBulkAll parts + 1
  | .iface _ d => uptoBulk d + 1
  | .map entries => uptoBulkEntries entries + 1
  | .held _ => 1
def uptoBulkAll {H : Type} : List (DataW H) → Nat
  | [] => 0
  | d :: r => uptoBulk d + uptoBulkAll r
def uptoBulkEntries {H : Type} : List (Lit × DataW H) → Nat
  | [] => 0
  | x :: r => uptoBulkEntry x + uptoBulkEntries r
def uptoBulkEntry {H : Type} : Lit × DataW H → Nat
  | (.string bytes, d) => bytes.length + uptoBulk d + 1
  | (_, d) => uptoBulk d + 1
 end
def uptoSmall : (H : Type) → List (DataW H) → Bool := fun _ ds => decide (uptoBulkAll ds ≤ 1048576)
def OpenSpec.upto (s : _root_.Go.ChangeSpec) : _root_.Go.OpenSpec := { _root_.Go.OpenSpec.ofChange s with cond := some uptoSmall }

/-- 'folkmootkeep.TotalSame', WHERE WHAT IT READS IS OF BULK AT MOST 1048576: true; the input reads as it did. -/
def totalSameUptoRow : OpenClaim := { program := "ytfpdbgalannalaa", sum := "ec5c21408ee4be4d1f5dc5f8bc29ae7bd624b2455f585d28d87d85c62e81b4d3", func := "folkmoot/folkmootkeep.TotalSame", spec := "totalSame", apart := false, narrowed := true }
def TotalSameUptoSaid : Prop := totalSameUptoRow.holds Try.pinned (OpenSpec.upto totalSameSpec)

/-- 'folkmootkeep.TotalAll', WHERE WHAT IT READS IS OF BULK AT MOST 1048576: true; the input reads as it did. -/
def totalAllUptoRow : OpenClaim := { program := "ytfpdbgalannalaa", sum := "ec5c21408ee4be4d1f5dc5f8bc29ae7bd624b2455f585d28d87d85c62e81b4d3", func := "folkmoot/folkmootkeep.TotalAll", spec := "totalAll", apart := false, narrowed := true }
def TotalAllUptoSaid : Prop := totalAllUptoRow.holds Try.pinned (OpenSpec.upto totalAllSpec)

/-- 'folkmootkeep.TotalFront', WHERE WHAT IT READS IS OF BULK AT MOST 1048576: true; the input reads as it did. -/
def totalFrontUptoRow : OpenClaim := { program := "ytfpdbgalannalaa", sum := "ec5c21408ee4be4d1f5dc5f8bc29ae7bd624b2455f585d28d87d85c62e81b4d3", func := "folkmoot/folkmootkeep.TotalFront", spec := "totalFront", apart := false, narrowed := true }
def TotalFrontUptoSaid : Prop := totalFrontUptoRow.holds Try.pinned (OpenSpec.upto totalFrontSpec)

/-- 'folkmootkeep.TotalTold', WHERE WHAT IT READS IS OF BULK AT MOST 1048576: true; the input reads as it did. -/
def totalToldUptoRow : OpenClaim := { program := "ytfpdbgalannalaa", sum := "ec5c21408ee4be4d1f5dc5f8bc29ae7bd624b2455f585d28d87d85c62e81b4d3", func := "folkmoot/folkmootkeep.TotalTold", spec := "totalTold", apart := false, narrowed := true }
def TotalToldUptoSaid : Prop := totalToldUptoRow.holds Try.pinned (OpenSpec.upto totalToldSpec)

end Rows
end Go.Proofs.Ytfpdbgalannalaa
