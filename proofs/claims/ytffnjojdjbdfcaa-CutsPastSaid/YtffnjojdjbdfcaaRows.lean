/-
  No cell of these rows narrows 'for every input' (looked for: loops, veiled, ifaces, maps, wideKeys, modest, calm, conditions, laid).
  DERIVED. THE GIVEN ROWS OF THIS SEAT. 5 by the template 'for every input the law returns true; each argument reads behind the call as it read before'; 0 by the template 'total and deterministic' (their statements: YtffnjojdjbdfcaaTotals.lean).
  GIVEN WITH THE SEED: the statements are not yours to turn. If you find one false, say at which input.
  Laid BY PROGRAM, IN A SANDBOX (cutbox-rows.mjs): the forced cells as the released guide's own fill.sh prints them over the translation 8702eb412a6b1dcc… (all of the seat's roots in one cut). By AI agents, Wed Nov 11 2026. No macro, syntax, notation, axiom, sorry.
-/
import Derived.Test.YtffnjojdjbdfcaaChecked
import GoSem.Claim
import GoSem.ClaimJoined
import GoSem.ClaimMapViews
import Derived.JoinedTies
import Derived.KernelRfl
namespace Go.Proofs.Ytffnjojdjbdfcaa
/- THE CELL 'sum', in the pinned program and in every row, IS THE sha256 OF THE DUMP (.gsa) THAT YtffnjojdjbdfcaaProg.lean LOADS. Nothing in Lean hashes anything: it is a label: what it is worth is what the hold of that sum in a sandbox is worth. -/
noncomputable def Try.pinned : Pinned := { name := "ytffnjojdjbdfcaa", sum := "8702eb412a6b1dcc4bbb0129a2030556938fe6e6df7f9dd125f14ffc213c9179", checked := Try.checked }
namespace Rows
def none {H : Type} : Left H := { results := [], args := [] }

/-- 'folkmootkeep.CutsLattice': WHATEVER THE INPUT: true; the input reads as it did. -/
def cutsLatticeSpec : ChangeSpec := { name := "cutsLattice", fn := fun _ => fun
  | [d1, d2, d3, d4] => { results := [.lit (.bool true)], args := [d1, d2, d3, d4] }
  | _ => none }
def cutsLatticeRow : OpenClaim := { program := "ytffnjojdjbdfcaa", sum := "8702eb412a6b1dcc4bbb0129a2030556938fe6e6df7f9dd125f14ffc213c9179", func := "folkmoot/folkmootkeep.CutsLattice", spec := "cutsLattice", apart := false }
def CutsLatticeSaid : Prop := cutsLatticeRow.holds Try.pinned (OpenSpec.ofChange cutsLatticeSpec)

/-- ITS FALSE NEIGHBOUR: 'it returns false'. Refute it at one input. -/
def cutsLatticeWrong : ChangeSpec := { name := "cutsLattice", fn := fun _ => fun
  | [d1, d2, d3, d4] => { results := [.lit (.bool false)], args := [d1, d2, d3, d4] }
  | _ => none }
def CutsLatticeWrongFalsely : Prop := cutsLatticeRow.holds Try.pinned (OpenSpec.ofChange cutsLatticeWrong)

/-- 'folkmootkeep.CutsClosest': WHATEVER THE INPUT: true; the input reads as it did. -/
def cutsClosestSpec : ChangeSpec := { name := "cutsClosest", fn := fun _ => fun
  | [d1, d2, d3, d4] => { results := [.lit (.bool true)], args := [d1, d2, d3, d4] }
  | _ => none }
def cutsClosestRow : OpenClaim := { program := "ytffnjojdjbdfcaa", sum := "8702eb412a6b1dcc4bbb0129a2030556938fe6e6df7f9dd125f14ffc213c9179", func := "folkmoot/folkmootkeep.CutsClosest", spec := "cutsClosest", unfollowed := true, recurses := true, apart := false }
def CutsClosestSaid : Prop := cutsClosestRow.holds Try.pinned (OpenSpec.ofChange cutsClosestSpec)

/-- ITS FALSE NEIGHBOUR: 'it returns false'. Refute it at one input. -/
def cutsClosestWrong : ChangeSpec := { name := "cutsClosest", fn := fun _ => fun
  | [d1, d2, d3, d4] => { results := [.lit (.bool false)], args := [d1, d2, d3, d4] }
  | _ => none }
def CutsClosestWrongFalsely : Prop := cutsClosestRow.holds Try.pinned (OpenSpec.ofChange cutsClosestWrong)

/-- 'folkmootkeep.CutsStep': WHATEVER THE INPUT: true; the input reads as it did. -/
def cutsStepSpec : ChangeSpec := { name := "cutsStep", fn := fun _ => fun
  | [d1, d2, d3, d4] => { results := [.lit (.bool true)], args := [d1, d2, d3, d4] }
  | _ => none }
def cutsStepRow : OpenClaim := { program := "ytffnjojdjbdfcaa", sum := "8702eb412a6b1dcc4bbb0129a2030556938fe6e6df7f9dd125f14ffc213c9179", func := "folkmoot/folkmootkeep.CutsStep", spec := "cutsStep", unfollowed := true, recurses := true, apart := false }
def CutsStepSaid : Prop := cutsStepRow.holds Try.pinned (OpenSpec.ofChange cutsStepSpec)

/-- ITS FALSE NEIGHBOUR: 'it returns false'. Refute it at one input. -/
def cutsStepWrong : ChangeSpec := { name := "cutsStep", fn := fun _ => fun
  | [d1, d2, d3, d4] => { results := [.lit (.bool false)], args := [d1, d2, d3, d4] }
  | _ => none }
def CutsStepWrongFalsely : Prop := cutsStepRow.holds Try.pinned (OpenSpec.ofChange cutsStepWrong)

/-- 'folkmootkeep.CutsEnds': WHATEVER THE INPUT: true; the input reads as it did. -/
def cutsEndsSpec : ChangeSpec := { name := "cutsEnds", fn := fun _ => fun
  | [d1, d2] => { results := [.lit (.bool true)], args := [d1, d2] }
  | _ => none }
def cutsEndsRow : OpenClaim := { program := "ytffnjojdjbdfcaa", sum := "8702eb412a6b1dcc4bbb0129a2030556938fe6e6df7f9dd125f14ffc213c9179", func := "folkmoot/folkmootkeep.CutsEnds", spec := "cutsEnds", unfollowed := true, recurses := true, apart := false }
def CutsEndsSaid : Prop := cutsEndsRow.holds Try.pinned (OpenSpec.ofChange cutsEndsSpec)

/-- ITS FALSE NEIGHBOUR: 'it returns false'. Refute it at one input. -/
def cutsEndsWrong : ChangeSpec := { name := "cutsEnds", fn := fun _ => fun
  | [d1, d2] => { results := [.lit (.bool false)], args := [d1, d2] }
  | _ => none }
def CutsEndsWrongFalsely : Prop := cutsEndsRow.holds Try.pinned (OpenSpec.ofChange cutsEndsWrong)

/-- 'folkmootkeep.CutsPast': WHATEVER THE INPUT: true; the input reads as it did. -/
def cutsPastSpec : ChangeSpec := { name := "cutsPast", fn := fun _ => fun
  | [d1, d2, d3] => { results := [.lit (.bool true)], args := [d1, d2, d3] }
  | _ => none }
def cutsPastRow : OpenClaim := { program := "ytffnjojdjbdfcaa", sum := "8702eb412a6b1dcc4bbb0129a2030556938fe6e6df7f9dd125f14ffc213c9179", func := "folkmoot/folkmootkeep.CutsPast", spec := "cutsPast", unfollowed := true, recurses := true, apart := false }
def CutsPastSaid : Prop := cutsPastRow.holds Try.pinned (OpenSpec.ofChange cutsPastSpec)

/-- ITS FALSE NEIGHBOUR: 'it returns false'. Refute it at one input. -/
def cutsPastWrong : ChangeSpec := { name := "cutsPast", fn := fun _ => fun
  | [d1, d2, d3] => { results := [.lit (.bool false)], args := [d1, d2, d3] }
  | _ => none }
def CutsPastWrongFalsely : Prop := cutsPastRow.holds Try.pinned (OpenSpec.ofChange cutsPastWrong)

/- THE SECOND FORM. 'bulk': how many values and letters a reading holds, each counted each time it is reached (what is shared counts as often as it is met; a slice's spare places count too). A statement '..UptoSaid' is the law's where the arguments, and the package variables that the reading takes, are together of bulk at most 1048576: NARROWER than '..Said'. Prove '..Said' where nothing that the law and all that it calls make is longer than what came in: it says more and counts as full. Else prove '..UptoSaid'. A law counts once. -/
mutual
def uptoBulk {H : Type} : DataW H → Nat
  | .lit (.string bytes) => bytes.length + 1
  | .lit _ => 1
  | .nil => 1
  | .ptr d => uptoBulk d + 1
  | .slice elems spare => uptoBulkAll elems + uptoBulkAll spare + 1
  | .agg parts => uptoBulkAll parts + 1
  | .iface _ d => uptoBulk d + 1
  | .map entries => uptoBulkEntries entries + 1
  | .held _ => 1
def uptoBulkAll {H : Type} : List (DataW H) → Nat
  | [] => 0
  | d :: r => uptoBulk d + uptoBulkAll r
def uptoBulkEntries {H : Type} : List (Lit × DataW H) → Nat
  | [] => 0
  | x :: r => uptoBulkEntry x + uptoBulkEntries r
def uptoBulkEntry {H : Type} : Lit × DataW H → Nat
  | (.string bytes, d) => bytes.length + uptoBulk d + 1
  | (_, d) => uptoBulk d + 1
 end
def uptoSmall : (H : Type) → List (DataW H) → Bool := fun _ ds => decide (uptoBulkAll ds ≤ 1048576)
def OpenSpec.upto (s : _root_.Go.ChangeSpec) : _root_.Go.OpenSpec := { _root_.Go.OpenSpec.ofChange s with cond := some uptoSmall }

/-- 'folkmootkeep.CutsLattice', WHERE WHAT IT READS IS OF BULK AT MOST 1048576: true; the input reads as it did. -/
def cutsLatticeUptoRow : OpenClaim := { program := "ytffnjojdjbdfcaa", sum := "8702eb412a6b1dcc4bbb0129a2030556938fe6e6df7f9dd125f14ffc213c9179", func := "folkmoot/folkmootkeep.CutsLattice", spec := "cutsLattice", apart := false, narrowed := true }
def CutsLatticeUptoSaid : Prop := cutsLatticeUptoRow.holds Try.pinned (OpenSpec.upto cutsLatticeSpec)

/-- 'folkmootkeep.CutsClosest', WHERE WHAT IT READS IS OF BULK AT MOST 1048576: true; the input reads as it did. -/
def cutsClosestUptoRow : OpenClaim := { program := "ytffnjojdjbdfcaa", sum := "8702eb412a6b1dcc4bbb0129a2030556938fe6e6df7f9dd125f14ffc213c9179", func := "folkmoot/folkmootkeep.CutsClosest", spec := "cutsClosest", unfollowed := true, recurses := true, apart := false, narrowed := true }
def CutsClosestUptoSaid : Prop := cutsClosestUptoRow.holds Try.pinned (OpenSpec.upto cutsClosestSpec)

/-- 'folkmootkeep.CutsStep', WHERE WHAT IT READS IS OF BULK AT MOST 1048576: true; the input reads as it did. -/
def cutsStepUptoRow : OpenClaim := { program := "ytffnjojdjbdfcaa", sum := "8702eb412a6b1dcc4bbb0129a2030556938fe6e6df7f9dd125f14ffc213c9179", func := "folkmoot/folkmootkeep.CutsStep", spec := "cutsStep", unfollowed := true, recurses := true, apart := false, narrowed := true }
def CutsStepUptoSaid : Prop := cutsStepUptoRow.holds Try.pinned (OpenSpec.upto cutsStepSpec)

/-- 'folkmootkeep.CutsEnds', WHERE WHAT IT READS IS OF BULK AT MOST 1048576: true; the input reads as it did. -/
def cutsEndsUptoRow : OpenClaim := { program := "ytffnjojdjbdfcaa", sum := "8702eb412a6b1dcc4bbb0129a2030556938fe6e6df7f9dd125f14ffc213c9179", func := "folkmoot/folkmootkeep.CutsEnds", spec := "cutsEnds", unfollowed := true, recurses := true, apart := false, narrowed := true }
def CutsEndsUptoSaid : Prop := cutsEndsUptoRow.holds Try.pinned (OpenSpec.upto cutsEndsSpec)

/-- 'folkmootkeep.CutsPast', WHERE WHAT IT READS IS OF BULK AT MOST 1048576: true; the input reads as it did. -/
def cutsPastUptoRow : OpenClaim := { program := "ytffnjojdjbdfcaa", sum := "8702eb412a6b1dcc4bbb0129a2030556938fe6e6df7f9dd125f14ffc213c9179", func := "folkmoot/folkmootkeep.CutsPast", spec := "cutsPast", unfollowed := true, recurses := true, apart := false, narrowed := true }
def CutsPastUptoSaid : Prop := cutsPastUptoRow.holds Try.pinned (OpenSpec.upto cutsPastSpec)

end Rows
end Go.Proofs.Ytffnjojdjbdfcaa
