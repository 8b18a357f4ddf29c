/-
  No cell of these rows narrows 'for every input' (looked for: loops, veiled, ifaces, maps, wideKeys, modest, calm, conditions, laid).
  DERIVED. THE GIVEN ROWS OF THIS SEAT. 5 by the template 'for every input the law returns true; each argument reads behind the call as it read before'; 0 by the template 'total and deterministic' (their statements: YtjiefamdpbnngaaTotals.lean).
  GIVEN WITH THE SEED: the statements are not yours to turn. If you find one false, say at which input.
  Laid BY PROGRAM, IN A SANDBOX (cutbox-rows.mjs): the forced cells as the released guide's own fill.sh prints them over the translation 3f49f8ac4a951c70… (all of the seat's roots in one cut). By AI agents, Wed Nov 11 2026. No macro, syntax, notation, axiom, sorry.
-/
import Derived.Test.YtjiefamdpbnngaaChecked
import GoSem.Claim
import GoSem.ClaimJoined
import GoSem.ClaimMapViews
import Derived.JoinedTies
import Derived.KernelRfl
namespace Go.Proofs.Ytjiefamdpbnngaa
/- THE CELL 'sum', in the pinned program and in every row, IS THE sha256 OF THE DUMP (.gsa) THAT YtjiefamdpbnngaaProg.lean LOADS. Nothing in Lean hashes anything: it is a label: what it is worth is what the hold of that sum in a sandbox is worth. -/
noncomputable def Try.pinned : Pinned := { name := "ytjiefamdpbnngaa", sum := "3f49f8ac4a951c703a14d1b120f65edc104b19df2ffd49b9c6f61d14f7557151", checked := Try.checked }
namespace Rows
def none {H : Type} : Left H := { results := [], args := [] }

/-- 'folkmootkeep.RegisterGoes': WHATEVER THE INPUT: true; the input reads as it did. -/
def registerGoesSpec : ChangeSpec := { name := "registerGoes", fn := fun _ => fun
  | [d1, d2] => { results := [.lit (.bool true)], args := [d1, d2] }
  | _ => none }
def registerGoesRow : OpenClaim := { program := "ytjiefamdpbnngaa", sum := "3f49f8ac4a951c703a14d1b120f65edc104b19df2ffd49b9c6f61d14f7557151", func := "folkmoot/folkmootkeep.RegisterGoes", spec := "registerGoes", apart := false }
def RegisterGoesSaid : Prop := registerGoesRow.holds Try.pinned (OpenSpec.ofChange registerGoesSpec)

/-- ITS FALSE NEIGHBOUR: 'it returns false'. Refute it at one input. -/
def registerGoesWrong : ChangeSpec := { name := "registerGoes", fn := fun _ => fun
  | [d1, d2] => { results := [.lit (.bool false)], args := [d1, d2] }
  | _ => none }
def RegisterGoesWrongFalsely : Prop := registerGoesRow.holds Try.pinned (OpenSpec.ofChange registerGoesWrong)

/-- 'folkmootkeep.RegisterLast': WHATEVER THE INPUT: true; the input reads as it did. -/
def registerLastSpec : ChangeSpec := { name := "registerLast", fn := fun _ => fun
  | [d1, d2, d3, d4] => { results := [.lit (.bool true)], args := [d1, d2, d3, d4] }
  | _ => none }
def registerLastRow : OpenClaim := { program := "ytjiefamdpbnngaa", sum := "3f49f8ac4a951c703a14d1b120f65edc104b19df2ffd49b9c6f61d14f7557151", func := "folkmoot/folkmootkeep.RegisterLast", spec := "registerLast", apart := false }
def RegisterLastSaid : Prop := registerLastRow.holds Try.pinned (OpenSpec.ofChange registerLastSpec)

/-- ITS FALSE NEIGHBOUR: 'it returns false'. Refute it at one input. -/
def registerLastWrong : ChangeSpec := { name := "registerLast", fn := fun _ => fun
  | [d1, d2, d3, d4] => { results := [.lit (.bool false)], args := [d1, d2, d3, d4] }
  | _ => none }
def RegisterLastWrongFalsely : Prop := registerLastRow.holds Try.pinned (OpenSpec.ofChange registerLastWrong)

/-- 'folkmootkeep.RegisterFront': WHATEVER THE INPUT: true; the input reads as it did. -/
def registerFrontSpec : ChangeSpec := { name := "registerFront", fn := fun _ => fun
  | [d1, d2, d3] => { results := [.lit (.bool true)], args := [d1, d2, d3] }
  | _ => none }
def registerFrontRow : OpenClaim := { program := "ytjiefamdpbnngaa", sum := "3f49f8ac4a951c703a14d1b120f65edc104b19df2ffd49b9c6f61d14f7557151", func := "folkmoot/folkmootkeep.RegisterFront", spec := "registerFront", apart := false }
def RegisterFrontSaid : Prop := registerFrontRow.holds Try.pinned (OpenSpec.ofChange registerFrontSpec)

/-- ITS FALSE NEIGHBOUR: 'it returns false'. Refute it at one input. -/
def registerFrontWrong : ChangeSpec := { name := "registerFront", fn := fun _ => fun
  | [d1, d2, d3] => { results := [.lit (.bool false)], args := [d1, d2, d3] }
  | _ => none }
def RegisterFrontWrongFalsely : Prop := registerFrontRow.holds Try.pinned (OpenSpec.ofChange registerFrontWrong)

/-- 'folkmootkeep.RegisterFrom': WHATEVER THE INPUT: true; the input reads as it did. -/
def registerFromSpec : ChangeSpec := { name := "registerFrom", fn := fun _ => fun
  | [d1, d2] => { results := [.lit (.bool true)], args := [d1, d2] }
  | _ => none }
def registerFromRow : OpenClaim := { program := "ytjiefamdpbnngaa", sum := "3f49f8ac4a951c703a14d1b120f65edc104b19df2ffd49b9c6f61d14f7557151", func := "folkmoot/folkmootkeep.RegisterFrom", spec := "registerFrom", apart := false }
def RegisterFromSaid : Prop := registerFromRow.holds Try.pinned (OpenSpec.ofChange registerFromSpec)

/-- ITS FALSE NEIGHBOUR: 'it returns false'. Refute it at one input. -/
def registerFromWrong : ChangeSpec := { name := "registerFrom", fn := fun _ => fun
  | [d1, d2] => { results := [.lit (.bool false)], args := [d1, d2] }
  | _ => none }
def RegisterFromWrongFalsely : Prop := registerFromRow.holds Try.pinned (OpenSpec.ofChange registerFromWrong)

/-- 'folkmootkeep.RegisterLinear': WHATEVER THE INPUT: true; the input reads as it did. -/
def registerLinearSpec : ChangeSpec := { name := "registerLinear", fn := fun _ => fun
  | [d1, d2] => { results := [.lit (.bool true)], args := [d1, d2] }
  | _ => none }
def registerLinearRow : OpenClaim := { program := "ytjiefamdpbnngaa", sum := "3f49f8ac4a951c703a14d1b120f65edc104b19df2ffd49b9c6f61d14f7557151", func := "folkmoot/folkmootkeep.RegisterLinear", spec := "registerLinear", recurses := true, apart := false }
def RegisterLinearSaid : Prop := registerLinearRow.holds Try.pinned (OpenSpec.ofChange registerLinearSpec)

/-- ITS FALSE NEIGHBOUR: 'it returns false'. Refute it at one input. -/
def registerLinearWrong : ChangeSpec := { name := "registerLinear", fn := fun _ => fun
  | [d1, d2] => { results := [.lit (.bool false)], args := [d1, d2] }
  | _ => none }
def RegisterLinearWrongFalsely : Prop := registerLinearRow.holds Try.pinned (OpenSpec.ofChange registerLinearWrong)

/- THE SECOND FORM. 'bulk': how many values and letters a reading holds, each counted each time it is reached (what is shared counts as often as it is met; a slice's spare places count too). A statement '..UptoSaid' is the law's where the arguments, and the package variables that the reading takes, are together of bulk at most 1048576: NARROWER than '..Said'. Prove '..Said' where nothing that the law and all that it calls make is longer than what came in: it says more and counts as full. Else prove '..UptoSaid'. A law counts once. -/
mutual
def uptoBulk {H : Type} : DataW H → Nat
  | .lit (.string bytes) => bytes.length + 1
  | .lit _ => 1
  | .nil => 1
  | .ptr d => uptoBulk d + 1
  | .slice elems spare => uptoBulkAll elems + uptoBulkAll spare + 1
  | .agg parts => uptoBulkAll parts + 1
  | .iface _ d => uptoBulk d + 1
  | .map entries => uptoBulkEntries entries + 1
  | .held _ => 1
def uptoBulkAll {H : Type} : List (DataW H) → Nat
  | [] => 0
  | d :: r => uptoBulk d + uptoBulkAll r
def uptoBulkEntries {H : Type} : List (Lit × DataW H) → Nat
  | [] => 0
  | x :: r => uptoBulkEntry x + uptoBulkEntries r
def uptoBulkEntry {H : Type} : Lit × DataW H → Nat
  | (.string bytes, d) => bytes.length + uptoBulk d + 1
  | (_, d) => uptoBulk d + 1
 end
def uptoSmall : (H : Type) → List (DataW H) → Bool := fun _ ds => decide (uptoBulkAll ds ≤ 1048576)
def OpenSpec.upto (s : _root_.Go.ChangeSpec) : _root_.Go.OpenSpec := { _root_.Go.OpenSpec.ofChange s with cond := some uptoSmall }

/-- 'folkmootkeep.RegisterGoes', WHERE WHAT IT READS IS OF BULK AT MOST 1048576: true; the input reads as it did. -/
def registerGoesUptoRow : OpenClaim := { program := "ytjiefamdpbnngaa", sum := "3f49f8ac4a951c703a14d1b120f65edc104b19df2ffd49b9c6f61d14f7557151", func := "folkmoot/folkmootkeep.RegisterGoes", spec := "registerGoes", apart := false, narrowed := true }
def RegisterGoesUptoSaid : Prop := registerGoesUptoRow.holds Try.pinned (OpenSpec.upto registerGoesSpec)

/-- 'folkmootkeep.RegisterLast', WHERE WHAT IT READS IS OF BULK AT MOST 1048576: true; the input reads as it did. -/
def registerLastUptoRow : OpenClaim := { program := "ytjiefamdpbnngaa", sum := "3f49f8ac4a951c703a14d1b120f65edc104b19df2ffd49b9c6f61d14f7557151", func := "folkmoot/folkmootkeep.RegisterLast", spec := "registerLast", apart := false, narrowed := true }
def RegisterLastUptoSaid : Prop := registerLastUptoRow.holds Try.pinned (OpenSpec.upto registerLastSpec)

/-- 'folkmootkeep.RegisterFront', WHERE WHAT IT READS IS OF BULK AT MOST 1048576: true; the input reads as it did. -/
def registerFrontUptoRow : OpenClaim := { program := "ytjiefamdpbnngaa", sum := "3f49f8ac4a951c703a14d1b120f65edc104b19df2ffd49b9c6f61d14f7557151", func := "folkmoot/folkmootkeep.RegisterFront", spec := "registerFront", apart := false, narrowed := true }
def RegisterFrontUptoSaid : Prop := registerFrontUptoRow.holds Try.pinned (OpenSpec.upto registerFrontSpec)

/-- 'folkmootkeep.RegisterFrom', WHERE WHAT IT READS IS OF BULK AT MOST 1048576: true; the input reads as it did. -/
def registerFromUptoRow : OpenClaim := { program := "ytjiefamdpbnngaa", sum := "3f49f8ac4a951c703a14d1b120f65edc104b19df2ffd49b9c6f61d14f7557151", func := "folkmoot/folkmootkeep.RegisterFrom", spec := "registerFrom", apart := false, narrowed := true }
def RegisterFromUptoSaid : Prop := registerFromUptoRow.holds Try.pinned (OpenSpec.upto registerFromSpec)

/-- 'folkmootkeep.RegisterLinear', WHERE WHAT IT READS IS OF BULK AT MOST 1048576: true; the input reads as it did. -/
def registerLinearUptoRow : OpenClaim := { program := "ytjiefamdpbnngaa", sum := "3f49f8ac4a951c703a14d1b120f65edc104b19df2ffd49b9c6f61d14f7557151", func := "folkmoot/folkmootkeep.RegisterLinear", spec := "registerLinear", recurses := true, apart := false, narrowed := true }
def RegisterLinearUptoSaid : Prop := registerLinearUptoRow.holds Try.pinned (OpenSpec.upto registerLinearSpec)

end Rows
end Go.Proofs.Ytjiefamdpbnngaa
