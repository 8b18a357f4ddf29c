/-
  No cell of these rows narrows 'for every input' (looked for: loops, veiled, ifaces, maps, wideKeys, modest, calm, conditions, laid).
  DERIVED. THE GIVEN ROWS OF THIS SEAT. 4 by the template 'for every input the law returns true; each argument reads behind the call as it read before'; 0 by the template 'total and deterministic' (their statements: YtanipkddfngnnaaTotals.lean).
  GIVEN WITH THE SEED: the statements are not yours to turn. If you find one false, say at which input.
  Laid BY PROGRAM, IN A SANDBOX (cutbox-rows.mjs): the forced cells as the released guide's own fill.sh prints them over the translation 8933771d16246418… (all of the seat's roots in one cut). By AI agents, Wed Nov 11 2026. No macro, syntax, notation, axiom, sorry.
-/
import Derived.Test.YtanipkddfngnnaaChecked
import GoSem.Claim
import GoSem.ClaimJoined
import GoSem.ClaimMapViews
import Derived.JoinedTies
import Derived.KernelRfl
namespace Go.Proofs.Ytanipkddfngnnaa
/- THE CELL 'sum', in the pinned program and in every row, IS THE sha256 OF THE DUMP (.gsa) THAT YtanipkddfngnnaaProg.lean LOADS. Nothing in Lean hashes anything: it is a label: what it is worth is what the hold of that sum in a sandbox is worth. -/
noncomputable def Try.pinned : Pinned := { name := "ytanipkddfngnnaa", sum := "8933771d16246418f4b16bbc98d4604c63b5403da4183518f87fd7efafdceb2c", checked := Try.checked }
namespace Rows
def none {H : Type} : Left H := { results := [], args := [] }

/-- 'folkmootkeep.SnapKeeps': WHATEVER THE INPUT: true; the input reads as it did. -/
def snapKeepsSpec : ChangeSpec := { name := "snapKeeps", fn := fun _ => fun
  | [d1, d2] => { results := [.lit (.bool true)], args := [d1, d2] }
  | _ => none }
def snapKeepsRow : OpenClaim := { program := "ytanipkddfngnnaa", sum := "8933771d16246418f4b16bbc98d4604c63b5403da4183518f87fd7efafdceb2c", func := "folkmoot/folkmootkeep.SnapKeeps", spec := "snapKeeps", unfollowed := true, recurses := true, plainKeys := false, apart := false }
def SnapKeepsSaid : Prop := snapKeepsRow.holds Try.pinned (OpenSpec.ofChange snapKeepsSpec)

/-- ITS FALSE NEIGHBOUR: 'it returns false'. Refute it at one input. -/
def snapKeepsWrong : ChangeSpec := { name := "snapKeeps", fn := fun _ => fun
  | [d1, d2] => { results := [.lit (.bool false)], args := [d1, d2] }
  | _ => none }
def SnapKeepsWrongFalsely : Prop := snapKeepsRow.holds Try.pinned (OpenSpec.ofChange snapKeepsWrong)

/-- 'folkmootkeep.SnapEnds': WHATEVER THE INPUT: true; the input reads as it did. -/
def snapEndsSpec : ChangeSpec := { name := "snapEnds", fn := fun _ => fun
  | [d1, d2] => { results := [.lit (.bool true)], args := [d1, d2] }
  | _ => none }
def snapEndsRow : OpenClaim := { program := "ytanipkddfngnnaa", sum := "8933771d16246418f4b16bbc98d4604c63b5403da4183518f87fd7efafdceb2c", func := "folkmoot/folkmootkeep.SnapEnds", spec := "snapEnds", unfollowed := true, recurses := true, plainKeys := false, apart := false }
def SnapEndsSaid : Prop := snapEndsRow.holds Try.pinned (OpenSpec.ofChange snapEndsSpec)

/-- ITS FALSE NEIGHBOUR: 'it returns false'. Refute it at one input. -/
def snapEndsWrong : ChangeSpec := { name := "snapEnds", fn := fun _ => fun
  | [d1, d2] => { results := [.lit (.bool false)], args := [d1, d2] }
  | _ => none }
def SnapEndsWrongFalsely : Prop := snapEndsRow.holds Try.pinned (OpenSpec.ofChange snapEndsWrong)

/-- 'folkmootkeep.SnapFront': WHATEVER THE INPUT: true; the input reads as it did. -/
def snapFrontSpec : ChangeSpec := { name := "snapFront", fn := fun _ => fun
  | [d1, d2, d3] => { results := [.lit (.bool true)], args := [d1, d2, d3] }
  | _ => none }
def snapFrontRow : OpenClaim := { program := "ytanipkddfngnnaa", sum := "8933771d16246418f4b16bbc98d4604c63b5403da4183518f87fd7efafdceb2c", func := "folkmoot/folkmootkeep.SnapFront", spec := "snapFront", unfollowed := true, recurses := true, plainKeys := false, apart := false }
def SnapFrontSaid : Prop := snapFrontRow.holds Try.pinned (OpenSpec.ofChange snapFrontSpec)

/-- ITS FALSE NEIGHBOUR: 'it returns false'. Refute it at one input. -/
def snapFrontWrong : ChangeSpec := { name := "snapFront", fn := fun _ => fun
  | [d1, d2, d3] => { results := [.lit (.bool false)], args := [d1, d2, d3] }
  | _ => none }
def SnapFrontWrongFalsely : Prop := snapFrontRow.holds Try.pinned (OpenSpec.ofChange snapFrontWrong)

/-- 'folkmootkeep.SnapNone': WHATEVER THE INPUT: true; the input reads as it did. -/
def snapNoneSpec : ChangeSpec := { name := "snapNone", fn := fun _ => fun
  | [d1, d2] => { results := [.lit (.bool true)], args := [d1, d2] }
  | _ => none }
def snapNoneRow : OpenClaim := { program := "ytanipkddfngnnaa", sum := "8933771d16246418f4b16bbc98d4604c63b5403da4183518f87fd7efafdceb2c", func := "folkmoot/folkmootkeep.SnapNone", spec := "snapNone", unfollowed := true, recurses := true, plainKeys := false, apart := false }
def SnapNoneSaid : Prop := snapNoneRow.holds Try.pinned (OpenSpec.ofChange snapNoneSpec)

/-- ITS FALSE NEIGHBOUR: 'it returns false'. Refute it at one input. -/
def snapNoneWrong : ChangeSpec := { name := "snapNone", fn := fun _ => fun
  | [d1, d2] => { results := [.lit (.bool false)], args := [d1, d2] }
  | _ => none }
def SnapNoneWrongFalsely : Prop := snapNoneRow.holds Try.pinned (OpenSpec.ofChange snapNoneWrong)

/- THE SECOND FORM. 'bulk': how many values and letters a reading holds, each counted each time it is reached (what is shared counts as often as it is met; a slice's spare places count too). A statement '..UptoSaid' is the law's where the arguments, and the package variables that the reading takes, are together of bulk at most 1048576: NARROWER than '..Said'. Prove '..Said' where nothing that the law and all that it calls make is longer than what came in: it says more and counts as full. Else prove '..UptoSaid'. A law counts once. -/
mutual
def uptoBulk {H : Type} : DataW H → Nat
  | .lit (.string bytes) => bytes.length + 1
  | .lit _ => 1
  | .nil => 1
  | .ptr d => uptoBulk d + 1
  | .slice elems spare => uptoBulkAll elems + uptoBulkAll spare + 1
  | .agg parts => uptoBulkAll parts + 1
  | .iface _ d => uptoBulk d + 1
  | .map entries => uptoBulkEntries entries + 1
  | .held _ => 1
def uptoBulkAll {H : Type} : List (DataW H) → Nat
  | [] => 0
  | d :: r => uptoBulk d + uptoBulkAll r
def uptoBulkEntries {H : Type} : List (Lit × DataW H) → Nat
  | [] => 0
  | x :: r => uptoBulkEntry x + uptoBulkEntries r
def uptoBulkEntry {H : Type} : Lit × DataW H → Nat
  | (.string bytes, d) => bytes.length + uptoBulk d + 1
  | (_, d) => uptoBulk d + 1
 end
def uptoSmall : (H : Type) → List (DataW H) → Bool := fun _ ds => decide (uptoBulkAll ds ≤ 1048576)
def OpenSpec.upto (s : _root_.Go.ChangeSpec) : _root_.Go.OpenSpec := { _root_.Go.OpenSpec.ofChange s with cond := some uptoSmall }

/-- 'folkmootkeep.SnapKeeps', WHERE WHAT IT READS IS OF BULK AT MOST 1048576: true; the input reads as it did. -/
def snapKeepsUptoRow : OpenClaim := { program := "ytanipkddfngnnaa", sum := "8933771d16246418f4b16bbc98d4604c63b5403da4183518f87fd7efafdceb2c", func := "folkmoot/folkmootkeep.SnapKeeps", spec := "snapKeeps", unfollowed := true, recurses := true, plainKeys := false, apart := false, narrowed := true }
def SnapKeepsUptoSaid : Prop := snapKeepsUptoRow.holds Try.pinned (OpenSpec.upto snapKeepsSpec)

/-- 'folkmootkeep.SnapEnds', WHERE WHAT IT READS IS OF BULK AT MOST 1048576: true; the input reads as it did. -/
def snapEndsUptoRow : OpenClaim := { program := "ytanipkddfngnnaa", sum := "8933771d16246418f4b16bbc98d4604c63b5403da4183518f87fd7efafdceb2c", func := "folkmoot/folkmootkeep.SnapEnds", spec := "snapEnds", unfollowed := true, recurses := true, plainKeys := false, apart := false, narrowed := true }
def SnapEndsUptoSaid : Prop := snapEndsUptoRow.holds Try.pinned (OpenSpec.upto snapEndsSpec)

/-- 'folkmootkeep.SnapFront', WHERE WHAT IT READS IS OF BULK AT MOST 1048576: true; the input reads as it did. -/
def snapFrontUptoRow : OpenClaim := { program := "ytanipkddfngnnaa", sum := "8933771d16246418f4b16bbc98d4604c63b5403da4183518f87fd7efafdceb2c", func := "folkmoot/folkmootkeep.SnapFront", spec := "snapFront", unfollowed := true, recurses := true, plainKeys := false, apart := false, narrowed := true }
def SnapFrontUptoSaid : Prop := snapFrontUptoRow.holds Try.pinned (OpenSpec.upto snapFrontSpec)

/-- 'folkmootkeep.SnapNone', WHERE WHAT IT READS IS OF BULK AT MOST 1048576: true; the input reads as it did. -/
def snapNoneUptoRow : OpenClaim := { program := "ytanipkddfngnnaa", sum := "8933771d16246418f4b16bbc98d4604c63b5403da4183518f87fd7efafdceb2c", func := "folkmoot/folkmootkeep.SnapNone", spec := "snapNone", unfollowed := true, recurses := true, plainKeys := false, apart := false, narrowed := true }
def SnapNoneUptoSaid : Prop := snapNoneUptoRow.holds Try.pinned (OpenSpec.upto snapNoneSpec)

end Rows
end Go.Proofs.Ytanipkddfngnnaa
