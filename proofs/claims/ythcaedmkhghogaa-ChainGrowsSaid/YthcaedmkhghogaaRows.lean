/-
  No cell of these rows narrows 'for every input' (looked for: loops, veiled, ifaces, maps, wideKeys, modest, calm, conditions, laid).
  DERIVED. THE GIVEN ROWS OF THIS SEAT. 5 by the template 'for every input the law returns true; each argument reads behind the call as it read before'; 0 by the template 'total and deterministic' (their statements: YthcaedmkhghogaaTotals.lean).
  GIVEN WITH THE SEED: the statements are not yours to turn. If you find one false, say at which input.
  Laid BY PROGRAM, IN A SANDBOX (cutbox-rows.mjs): the forced cells as the released guide's own fill.sh prints them over the translation bf2baff5ffaa6aec… (all of the seat's roots in one cut). By AI agents, Wed Nov 11 2026. No macro, syntax, notation, axiom, sorry.
-/
import Derived.Test.YthcaedmkhghogaaChecked
import GoSem.Claim
import GoSem.ClaimJoined
import GoSem.ClaimMapViews
import Derived.JoinedTies
import Derived.KernelRfl
namespace Go.Proofs.Ythcaedmkhghogaa
/- THE CELL 'sum', in the pinned program and in every row, IS THE sha256 OF THE DUMP (.gsa) THAT YthcaedmkhghogaaProg.lean LOADS. Nothing in Lean hashes anything: it is a label: what it is worth is what the hold of that sum in a sandbox is worth. -/
noncomputable def Try.pinned : Pinned := { name := "ythcaedmkhghogaa", sum := "bf2baff5ffaa6aec428b43f66545c40ba9c412bc76a24e30caaf5c808d5b4c25", checked := Try.checked }
namespace Rows
def none {H : Type} : Left H := { results := [], args := [] }

/-- 'folkmootkeep.ChainDecided': WHATEVER THE INPUT: true; the input reads as it did. -/
def chainDecidedSpec : ChangeSpec := { name := "chainDecided", fn := fun _ => fun
  | [d1, d2, d3] => { results := [.lit (.bool true)], args := [d1, d2, d3] }
  | _ => none }
def chainDecidedRow : OpenClaim := { program := "ythcaedmkhghogaa", sum := "bf2baff5ffaa6aec428b43f66545c40ba9c412bc76a24e30caaf5c808d5b4c25", func := "folkmoot/folkmootkeep.ChainDecided", spec := "chainDecided", unfollowed := true, recurses := true, apart := false }
def ChainDecidedSaid : Prop := chainDecidedRow.holds Try.pinned (OpenSpec.ofChange chainDecidedSpec)

/-- ITS FALSE NEIGHBOUR: 'it returns false'. Refute it at one input. -/
def chainDecidedWrong : ChangeSpec := { name := "chainDecided", fn := fun _ => fun
  | [d1, d2, d3] => { results := [.lit (.bool false)], args := [d1, d2, d3] }
  | _ => none }
def ChainDecidedWrongFalsely : Prop := chainDecidedRow.holds Try.pinned (OpenSpec.ofChange chainDecidedWrong)

/-- 'folkmootkeep.ChainPath': WHATEVER THE INPUT: true; the input reads as it did. -/
def chainPathSpec : ChangeSpec := { name := "chainPath", fn := fun _ => fun
  | [d1, d2] => { results := [.lit (.bool true)], args := [d1, d2] }
  | _ => none }
def chainPathRow : OpenClaim := { program := "ythcaedmkhghogaa", sum := "bf2baff5ffaa6aec428b43f66545c40ba9c412bc76a24e30caaf5c808d5b4c25", func := "folkmoot/folkmootkeep.ChainPath", spec := "chainPath", unfollowed := true, recurses := true, apart := false }
def ChainPathSaid : Prop := chainPathRow.holds Try.pinned (OpenSpec.ofChange chainPathSpec)

/-- ITS FALSE NEIGHBOUR: 'it returns false'. Refute it at one input. -/
def chainPathWrong : ChangeSpec := { name := "chainPath", fn := fun _ => fun
  | [d1, d2] => { results := [.lit (.bool false)], args := [d1, d2] }
  | _ => none }
def ChainPathWrongFalsely : Prop := chainPathRow.holds Try.pinned (OpenSpec.ofChange chainPathWrong)

/-- 'folkmootkeep.ChainMeet': WHATEVER THE INPUT: true; the input reads as it did. -/
def chainMeetSpec : ChangeSpec := { name := "chainMeet", fn := fun _ => fun
  | [d1, d2, d3, d4] => { results := [.lit (.bool true)], args := [d1, d2, d3, d4] }
  | _ => none }
def chainMeetRow : OpenClaim := { program := "ythcaedmkhghogaa", sum := "bf2baff5ffaa6aec428b43f66545c40ba9c412bc76a24e30caaf5c808d5b4c25", func := "folkmoot/folkmootkeep.ChainMeet", spec := "chainMeet", unfollowed := true, recurses := true, apart := false }
def ChainMeetSaid : Prop := chainMeetRow.holds Try.pinned (OpenSpec.ofChange chainMeetSpec)

/-- ITS FALSE NEIGHBOUR: 'it returns false'. Refute it at one input. -/
def chainMeetWrong : ChangeSpec := { name := "chainMeet", fn := fun _ => fun
  | [d1, d2, d3, d4] => { results := [.lit (.bool false)], args := [d1, d2, d3, d4] }
  | _ => none }
def ChainMeetWrongFalsely : Prop := chainMeetRow.holds Try.pinned (OpenSpec.ofChange chainMeetWrong)

/-- 'folkmootkeep.ChainSelf': WHATEVER THE INPUT: true; the input reads as it did. -/
def chainSelfSpec : ChangeSpec := { name := "chainSelf", fn := fun _ => fun
  | [d1, d2, d3] => { results := [.lit (.bool true)], args := [d1, d2, d3] }
  | _ => none }
def chainSelfRow : OpenClaim := { program := "ythcaedmkhghogaa", sum := "bf2baff5ffaa6aec428b43f66545c40ba9c412bc76a24e30caaf5c808d5b4c25", func := "folkmoot/folkmootkeep.ChainSelf", spec := "chainSelf", unfollowed := true, recurses := true, apart := false }
def ChainSelfSaid : Prop := chainSelfRow.holds Try.pinned (OpenSpec.ofChange chainSelfSpec)

/-- ITS FALSE NEIGHBOUR: 'it returns false'. Refute it at one input. -/
def chainSelfWrong : ChangeSpec := { name := "chainSelf", fn := fun _ => fun
  | [d1, d2, d3] => { results := [.lit (.bool false)], args := [d1, d2, d3] }
  | _ => none }
def ChainSelfWrongFalsely : Prop := chainSelfRow.holds Try.pinned (OpenSpec.ofChange chainSelfWrong)

/-- 'folkmootkeep.ChainGrows': WHATEVER THE INPUT: true; the input reads as it did. -/
def chainGrowsSpec : ChangeSpec := { name := "chainGrows", fn := fun _ => fun
  | [d1, d2, d3, d4] => { results := [.lit (.bool true)], args := [d1, d2, d3, d4] }
  | _ => none }
def chainGrowsRow : OpenClaim := { program := "ythcaedmkhghogaa", sum := "bf2baff5ffaa6aec428b43f66545c40ba9c412bc76a24e30caaf5c808d5b4c25", func := "folkmoot/folkmootkeep.ChainGrows", spec := "chainGrows", unfollowed := true, recurses := true, apart := false }
def ChainGrowsSaid : Prop := chainGrowsRow.holds Try.pinned (OpenSpec.ofChange chainGrowsSpec)

/-- ITS FALSE NEIGHBOUR: 'it returns false'. Refute it at one input. -/
def chainGrowsWrong : ChangeSpec := { name := "chainGrows", fn := fun _ => fun
  | [d1, d2, d3, d4] => { results := [.lit (.bool false)], args := [d1, d2, d3, d4] }
  | _ => none }
def ChainGrowsWrongFalsely : Prop := chainGrowsRow.holds Try.pinned (OpenSpec.ofChange chainGrowsWrong)

/- THE SECOND FORM. 'bulk': how many values and letters a reading holds, each counted each time it is reached (what is shared counts as often as it is met; a slice's spare places count too). A statement '..UptoSaid' is the law's where the arguments, and the package variables that the reading takes, are together of bulk at most 1048576: NARROWER than '..Said'. Prove '..Said' where nothing that the law and all that it calls make is longer than what came in: it says more and counts as full. Else prove '..UptoSaid'. A law counts once. -/
mutual
def uptoBulk {H : Type} : DataW H → Nat
  | .lit (.string bytes) => bytes.length + 1
  | .lit _ => 1
  | .nil => 1
  | .ptr d => uptoBulk d + 1
  | .slice elems spare => uptoBulkAll elems + uptoBulkAll spare + 1
  | .agg parts => uptoBulkAll parts + 1
  | .iface _ d => uptoBulk d + 1
  | .map entries => uptoBulkEntries entries + 1
  | .held _ => 1
def uptoBulkAll {H : Type} : List (DataW H) → Nat
  | [] => 0
  | d :: r => uptoBulk d + uptoBulkAll r
def uptoBulkEntries {H : Type} : List (Lit × DataW H) → Nat
  | [] => 0
  | x :: r => uptoBulkEntry x + uptoBulkEntries r
def uptoBulkEntry {H : Type} : Lit × DataW H → Nat
  | (.string bytes, d) => bytes.length + uptoBulk d + 1
  | (_, d) => uptoBulk d + 1
 end
def uptoSmall : (H : Type) → List (DataW H) → Bool := fun _ ds => decide (uptoBulkAll ds ≤ 1048576)
def OpenSpec.upto (s : _root_.Go.ChangeSpec) : _root_.Go.OpenSpec := { _root_.Go.OpenSpec.ofChange s with cond := some uptoSmall }

/-- 'folkmootkeep.ChainDecided', WHERE WHAT IT READS IS OF BULK AT MOST 1048576: true; the input reads as it did. -/
def chainDecidedUptoRow : OpenClaim := { program := "ythcaedmkhghogaa", sum := "bf2baff5ffaa6aec428b43f66545c40ba9c412bc76a24e30caaf5c808d5b4c25", func := "folkmoot/folkmootkeep.ChainDecided", spec := "chainDecided", unfollowed := true, recurses := true, apart := false, narrowed := true }
def ChainDecidedUptoSaid : Prop := chainDecidedUptoRow.holds Try.pinned (OpenSpec.upto chainDecidedSpec)

/-- 'folkmootkeep.ChainPath', WHERE WHAT IT READS IS OF BULK AT MOST 1048576: true; the input reads as it did. -/
def chainPathUptoRow : OpenClaim := { program := "ythcaedmkhghogaa", sum := "bf2baff5ffaa6aec428b43f66545c40ba9c412bc76a24e30caaf5c808d5b4c25", func := "folkmoot/folkmootkeep.ChainPath", spec := "chainPath", unfollowed := true, recurses := true, apart := false, narrowed := true }
def ChainPathUptoSaid : Prop := chainPathUptoRow.holds Try.pinned (OpenSpec.upto chainPathSpec)

/-- 'folkmootkeep.ChainMeet', WHERE WHAT IT READS IS OF BULK AT MOST 1048576: true; the input reads as it did. -/
def chainMeetUptoRow : OpenClaim := { program := "ythcaedmkhghogaa", sum := "bf2baff5ffaa6aec428b43f66545c40ba9c412bc76a24e30caaf5c808d5b4c25", func := "folkmoot/folkmootkeep.ChainMeet", spec := "chainMeet", unfollowed := true, recurses := true, apart := false, narrowed := true }
def ChainMeetUptoSaid : Prop := chainMeetUptoRow.holds Try.pinned (OpenSpec.upto chainMeetSpec)

/-- 'folkmootkeep.ChainSelf', WHERE WHAT IT READS IS OF BULK AT MOST 1048576: true; the input reads as it did. -/
def chainSelfUptoRow : OpenClaim := { program := "ythcaedmkhghogaa", sum := "bf2baff5ffaa6aec428b43f66545c40ba9c412bc76a24e30caaf5c808d5b4c25", func := "folkmoot/folkmootkeep.ChainSelf", spec := "chainSelf", unfollowed := true, recurses := true, apart := false, narrowed := true }
def ChainSelfUptoSaid : Prop := chainSelfUptoRow.holds Try.pinned (OpenSpec.upto chainSelfSpec)

/-- 'folkmootkeep.ChainGrows', WHERE WHAT IT READS IS OF BULK AT MOST 1048576: true; the input reads as it did. -/
def chainGrowsUptoRow : OpenClaim := { program := "ythcaedmkhghogaa", sum := "bf2baff5ffaa6aec428b43f66545c40ba9c412bc76a24e30caaf5c808d5b4c25", func := "folkmoot/folkmootkeep.ChainGrows", spec := "chainGrows", unfollowed := true, recurses := true, apart := false, narrowed := true }
def ChainGrowsUptoSaid : Prop := chainGrowsUptoRow.holds Try.pinned (OpenSpec.upto chainGrowsSpec)

end Rows
end Go.Proofs.Ythcaedmkhghogaa
