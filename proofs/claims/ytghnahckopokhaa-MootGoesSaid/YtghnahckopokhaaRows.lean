/-
  No cell of these rows narrows 'for every input' (looked for: loops, veiled, ifaces, maps, wideKeys, modest, calm, conditions, laid).
  DERIVED. THE GIVEN ROWS OF THIS SEAT. 5 by the template 'for every input the law returns true; each argument reads behind the call as it read before'; 0 by the template 'total and deterministic' (their statements: YtghnahckopokhaaTotals.lean).
  GIVEN WITH THE SEED: the statements are not yours to turn. If you find one false, say at which input.
  Laid BY PROGRAM, IN A SANDBOX (cutbox-rows.mjs): the forced cells as the released guide's own fill.sh prints them over the translation a05d9cdfc2a50bef… (all of the seat's roots in one cut). By AI agents, Wed Nov 11 2026. No macro, syntax, notation, axiom, sorry.
-/
import Derived.Test.YtghnahckopokhaaChecked
import GoSem.Claim
import GoSem.ClaimJoined
import GoSem.ClaimMapViews
import Derived.JoinedTies
import Derived.KernelRfl
namespace Go.Proofs.Ytghnahckopokhaa
/- THE CELL 'sum', in the pinned program and in every row, IS THE sha256 OF THE DUMP (.gsa) THAT YtghnahckopokhaaProg.lean LOADS. Nothing in Lean hashes anything: it is a label: what it is worth is what the hold of that sum in a sandbox is worth. -/
noncomputable def Try.pinned : Pinned := { name := "ytghnahckopokhaa", sum := "a05d9cdfc2a50befda03af6fd7c38873e284c3f0b38563312cfc50a4d98522e1", checked := Try.checked }
namespace Rows
def none {H : Type} : Left H := { results := [], args := [] }

/-- 'folkmootkeep.MootSafe': WHATEVER THE INPUT: true; the input reads as it did. -/
def mootSafeSpec : ChangeSpec := { name := "mootSafe", fn := fun _ => fun
  | [d1, d2, d3, d4] => { results := [.lit (.bool true)], args := [d1, d2, d3, d4] }
  | _ => none }
def mootSafeRow : OpenClaim := { program := "ytghnahckopokhaa", sum := "a05d9cdfc2a50befda03af6fd7c38873e284c3f0b38563312cfc50a4d98522e1", func := "folkmoot/folkmootkeep.MootSafe", spec := "mootSafe", unfollowed := true, recurses := true, plainKeys := false, apart := false }
def MootSafeSaid : Prop := mootSafeRow.holds Try.pinned (OpenSpec.ofChange mootSafeSpec)

/-- ITS FALSE NEIGHBOUR: 'it returns false'. Refute it at one input. -/
def mootSafeWrong : ChangeSpec := { name := "mootSafe", fn := fun _ => fun
  | [d1, d2, d3, d4] => { results := [.lit (.bool false)], args := [d1, d2, d3, d4] }
  | _ => none }
def MootSafeWrongFalsely : Prop := mootSafeRow.holds Try.pinned (OpenSpec.ofChange mootSafeWrong)

/-- 'folkmootkeep.MootFront': WHATEVER THE INPUT: true; the input reads as it did. -/
def mootFrontSpec : ChangeSpec := { name := "mootFront", fn := fun _ => fun
  | [d1, d2, d3, d4, d5] => { results := [.lit (.bool true)], args := [d1, d2, d3, d4, d5] }
  | _ => none }
def mootFrontRow : OpenClaim := { program := "ytghnahckopokhaa", sum := "a05d9cdfc2a50befda03af6fd7c38873e284c3f0b38563312cfc50a4d98522e1", func := "folkmoot/folkmootkeep.MootFront", spec := "mootFront", unfollowed := true, recurses := true, plainKeys := false, apart := false }
def MootFrontSaid : Prop := mootFrontRow.holds Try.pinned (OpenSpec.ofChange mootFrontSpec)

/-- ITS FALSE NEIGHBOUR: 'it returns false'. Refute it at one input. -/
def mootFrontWrong : ChangeSpec := { name := "mootFront", fn := fun _ => fun
  | [d1, d2, d3, d4, d5] => { results := [.lit (.bool false)], args := [d1, d2, d3, d4, d5] }
  | _ => none }
def MootFrontWrongFalsely : Prop := mootFrontRow.holds Try.pinned (OpenSpec.ofChange mootFrontWrong)

/-- 'folkmootkeep.MootGoes': WHATEVER THE INPUT: true; the input reads as it did. -/
def mootGoesSpec : ChangeSpec := { name := "mootGoes", fn := fun _ => fun
  | [d1, d2, d3, d4] => { results := [.lit (.bool true)], args := [d1, d2, d3, d4] }
  | _ => none }
def mootGoesRow : OpenClaim := { program := "ytghnahckopokhaa", sum := "a05d9cdfc2a50befda03af6fd7c38873e284c3f0b38563312cfc50a4d98522e1", func := "folkmoot/folkmootkeep.MootGoes", spec := "mootGoes", unfollowed := true, recurses := true, plainKeys := false, apart := false }
def MootGoesSaid : Prop := mootGoesRow.holds Try.pinned (OpenSpec.ofChange mootGoesSpec)

/-- ITS FALSE NEIGHBOUR: 'it returns false'. Refute it at one input. -/
def mootGoesWrong : ChangeSpec := { name := "mootGoes", fn := fun _ => fun
  | [d1, d2, d3, d4] => { results := [.lit (.bool false)], args := [d1, d2, d3, d4] }
  | _ => none }
def MootGoesWrongFalsely : Prop := mootGoesRow.holds Try.pinned (OpenSpec.ofChange mootGoesWrong)

/-- 'folkmootkeep.MootLocks': WHATEVER THE INPUT: true; the input reads as it did. -/
def mootLocksSpec : ChangeSpec := { name := "mootLocks", fn := fun _ => fun
  | [d1, d2, d3, d4] => { results := [.lit (.bool true)], args := [d1, d2, d3, d4] }
  | _ => none }
def mootLocksRow : OpenClaim := { program := "ytghnahckopokhaa", sum := "a05d9cdfc2a50befda03af6fd7c38873e284c3f0b38563312cfc50a4d98522e1", func := "folkmoot/folkmootkeep.MootLocks", spec := "mootLocks", unfollowed := true, recurses := true, plainKeys := false, apart := false }
def MootLocksSaid : Prop := mootLocksRow.holds Try.pinned (OpenSpec.ofChange mootLocksSpec)

/-- ITS FALSE NEIGHBOUR: 'it returns false'. Refute it at one input. -/
def mootLocksWrong : ChangeSpec := { name := "mootLocks", fn := fun _ => fun
  | [d1, d2, d3, d4] => { results := [.lit (.bool false)], args := [d1, d2, d3, d4] }
  | _ => none }
def MootLocksWrongFalsely : Prop := mootLocksRow.holds Try.pinned (OpenSpec.ofChange mootLocksWrong)

/-- 'folkmootkeep.MootVotes': WHATEVER THE INPUT: true; the input reads as it did. -/
def mootVotesSpec : ChangeSpec := { name := "mootVotes", fn := fun _ => fun
  | [d1, d2, d3, d4] => { results := [.lit (.bool true)], args := [d1, d2, d3, d4] }
  | _ => none }
def mootVotesRow : OpenClaim := { program := "ytghnahckopokhaa", sum := "a05d9cdfc2a50befda03af6fd7c38873e284c3f0b38563312cfc50a4d98522e1", func := "folkmoot/folkmootkeep.MootVotes", spec := "mootVotes", unfollowed := true, recurses := true, plainKeys := false, apart := false }
def MootVotesSaid : Prop := mootVotesRow.holds Try.pinned (OpenSpec.ofChange mootVotesSpec)

/-- ITS FALSE NEIGHBOUR: 'it returns false'. Refute it at one input. -/
def mootVotesWrong : ChangeSpec := { name := "mootVotes", fn := fun _ => fun
  | [d1, d2, d3, d4] => { results := [.lit (.bool false)], args := [d1, d2, d3, d4] }
  | _ => none }
def MootVotesWrongFalsely : Prop := mootVotesRow.holds Try.pinned (OpenSpec.ofChange mootVotesWrong)

/- THE SECOND FORM. 'bulk': how many values and letters a reading holds, each counted each time it is reached (what is shared counts as often as it is met; a slice's spare places count too). A statement '..UptoSaid' is the law's where the arguments, and the package variables that the reading takes, are together of bulk at most 1048576: NARROWER than '..Said'. Prove '..Said' where nothing that the law and all that it calls make is longer than what came in: it says more and counts as full. Else prove '..UptoSaid'. A law counts once. -/
mutual
def uptoBulk {H : Type} : DataW H → Nat
  | .lit (.string bytes) => bytes.length + 1
  | .lit _ => 1
  | .nil => 1
  | .ptr d => uptoBulk d + 1
  | .slice elems spare => uptoBulkAll elems + uptoBulkAll spare + 1
  | .agg parts => uptoBulkAll parts + 1
  | .iface _ d => uptoBulk d + 1
  | .map entries => uptoBulkEntries entries + 1
  | .held _ => 1
def uptoBulkAll {H : Type} : List (DataW H) → Nat
  | [] => 0
  | d :: r => uptoBulk d + uptoBulkAll r
def uptoBulkEntries {H : Type} : List (Lit × DataW H) → Nat
  | [] => 0
  | x :: r => uptoBulkEntry x + uptoBulkEntries r
def uptoBulkEntry {H : Type} : Lit × DataW H → Nat
  | (.string bytes, d) => bytes.length + uptoBulk d + 1
  | (_, d) => uptoBulk d + 1
 end
def uptoSmall : (H : Type) → List (DataW H) → Bool := fun _ ds => decide (uptoBulkAll ds ≤ 1048576)
def OpenSpec.upto (s : _root_.Go.ChangeSpec) : _root_.Go.OpenSpec := { _root_.Go.OpenSpec.ofChange s with cond := some uptoSmall }

/-- 'folkmootkeep.MootSafe', WHERE WHAT IT READS IS OF BULK AT MOST 1048576: true; the input reads as it did. -/
def mootSafeUptoRow : OpenClaim := { program := "ytghnahckopokhaa", sum := "a05d9cdfc2a50befda03af6fd7c38873e284c3f0b38563312cfc50a4d98522e1", func := "folkmoot/folkmootkeep.MootSafe", spec := "mootSafe", unfollowed := true, recurses := true, plainKeys := false, apart := false, narrowed := true }
def MootSafeUptoSaid : Prop := mootSafeUptoRow.holds Try.pinned (OpenSpec.upto mootSafeSpec)

/-- 'folkmootkeep.MootFront', WHERE WHAT IT READS IS OF BULK AT MOST 1048576: true; the input reads as it did. -/
def mootFrontUptoRow : OpenClaim := { program := "ytghnahckopokhaa", sum := "a05d9cdfc2a50befda03af6fd7c38873e284c3f0b38563312cfc50a4d98522e1", func := "folkmoot/folkmootkeep.MootFront", spec := "mootFront", unfollowed := true, recurses := true, plainKeys := false, apart := false, narrowed := true }
def MootFrontUptoSaid : Prop := mootFrontUptoRow.holds Try.pinned (OpenSpec.upto mootFrontSpec)

/-- 'folkmootkeep.MootGoes', WHERE WHAT IT READS IS OF BULK AT MOST 1048576: true; the input reads as it did. -/
def mootGoesUptoRow : OpenClaim := { program := "ytghnahckopokhaa", sum := "a05d9cdfc2a50befda03af6fd7c38873e284c3f0b38563312cfc50a4d98522e1", func := "folkmoot/folkmootkeep.MootGoes", spec := "mootGoes", unfollowed := true, recurses := true, plainKeys := false, apart := false, narrowed := true }
def MootGoesUptoSaid : Prop := mootGoesUptoRow.holds Try.pinned (OpenSpec.upto mootGoesSpec)

/-- 'folkmootkeep.MootLocks', WHERE WHAT IT READS IS OF BULK AT MOST 1048576: true; the input reads as it did. -/
def mootLocksUptoRow : OpenClaim := { program := "ytghnahckopokhaa", sum := "a05d9cdfc2a50befda03af6fd7c38873e284c3f0b38563312cfc50a4d98522e1", func := "folkmoot/folkmootkeep.MootLocks", spec := "mootLocks", unfollowed := true, recurses := true, plainKeys := false, apart := false, narrowed := true }
def MootLocksUptoSaid : Prop := mootLocksUptoRow.holds Try.pinned (OpenSpec.upto mootLocksSpec)

/-- 'folkmootkeep.MootVotes', WHERE WHAT IT READS IS OF BULK AT MOST 1048576: true; the input reads as it did. -/
def mootVotesUptoRow : OpenClaim := { program := "ytghnahckopokhaa", sum := "a05d9cdfc2a50befda03af6fd7c38873e284c3f0b38563312cfc50a4d98522e1", func := "folkmoot/folkmootkeep.MootVotes", spec := "mootVotes", unfollowed := true, recurses := true, plainKeys := false, apart := false, narrowed := true }
def MootVotesUptoSaid : Prop := mootVotesUptoRow.holds Try.pinned (OpenSpec.upto mootVotesSpec)

end Rows
end Go.Proofs.Ytghnahckopokhaa
