/-
  No cell of these rows narrows 'for every input' (looked for: loops, veiled, ifaces, maps, wideKeys, modest, calm, conditions, laid).
  DERIVED. THE GIVEN ROWS OF THIS SEAT. 6 by the template 'for every input the law returns true; each argument reads behind the call as it read before'; 0 by the template 'total and deterministic' (their statements: YtehcefknofcmiaaTotals.lean).
  GIVEN WITH THE SEED: the statements are not yours to turn. If you find one false, say at which input.
  Laid BY PROGRAM, IN A SANDBOX (cutbox-rows.mjs): the forced cells as the released guide's own fill.sh prints them over the translation 1838564f9f130874… (all of the seat's roots in one cut). By AI agents, Wed Nov 11 2026. No macro, syntax, notation, axiom, sorry.
-/
import Derived.Test.YtehcefknofcmiaaChecked
import GoSem.Claim
import GoSem.ClaimJoined
import GoSem.ClaimMapViews
import Derived.JoinedTies
import Derived.KernelRfl
namespace Go.Proofs.Ytehcefknofcmiaa
/- THE CELL 'sum', in the pinned program and in every row, IS THE sha256 OF THE DUMP (.gsa) THAT YtehcefknofcmiaaProg.lean LOADS. Nothing in Lean hashes anything: it is a label: what it is worth is what the hold of that sum in a sandbox is worth. -/
noncomputable def Try.pinned : Pinned := { name := "ytehcefknofcmiaa", sum := "1838564f9f1308744b03fd243baedd18dcfc8d0a6dd3ca57777739a73eeee8e3", checked := Try.checked }
namespace Rows
def none {H : Type} : Left H := { results := [], args := [] }

/-- 'folkmootkeep.ClocksSwap': WHATEVER THE INPUT: true; the input reads as it did. -/
def clocksSwapSpec : ChangeSpec := { name := "clocksSwap", fn := fun _ => fun
  | [d1, d2, d3] => { results := [.lit (.bool true)], args := [d1, d2, d3] }
  | _ => none }
def clocksSwapRow : OpenClaim := { program := "ytehcefknofcmiaa", sum := "1838564f9f1308744b03fd243baedd18dcfc8d0a6dd3ca57777739a73eeee8e3", func := "folkmoot/folkmootkeep.ClocksSwap", spec := "clocksSwap", unfollowed := true, recurses := true, apart := false }
def ClocksSwapSaid : Prop := clocksSwapRow.holds Try.pinned (OpenSpec.ofChange clocksSwapSpec)

/-- ITS FALSE NEIGHBOUR: 'it returns false'. Refute it at one input. -/
def clocksSwapWrong : ChangeSpec := { name := "clocksSwap", fn := fun _ => fun
  | [d1, d2, d3] => { results := [.lit (.bool false)], args := [d1, d2, d3] }
  | _ => none }
def ClocksSwapWrongFalsely : Prop := clocksSwapRow.holds Try.pinned (OpenSpec.ofChange clocksSwapWrong)

/-- 'folkmootkeep.ClocksRise': WHATEVER THE INPUT: true; the input reads as it did. -/
def clocksRiseSpec : ChangeSpec := { name := "clocksRise", fn := fun _ => fun
  | [d1, d2, d3, d4] => { results := [.lit (.bool true)], args := [d1, d2, d3, d4] }
  | _ => none }
def clocksRiseRow : OpenClaim := { program := "ytehcefknofcmiaa", sum := "1838564f9f1308744b03fd243baedd18dcfc8d0a6dd3ca57777739a73eeee8e3", func := "folkmoot/folkmootkeep.ClocksRise", spec := "clocksRise", unfollowed := true, recurses := true, apart := false }
def ClocksRiseSaid : Prop := clocksRiseRow.holds Try.pinned (OpenSpec.ofChange clocksRiseSpec)

/-- ITS FALSE NEIGHBOUR: 'it returns false'. Refute it at one input. -/
def clocksRiseWrong : ChangeSpec := { name := "clocksRise", fn := fun _ => fun
  | [d1, d2, d3, d4] => { results := [.lit (.bool false)], args := [d1, d2, d3, d4] }
  | _ => none }
def ClocksRiseWrongFalsely : Prop := clocksRiseRow.holds Try.pinned (OpenSpec.ofChange clocksRiseWrong)

/-- 'folkmootkeep.ClocksFront': WHATEVER THE INPUT: true; the input reads as it did. -/
def clocksFrontSpec : ChangeSpec := { name := "clocksFront", fn := fun _ => fun
  | [d1, d2, d3] => { results := [.lit (.bool true)], args := [d1, d2, d3] }
  | _ => none }
def clocksFrontRow : OpenClaim := { program := "ytehcefknofcmiaa", sum := "1838564f9f1308744b03fd243baedd18dcfc8d0a6dd3ca57777739a73eeee8e3", func := "folkmoot/folkmootkeep.ClocksFront", spec := "clocksFront", unfollowed := true, recurses := true, apart := false }
def ClocksFrontSaid : Prop := clocksFrontRow.holds Try.pinned (OpenSpec.ofChange clocksFrontSpec)

/-- ITS FALSE NEIGHBOUR: 'it returns false'. Refute it at one input. -/
def clocksFrontWrong : ChangeSpec := { name := "clocksFront", fn := fun _ => fun
  | [d1, d2, d3] => { results := [.lit (.bool false)], args := [d1, d2, d3] }
  | _ => none }
def ClocksFrontWrongFalsely : Prop := clocksFrontRow.holds Try.pinned (OpenSpec.ofChange clocksFrontWrong)

/-- 'folkmootkeep.ClocksOrder': WHATEVER THE INPUT: true; the input reads as it did. -/
def clocksOrderSpec : ChangeSpec := { name := "clocksOrder", fn := fun _ => fun
  | [d1, d2, d3, d4, d5] => { results := [.lit (.bool true)], args := [d1, d2, d3, d4, d5] }
  | _ => none }
def clocksOrderRow : OpenClaim := { program := "ytehcefknofcmiaa", sum := "1838564f9f1308744b03fd243baedd18dcfc8d0a6dd3ca57777739a73eeee8e3", func := "folkmoot/folkmootkeep.ClocksOrder", spec := "clocksOrder", unfollowed := true, recurses := true, apart := false }
def ClocksOrderSaid : Prop := clocksOrderRow.holds Try.pinned (OpenSpec.ofChange clocksOrderSpec)

/-- ITS FALSE NEIGHBOUR: 'it returns false'. Refute it at one input. -/
def clocksOrderWrong : ChangeSpec := { name := "clocksOrder", fn := fun _ => fun
  | [d1, d2, d3, d4, d5] => { results := [.lit (.bool false)], args := [d1, d2, d3, d4, d5] }
  | _ => none }
def ClocksOrderWrongFalsely : Prop := clocksOrderRow.holds Try.pinned (OpenSpec.ofChange clocksOrderWrong)

/-- 'folkmootkeep.ClocksMattern': WHATEVER THE INPUT: true; the input reads as it did. -/
def clocksMatternSpec : ChangeSpec := { name := "clocksMattern", fn := fun _ => fun
  | [d1, d2, d3, d4] => { results := [.lit (.bool true)], args := [d1, d2, d3, d4] }
  | _ => none }
def clocksMatternRow : OpenClaim := { program := "ytehcefknofcmiaa", sum := "1838564f9f1308744b03fd243baedd18dcfc8d0a6dd3ca57777739a73eeee8e3", func := "folkmoot/folkmootkeep.ClocksMattern", spec := "clocksMattern", unfollowed := true, recurses := true, apart := false }
def ClocksMatternSaid : Prop := clocksMatternRow.holds Try.pinned (OpenSpec.ofChange clocksMatternSpec)

/-- ITS FALSE NEIGHBOUR: 'it returns false'. Refute it at one input. -/
def clocksMatternWrong : ChangeSpec := { name := "clocksMattern", fn := fun _ => fun
  | [d1, d2, d3, d4] => { results := [.lit (.bool false)], args := [d1, d2, d3, d4] }
  | _ => none }
def ClocksMatternWrongFalsely : Prop := clocksMatternRow.holds Try.pinned (OpenSpec.ofChange clocksMatternWrong)

/-- 'folkmootkeep.ClocksLamport': WHATEVER THE INPUT: true; the input reads as it did. -/
def clocksLamportSpec : ChangeSpec := { name := "clocksLamport", fn := fun _ => fun
  | [d1, d2, d3, d4] => { results := [.lit (.bool true)], args := [d1, d2, d3, d4] }
  | _ => none }
def clocksLamportRow : OpenClaim := { program := "ytehcefknofcmiaa", sum := "1838564f9f1308744b03fd243baedd18dcfc8d0a6dd3ca57777739a73eeee8e3", func := "folkmoot/folkmootkeep.ClocksLamport", spec := "clocksLamport", unfollowed := true, recurses := true, apart := false }
def ClocksLamportSaid : Prop := clocksLamportRow.holds Try.pinned (OpenSpec.ofChange clocksLamportSpec)

/-- ITS FALSE NEIGHBOUR: 'it returns false'. Refute it at one input. -/
def clocksLamportWrong : ChangeSpec := { name := "clocksLamport", fn := fun _ => fun
  | [d1, d2, d3, d4] => { results := [.lit (.bool false)], args := [d1, d2, d3, d4] }
  | _ => none }
def ClocksLamportWrongFalsely : Prop := clocksLamportRow.holds Try.pinned (OpenSpec.ofChange clocksLamportWrong)

/- THE SECOND FORM. 'bulk': how many values and letters a reading holds, each counted each time it is reached (what is shared counts as often as it is met; a slice's spare places count too). A statement '..UptoSaid' is the law's where the arguments, and the package variables that the reading takes, are together of bulk at most 1048576: NARROWER than '..Said'. Prove '..Said' where nothing that the law and all that it calls make is longer than what came in: it says more and counts as full. Else prove '..UptoSaid'. A law counts once. -/
mutual
def uptoBulk {H : Type} : DataW H → Nat
  | .lit (.string bytes) => bytes.length + 1
  | .lit _ => 1
  | .nil => 1
  | .ptr d => uptoBulk d + 1
  | .slice elems spare => uptoBulkAll elems + uptoBulkAll spare + 1
  | .agg parts => uptoBulkAll parts + 1
  | .iface _ d => uptoBulk d + 1
  | .map entries => uptoBulkEntries entries + 1
  | .held _ => 1
def uptoBulkAll {H : Type} : List (DataW H) → Nat
  | [] => 0
  | d :: r => uptoBulk d + uptoBulkAll r
def uptoBulkEntries {H : Type} : List (Lit × DataW H) → Nat
  | [] => 0
  | x :: r => uptoBulkEntry x + uptoBulkEntries r
def uptoBulkEntry {H : Type} : Lit × DataW H → Nat
  | (.string bytes, d) => bytes.length + uptoBulk d + 1
  | (_, d) => uptoBulk d + 1
 end
def uptoSmall : (H : Type) → List (DataW H) → Bool := fun _ ds => decide (uptoBulkAll ds ≤ 1048576)
def OpenSpec.upto (s : _root_.Go.ChangeSpec) : _root_.Go.OpenSpec := { _root_.Go.OpenSpec.ofChange s with cond := some uptoSmall }

/-- 'folkmootkeep.ClocksSwap', WHERE WHAT IT READS IS OF BULK AT MOST 1048576: true; the input reads as it did. -/
def clocksSwapUptoRow : OpenClaim := { program := "ytehcefknofcmiaa", sum := "1838564f9f1308744b03fd243baedd18dcfc8d0a6dd3ca57777739a73eeee8e3", func := "folkmoot/folkmootkeep.ClocksSwap", spec := "clocksSwap", unfollowed := true, recurses := true, apart := false, narrowed := true }
def ClocksSwapUptoSaid : Prop := clocksSwapUptoRow.holds Try.pinned (OpenSpec.upto clocksSwapSpec)

/-- 'folkmootkeep.ClocksRise', WHERE WHAT IT READS IS OF BULK AT MOST 1048576: true; the input reads as it did. -/
def clocksRiseUptoRow : OpenClaim := { program := "ytehcefknofcmiaa", sum := "1838564f9f1308744b03fd243baedd18dcfc8d0a6dd3ca57777739a73eeee8e3", func := "folkmoot/folkmootkeep.ClocksRise", spec := "clocksRise", unfollowed := true, recurses := true, apart := false, narrowed := true }
def ClocksRiseUptoSaid : Prop := clocksRiseUptoRow.holds Try.pinned (OpenSpec.upto clocksRiseSpec)

/-- 'folkmootkeep.ClocksFront', WHERE WHAT IT READS IS OF BULK AT MOST 1048576: true; the input reads as it did. -/
def clocksFrontUptoRow : OpenClaim := { program := "ytehcefknofcmiaa", sum := "1838564f9f1308744b03fd243baedd18dcfc8d0a6dd3ca57777739a73eeee8e3", func := "folkmoot/folkmootkeep.ClocksFront", spec := "clocksFront", unfollowed := true, recurses := true, apart := false, narrowed := true }
def ClocksFrontUptoSaid : Prop := clocksFrontUptoRow.holds Try.pinned (OpenSpec.upto clocksFrontSpec)

/-- 'folkmootkeep.ClocksOrder', WHERE WHAT IT READS IS OF BULK AT MOST 1048576: true; the input reads as it did. -/
def clocksOrderUptoRow : OpenClaim := { program := "ytehcefknofcmiaa", sum := "1838564f9f1308744b03fd243baedd18dcfc8d0a6dd3ca57777739a73eeee8e3", func := "folkmoot/folkmootkeep.ClocksOrder", spec := "clocksOrder", unfollowed := true, recurses := true, apart := false, narrowed := true }
def ClocksOrderUptoSaid : Prop := clocksOrderUptoRow.holds Try.pinned (OpenSpec.upto clocksOrderSpec)

/-- 'folkmootkeep.ClocksMattern', WHERE WHAT IT READS IS OF BULK AT MOST 1048576: true; the input reads as it did. -/
def clocksMatternUptoRow : OpenClaim := { program := "ytehcefknofcmiaa", sum := "1838564f9f1308744b03fd243baedd18dcfc8d0a6dd3ca57777739a73eeee8e3", func := "folkmoot/folkmootkeep.ClocksMattern", spec := "clocksMattern", unfollowed := true, recurses := true, apart := false, narrowed := true }
def ClocksMatternUptoSaid : Prop := clocksMatternUptoRow.holds Try.pinned (OpenSpec.upto clocksMatternSpec)

/-- 'folkmootkeep.ClocksLamport', WHERE WHAT IT READS IS OF BULK AT MOST 1048576: true; the input reads as it did. -/
def clocksLamportUptoRow : OpenClaim := { program := "ytehcefknofcmiaa", sum := "1838564f9f1308744b03fd243baedd18dcfc8d0a6dd3ca57777739a73eeee8e3", func := "folkmoot/folkmootkeep.ClocksLamport", spec := "clocksLamport", unfollowed := true, recurses := true, apart := false, narrowed := true }
def ClocksLamportUptoSaid : Prop := clocksLamportUptoRow.holds Try.pinned (OpenSpec.upto clocksLamportSpec)

end Rows
end Go.Proofs.Ytehcefknofcmiaa
