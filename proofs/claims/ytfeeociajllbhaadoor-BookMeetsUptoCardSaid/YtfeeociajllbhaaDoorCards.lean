/-
  DERIVED. GIVEN WITH THE SEED: THE CARDS: each row of YtfeeociajllbhaaDoorRows.lean that lists a variable, with what it lists TIED to the program's text (the seventh form; the later family's looks); each row that meets fmt, with fmt's text TOLD by the authors' own Lean function (tested against real Go, not proved from fmt's source: count such statements apart). THE CARD IS WHAT COUNTS. Prove the row's statement (the work); the ties are given (YtfeeociajllbhaaDoorTie.lean); close each card by the builder's one call (the guide's Derived/Test/ToyasCard.lean, 'card_holds'). Laid BY PROGRAM, IN A SANDBOX (cutbox-door.mjs). By AI agents, Wed Nov 11 2026. No macro, syntax, notation, axiom, sorry.
-/
import Derived.Test.YtfeeociajllbhaaDoorRows
import GoSem.ClaimSeven
namespace Go.Proofs.YtfeeociajllbhaaDoor
namespace Rows

/-- THE TIED CARD OF 'folkmootkeep.BookMeets'. -/
def bookMeetsCard : Claim7 := { stood := { row := bookMeetsRow, standIns := [], harness := (true, "67d66c8287f5f9555f0e52e906b39a348d41e35bb368891d991b08fae1eb51bb"), looks := true }, kinds := [], alts := [], laidByText := true, laidKinds := [.handle], laidTests := true, laidLooks := .later }
def BookMeetsCardSaid : Prop := Claim7.holds Tryd.pinned (.plain (OpenSpec.ofChange bookMeetsSpec)) bookMeetsCard

/-- THE SECOND FORM's CARD OF 'folkmootkeep.BookMeets'. -/
def bookMeetsUptoCard : Claim7 := { stood := { row := bookMeetsUptoRow, standIns := [], harness := (true, "67d66c8287f5f9555f0e52e906b39a348d41e35bb368891d991b08fae1eb51bb"), looks := true }, kinds := [], alts := [], laidByText := true, laidKinds := [.handle], laidTests := true, laidLooks := .later }
def BookMeetsUptoCardSaid : Prop := Claim7.holds Tryd.pinned (.plain (OpenSpec.upto bookMeetsSpec)) bookMeetsUptoCard
end Rows
end Go.Proofs.YtfeeociajllbhaaDoor
