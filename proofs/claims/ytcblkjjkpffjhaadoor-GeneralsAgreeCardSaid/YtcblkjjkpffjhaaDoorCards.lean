/-
  DERIVED. GIVEN WITH THE SEED: THE CARDS: each row of YtcblkjjkpffjhaaDoorRows.lean that lists a variable, with what it lists TIED to the program's text (the seventh form; the later family's looks); each row that meets fmt, with fmt's text TOLD by the authors' own Lean function (tested against real Go, not proved from fmt's source: count such statements apart). THE CARD IS WHAT COUNTS. Prove the row's statement (the work); the ties are given (YtcblkjjkpffjhaaDoorTie.lean); close each card by the builder's one call (the guide's Derived/Test/ToyasCard.lean, 'card_holds'). Laid BY PROGRAM, IN A SANDBOX (cutbox-door.mjs). By AI agents, Wed Nov 11 2026. No macro, syntax, notation, axiom, sorry.
-/
import Derived.Test.YtcblkjjkpffjhaaDoorRows
import GoSem.ClaimSeven
namespace Go.Proofs.YtcblkjjkpffjhaaDoor
namespace Rows

/-- THE TIED CARD OF 'folkmootkeep.GeneralsAgree'. -/
def generalsAgreeCard : Claim7 := { stood := { row := generalsAgreeRow, standIns := [], harness := (true, "54cdd812d1fa3467c0ad646996a263ea5f19c62056847bd9b970569839f542fc"), looks := false }, kinds := [], alts := [], laidByText := true, laidKinds := [.data], laidTests := true, laidLooks := .later }
def GeneralsAgreeCardSaid : Prop := Claim7.holds Tryd.pinned (.plain (OpenSpec.ofChange generalsAgreeSpec)) generalsAgreeCard

/-- THE TIED CARD OF 'folkmootkeep.GeneralsTrue'. -/
def generalsTrueCard : Claim7 := { stood := { row := generalsTrueRow, standIns := [], harness := (true, "54cdd812d1fa3467c0ad646996a263ea5f19c62056847bd9b970569839f542fc"), looks := false }, kinds := [], alts := [], laidByText := true, laidKinds := [.data], laidTests := true, laidLooks := .later }
def GeneralsTrueCardSaid : Prop := Claim7.holds Tryd.pinned (.plain (OpenSpec.ofChange generalsTrueSpec)) generalsTrueCard

/-- THE SECOND FORM's CARD OF 'folkmootkeep.GeneralsAgree'. -/
def generalsAgreeUptoCard : Claim7 := { stood := { row := generalsAgreeUptoRow, standIns := [], harness := (true, "54cdd812d1fa3467c0ad646996a263ea5f19c62056847bd9b970569839f542fc"), looks := false }, kinds := [], alts := [], laidByText := true, laidKinds := [.data], laidTests := true, laidLooks := .later }
def GeneralsAgreeUptoCardSaid : Prop := Claim7.holds Tryd.pinned (.plain (OpenSpec.upto generalsAgreeSpec)) generalsAgreeUptoCard

/-- THE SECOND FORM's CARD OF 'folkmootkeep.GeneralsTrue'. -/
def generalsTrueUptoCard : Claim7 := { stood := { row := generalsTrueUptoRow, standIns := [], harness := (true, "54cdd812d1fa3467c0ad646996a263ea5f19c62056847bd9b970569839f542fc"), looks := false }, kinds := [], alts := [], laidByText := true, laidKinds := [.data], laidTests := true, laidLooks := .later }
def GeneralsTrueUptoCardSaid : Prop := Claim7.holds Tryd.pinned (.plain (OpenSpec.upto generalsTrueSpec)) generalsTrueUptoCard
end Rows
end Go.Proofs.YtcblkjjkpffjhaaDoor
