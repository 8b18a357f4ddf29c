/-
  DERIVED. GIVEN WITH THE SEED: THE CARDS: each row of YtbdlpomcmkojmaaDoorRows.lean that lists a variable, with what it lists TIED to the program's text (the seventh form; the later family's looks); each row that meets fmt, with fmt's text TOLD by the authors' own Lean function (tested against real Go, not proved from fmt's source: count such statements apart). THE CARD IS WHAT COUNTS. Prove the row's statement (the work); the ties are given (YtbdlpomcmkojmaaDoorTie.lean); close each card by the builder's one call (the guide's Derived/Test/ToyasCard.lean, 'card_holds'). Laid BY PROGRAM, IN A SANDBOX (cutbox-door.mjs). By AI agents, Wed Nov 11 2026. No macro, syntax, notation, axiom, sorry.
-/
import Derived.Test.YtbdlpomcmkojmaaDoorRows
import GoSem.ClaimSeven
namespace Go.Proofs.YtbdlpomcmkojmaaDoor
namespace Rows

/-- THE TIED CARD OF 'folkmootkeep.LedgerKeeps'. -/
def ledgerKeepsCard : Claim7 := { stood := { row := ledgerKeepsRow, standIns := [], harness := (true, "eae497347ff44a021542c0b46c20d04d0ea239aae1b118a7f649f25221c32a4a"), looks := true }, kinds := [], alts := [], laidByText := true, laidKinds := [.handle], laidTests := true, laidLooks := .later }
def LedgerKeepsCardSaid : Prop := Claim7.holds Tryd.pinned (.plain (OpenSpec.ofChange ledgerKeepsSpec)) ledgerKeepsCard

/-- THE TIED CARD OF 'folkmootkeep.LedgerOnce'. -/
def ledgerOnceCard : Claim7 := { stood := { row := ledgerOnceRow, standIns := [], harness := (true, "eae497347ff44a021542c0b46c20d04d0ea239aae1b118a7f649f25221c32a4a"), looks := true }, kinds := [], alts := [], laidByText := true, laidKinds := [.handle], laidTests := true, laidLooks := .later }
def LedgerOnceCardSaid : Prop := Claim7.holds Tryd.pinned (.plain (OpenSpec.ofChange ledgerOnceSpec)) ledgerOnceCard

/-- THE TIED CARD OF 'folkmootkeep.LedgerApart'. -/
def ledgerApartCard : Claim7 := { stood := { row := ledgerApartRow, standIns := [], harness := (true, "eae497347ff44a021542c0b46c20d04d0ea239aae1b118a7f649f25221c32a4a"), looks := true }, kinds := [], alts := [], laidByText := true, laidKinds := [.handle], laidTests := true, laidLooks := .later }
def LedgerApartCardSaid : Prop := Claim7.holds Tryd.pinned (.plain (OpenSpec.ofChange ledgerApartSpec)) ledgerApartCard

/-- THE TIED CARD OF 'folkmootkeep.LedgerFront'. -/
def ledgerFrontCard : Claim7 := { stood := { row := ledgerFrontRow, standIns := [], harness := (true, "eae497347ff44a021542c0b46c20d04d0ea239aae1b118a7f649f25221c32a4a"), looks := true }, kinds := [], alts := [], laidByText := true, laidKinds := [.handle], laidTests := true, laidLooks := .later }
def LedgerFrontCardSaid : Prop := Claim7.holds Tryd.pinned (.plain (OpenSpec.ofChange ledgerFrontSpec)) ledgerFrontCard

/-- THE SECOND FORM's CARD OF 'folkmootkeep.LedgerKeeps'. -/
def ledgerKeepsUptoCard : Claim7 := { stood := { row := ledgerKeepsUptoRow, standIns := [], harness := (true, "eae497347ff44a021542c0b46c20d04d0ea239aae1b118a7f649f25221c32a4a"), looks := true }, kinds := [], alts := [], laidByText := true, laidKinds := [.handle], laidTests := true, laidLooks := .later }
def LedgerKeepsUptoCardSaid : Prop := Claim7.holds Tryd.pinned (.plain (OpenSpec.upto ledgerKeepsSpec)) ledgerKeepsUptoCard

/-- THE SECOND FORM's CARD OF 'folkmootkeep.LedgerOnce'. -/
def ledgerOnceUptoCard : Claim7 := { stood := { row := ledgerOnceUptoRow, standIns := [], harness := (true, "eae497347ff44a021542c0b46c20d04d0ea239aae1b118a7f649f25221c32a4a"), looks := true }, kinds := [], alts := [], laidByText := true, laidKinds := [.handle], laidTests := true, laidLooks := .later }
def LedgerOnceUptoCardSaid : Prop := Claim7.holds Tryd.pinned (.plain (OpenSpec.upto ledgerOnceSpec)) ledgerOnceUptoCard

/-- THE SECOND FORM's CARD OF 'folkmootkeep.LedgerApart'. -/
def ledgerApartUptoCard : Claim7 := { stood := { row := ledgerApartUptoRow, standIns := [], harness := (true, "eae497347ff44a021542c0b46c20d04d0ea239aae1b118a7f649f25221c32a4a"), looks := true }, kinds := [], alts := [], laidByText := true, laidKinds := [.handle], laidTests := true, laidLooks := .later }
def LedgerApartUptoCardSaid : Prop := Claim7.holds Tryd.pinned (.plain (OpenSpec.upto ledgerApartSpec)) ledgerApartUptoCard

/-- THE SECOND FORM's CARD OF 'folkmootkeep.LedgerFront'. -/
def ledgerFrontUptoCard : Claim7 := { stood := { row := ledgerFrontUptoRow, standIns := [], harness := (true, "eae497347ff44a021542c0b46c20d04d0ea239aae1b118a7f649f25221c32a4a"), looks := true }, kinds := [], alts := [], laidByText := true, laidKinds := [.handle], laidTests := true, laidLooks := .later }
def LedgerFrontUptoCardSaid : Prop := Claim7.holds Tryd.pinned (.plain (OpenSpec.upto ledgerFrontSpec)) ledgerFrontUptoCard
end Rows
end Go.Proofs.YtbdlpomcmkojmaaDoor
