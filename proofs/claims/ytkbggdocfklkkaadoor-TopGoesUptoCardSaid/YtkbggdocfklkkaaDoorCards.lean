/-
  DERIVED. GIVEN WITH THE SEED: THE CARDS: each row of YtkbggdocfklkkaaDoorRows.lean that lists a variable, with what it lists TIED to the program's text (the seventh form; the later family's looks); each row that meets fmt, with fmt's text TOLD by the authors' own Lean function (tested against real Go, not proved from fmt's source: count such statements apart). THE CARD IS WHAT COUNTS. Prove the row's statement (the work); the ties are given (YtkbggdocfklkkaaDoorTie.lean); close each card by the builder's one call (the guide's Derived/Test/ToyasCard.lean, 'card_holds'). Laid BY PROGRAM, IN A SANDBOX (cutbox-door.mjs). By AI agents, Wed Nov 11 2026. No macro, syntax, notation, axiom, sorry.
-/
import Derived.Test.YtkbggdocfklkkaaDoorRows
import GoSem.ClaimSeven
namespace Go.Proofs.YtkbggdocfklkkaaDoor
namespace Rows

/-- THE TIED CARD OF 'folkmoottop.TopMoney'. -/
def topMoneyCard : Claim7 := { stood := { row := topMoneyRow, standIns := [], harness := (true, "705a70fe1107fb10eb54349fd5ec7b356650084cc2665f97bbe38b6653e7af84"), looks := true }, kinds := [], alts := [], laidByText := true, laidKinds := [.handle], laidTests := true, laidLooks := .later }
def TopMoneyCardSaid : Prop := Claim7.holds Tryd.pinned (.plain (OpenSpec.ofChange topMoneySpec)) topMoneyCard

/-- THE TIED CARD OF 'folkmoottop.TopGoes'. -/
def topGoesCard : Claim7 := { stood := { row := topGoesRow, standIns := [], harness := (true, "705a70fe1107fb10eb54349fd5ec7b356650084cc2665f97bbe38b6653e7af84"), looks := true }, kinds := [], alts := [], laidByText := true, laidKinds := [.handle], laidTests := true, laidLooks := .later }
def TopGoesCardSaid : Prop := Claim7.holds Tryd.pinned (.plain (OpenSpec.ofChange topGoesSpec)) topGoesCard

/-- THE SECOND FORM's CARD OF 'folkmoottop.TopMoney'. -/
def topMoneyUptoCard : Claim7 := { stood := { row := topMoneyUptoRow, standIns := [], harness := (true, "705a70fe1107fb10eb54349fd5ec7b356650084cc2665f97bbe38b6653e7af84"), looks := true }, kinds := [], alts := [], laidByText := true, laidKinds := [.handle], laidTests := true, laidLooks := .later }
def TopMoneyUptoCardSaid : Prop := Claim7.holds Tryd.pinned (.plain (OpenSpec.upto topMoneySpec)) topMoneyUptoCard

/-- THE SECOND FORM's CARD OF 'folkmoottop.TopGoes'. -/
def topGoesUptoCard : Claim7 := { stood := { row := topGoesUptoRow, standIns := [], harness := (true, "705a70fe1107fb10eb54349fd5ec7b356650084cc2665f97bbe38b6653e7af84"), looks := true }, kinds := [], alts := [], laidByText := true, laidKinds := [.handle], laidTests := true, laidLooks := .later }
def TopGoesUptoCardSaid : Prop := Claim7.holds Tryd.pinned (.plain (OpenSpec.upto topGoesSpec)) topGoesUptoCard
end Rows
end Go.Proofs.YtkbggdocfklkkaaDoor
