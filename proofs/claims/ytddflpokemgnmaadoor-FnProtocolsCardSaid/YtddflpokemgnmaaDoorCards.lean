/-
  DERIVED. GIVEN WITH THE SEED: THE CARDS: each row of YtddflpokemgnmaaDoorRows.lean that lists a variable, with what it lists TIED to the program's text (the seventh form; the later family's looks); each row that meets fmt, with fmt's text TOLD by the authors' own Lean function (tested against real Go, not proved from fmt's source: count such statements apart). THE CARD IS WHAT COUNTS. Prove the row's statement (the work); the ties are given (YtddflpokemgnmaaDoorTie.lean); close each card by the builder's one call (the guide's Derived/Test/ToyasCard.lean, 'card_holds'). Laid BY PROGRAM, IN A SANDBOX (cutbox-door.mjs). By AI agents, Wed Nov 11 2026. No macro, syntax, notation, axiom, sorry.
-/
import Derived.Test.YtddflpokemgnmaaDoorRows
import GoSem.ClaimSeven
namespace Go.Proofs.YtddflpokemgnmaaDoor
namespace Rows

/-- THE TIED CARD OF 'laws.FnProtocols'. -/
def fnProtocolsCard : Claim7 := { stood := { row := fnProtocolsRow, standIns := [], harness := (true, "2d7c03edd7ff96f9a8b93ec50734e10c2ddc2461afda0131db76720c65f27d82"), looks := false }, kinds := [], alts := [], laidByText := true, laidKinds := [.data, .data, .data], laidTests := true, laidLooks := .later }
def FnProtocolsCardSaid : Prop := Claim7.holds Tryd.pinned (.plain (OpenSpec.ofChange fnProtocolsSpec)) fnProtocolsCard

/-- THE SECOND FORM's CARD OF 'laws.FnProtocols'. -/
def fnProtocolsUptoCard : Claim7 := { stood := { row := fnProtocolsUptoRow, standIns := [], harness := (true, "2d7c03edd7ff96f9a8b93ec50734e10c2ddc2461afda0131db76720c65f27d82"), looks := false }, kinds := [], alts := [], laidByText := true, laidKinds := [.data, .data, .data], laidTests := true, laidLooks := .later }
def FnProtocolsUptoCardSaid : Prop := Claim7.holds Tryd.pinned (.plain (OpenSpec.upto fnProtocolsSpec)) fnProtocolsUptoCard
end Rows
end Go.Proofs.YtddflpokemgnmaaDoor
