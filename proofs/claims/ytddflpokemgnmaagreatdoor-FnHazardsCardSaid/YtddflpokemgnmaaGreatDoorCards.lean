/-
  DERIVED. GIVEN WITH THE SEED: THE CARDS: each row of YtddflpokemgnmaaGreatDoorRows.lean that lists a variable, with what it lists TIED to the program's text (the seventh form; the later family's looks); each row that meets fmt, with fmt's text TOLD by the authors' own Lean function (tested against real Go, not proved from fmt's source: count such statements apart). THE CARD IS WHAT COUNTS. Prove the row's statement (the work); the ties are given (YtddflpokemgnmaaGreatDoorTie.lean); close each card by the builder's one call (the guide's Derived/Test/ToyasCard.lean, 'card_holds'). Laid BY PROGRAM, IN A SANDBOX (cutbox-door.mjs). By AI agents, Wed Nov 11 2026. No macro, syntax, notation, axiom, sorry.
-/
import Derived.Test.YtddflpokemgnmaaGreatDoorRows
import GoSem.ClaimSeven
namespace Go.Proofs.YtddflpokemgnmaaGreatDoor
namespace Rows

/-- THE TIED CARD OF 'laws.FnHazards'. -/
def fnHazardsCard : Claim7 := { stood := { row := fnHazardsRow, standIns := [], harness := (true, "9cecde405073e153ab6c295c5a4df29e51df68bb84a590d6efaad417a9f84431"), looks := false }, kinds := [], alts := [], laidByText := true, laidKinds := [.data, .pinned], laidTests := true, laidLooks := .later }
def FnHazardsCardSaid : Prop := Claim7.holds Tryz.pinned (.plain (OpenSpec.ofChange fnHazardsSpec)) fnHazardsCard

/-- THE SECOND FORM's CARD OF 'laws.FnHazards'. -/
def fnHazardsUptoCard : Claim7 := { stood := { row := fnHazardsUptoRow, standIns := [], harness := (true, "9cecde405073e153ab6c295c5a4df29e51df68bb84a590d6efaad417a9f84431"), looks := false }, kinds := [], alts := [], laidByText := true, laidKinds := [.data, .pinned], laidTests := true, laidLooks := .later }
def FnHazardsUptoCardSaid : Prop := Claim7.holds Tryz.pinned (.plain (OpenSpec.upto fnHazardsSpec)) fnHazardsUptoCard
end Rows
end Go.Proofs.YtddflpokemgnmaaGreatDoor
