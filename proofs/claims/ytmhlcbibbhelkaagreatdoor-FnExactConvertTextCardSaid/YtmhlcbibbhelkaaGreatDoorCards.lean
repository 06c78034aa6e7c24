/-
  DERIVED. GIVEN WITH THE SEED: THE CARDS: each row of YtmhlcbibbhelkaaGreatDoorRows.lean that lists a variable, with what it lists TIED to the program's text (the seventh form; the later family's looks); each row that meets fmt, with fmt's text TOLD by the authors' own Lean function (tested against real Go, not proved from fmt's source: count such statements apart). THE CARD IS WHAT COUNTS. Prove the row's statement (the work); the ties are given (YtmhlcbibbhelkaaGreatDoorTie.lean); close each card by the builder's one call (the guide's Derived/Test/ToyasCard.lean, 'card_holds'). Laid BY PROGRAM, IN A SANDBOX (cutbox-door.mjs). By AI agents, Wed Nov 11 2026. No macro, syntax, notation, axiom, sorry.
-/
import Derived.Test.YtmhlcbibbhelkaaGreatDoorRows
import GoSem.ClaimSeven
namespace Go.Proofs.YtmhlcbibbhelkaaGreatDoor
namespace Rows

/-- THE TIED CARD OF 'laws.FnExactConvertText'. -/
def fnExactConvertTextCard : Claim7 := { stood := { row := fnExactConvertTextRow, standIns := [], harness := (true, "956416e1a6824ced86ac2e979aab870490bc76d333fd138e2008d485aefbb202"), looks := false }, kinds := [], alts := [], laidByText := true, laidKinds := [.data, .data, .data, .data, .pinned], laidTests := true, laidLooks := .later }
def FnExactConvertTextCardSaid : Prop := Claim7.holds Tryz.pinned (.plain (OpenSpec.ofChange fnExactConvertTextSpec)) fnExactConvertTextCard

/-- THE SECOND FORM's CARD OF 'laws.FnExactConvertText'. -/
def fnExactConvertTextUptoCard : Claim7 := { stood := { row := fnExactConvertTextUptoRow, standIns := [], harness := (true, "956416e1a6824ced86ac2e979aab870490bc76d333fd138e2008d485aefbb202"), looks := false }, kinds := [], alts := [], laidByText := true, laidKinds := [.data, .data, .data, .data, .pinned], laidTests := true, laidLooks := .later }
def FnExactConvertTextUptoCardSaid : Prop := Claim7.holds Tryz.pinned (.plain (OpenSpec.upto fnExactConvertTextSpec)) fnExactConvertTextUptoCard
end Rows
end Go.Proofs.YtmhlcbibbhelkaaGreatDoor
