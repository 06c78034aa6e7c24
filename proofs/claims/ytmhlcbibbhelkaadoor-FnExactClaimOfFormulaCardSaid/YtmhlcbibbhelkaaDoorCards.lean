/-
  DERIVED. GIVEN WITH THE SEED: THE CARDS: each row of YtmhlcbibbhelkaaDoorRows.lean that lists a variable, with what it lists TIED to the program's text (the seventh form; the later family's looks); each row that meets fmt, with fmt's text TOLD by the authors' own Lean function (tested against real Go, not proved from fmt's source: count such statements apart). THE CARD IS WHAT COUNTS. Prove the row's statement (the work); the ties are given (YtmhlcbibbhelkaaDoorTie.lean); close each card by the builder's one call (the guide's Derived/Test/ToyasCard.lean, 'card_holds'). Laid BY PROGRAM, IN A SANDBOX (cutbox-door.mjs). By AI agents, Wed Nov 11 2026. No macro, syntax, notation, axiom, sorry.
-/
import Derived.Test.YtmhlcbibbhelkaaDoorRows
import GoSem.ClaimSeven
namespace Go.Proofs.YtmhlcbibbhelkaaDoor
namespace Rows

/-- THE TIED CARD OF 'laws.FnExactClaimOfFormula'. -/
def fnExactClaimOfFormulaCard : Claim7 := { stood := { row := fnExactClaimOfFormulaRow, standIns := [], harness := (true, "e8eb3233cb2491f4d47154615285aab5aa1a1581e75300c14766a8964d103f80"), looks := false }, kinds := [], alts := [], laidByText := true, laidKinds := [.data, .data, .data], laidTests := true, laidLooks := .later }
def FnExactClaimOfFormulaCardSaid : Prop := Claim7.holds Tryd.pinned (.plain (OpenSpec.ofChange fnExactClaimOfFormulaSpec)) fnExactClaimOfFormulaCard

/-- THE SECOND FORM's CARD OF 'laws.FnExactClaimOfFormula'. -/
def fnExactClaimOfFormulaUptoCard : Claim7 := { stood := { row := fnExactClaimOfFormulaUptoRow, standIns := [], harness := (true, "e8eb3233cb2491f4d47154615285aab5aa1a1581e75300c14766a8964d103f80"), looks := false }, kinds := [], alts := [], laidByText := true, laidKinds := [.data, .data, .data], laidTests := true, laidLooks := .later }
def FnExactClaimOfFormulaUptoCardSaid : Prop := Claim7.holds Tryd.pinned (.plain (OpenSpec.upto fnExactClaimOfFormulaSpec)) fnExactClaimOfFormulaUptoCard
end Rows
end Go.Proofs.YtmhlcbibbhelkaaDoor
