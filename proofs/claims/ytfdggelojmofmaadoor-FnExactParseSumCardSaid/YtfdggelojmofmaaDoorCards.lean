/-
  DERIVED. GIVEN WITH THE SEED: THE CARDS: each row of YtfdggelojmofmaaDoorRows.lean that lists a variable, with what it lists TIED to the program's text (the seventh form; the later family's looks); each row that meets fmt, with fmt's text TOLD by the authors' own Lean function (tested against real Go, not proved from fmt's source: count such statements apart). THE CARD IS WHAT COUNTS. Prove the row's statement (the work); the ties are given (YtfdggelojmofmaaDoorTie.lean); close each card by the builder's one call (the guide's Derived/Test/ToyasCard.lean, 'card_holds'). Laid BY PROGRAM, IN A SANDBOX (cutbox-door.mjs). By AI agents, Wed Nov 11 2026. No macro, syntax, notation, axiom, sorry.
-/
import Derived.Test.YtfdggelojmofmaaDoorRows
import GoSem.ClaimSeven
namespace Go.Proofs.YtfdggelojmofmaaDoor
namespace Rows

/-- THE TIED CARD OF 'laws.FnExactClaimOfFormula'. -/
def fnExactClaimOfFormulaCard : Claim7 := { stood := { row := fnExactClaimOfFormulaRow, standIns := [], harness := (true, "d2e20be26b96bc0881c05f3fb613d506a3d45d15deea76a7fe5b8dda580a50d8"), looks := false }, kinds := [], alts := [], laidByText := true, laidKinds := [.data, .data, .data], laidTests := true, laidLooks := .later }
def FnExactClaimOfFormulaCardSaid : Prop := Claim7.holds Tryd.pinned (.plain (OpenSpec.ofChange fnExactClaimOfFormulaSpec)) fnExactClaimOfFormulaCard

/-- THE TIED CARD OF 'laws.FnExactClaimOfDepth'. -/
def fnExactClaimOfDepthCard : Claim7 := { stood := { row := fnExactClaimOfDepthRow, standIns := [], harness := (true, "d2e20be26b96bc0881c05f3fb613d506a3d45d15deea76a7fe5b8dda580a50d8"), looks := false }, kinds := [], alts := [], laidByText := true, laidKinds := [.data, .data, .data], laidTests := true, laidLooks := .later }
def FnExactClaimOfDepthCardSaid : Prop := Claim7.holds Tryd.pinned (.plain (OpenSpec.ofChange fnExactClaimOfDepthSpec)) fnExactClaimOfDepthCard

/-- THE TIED CARD OF 'laws.FnExactParseSum'. -/
def fnExactParseSumCard : Claim7 := { stood := { row := fnExactParseSumRow, standIns := [], harness := (true, "d2e20be26b96bc0881c05f3fb613d506a3d45d15deea76a7fe5b8dda580a50d8"), looks := false }, kinds := [], alts := [], laidByText := true, laidKinds := [.data, .pinned], laidTests := true, laidLooks := .later }
def FnExactParseSumCardSaid : Prop := Claim7.holds Tryd.pinned (.plain (OpenSpec.ofChange fnExactParseSumSpec)) fnExactParseSumCard

/-- THE TIED CARD OF 'laws.FnExactSpectrumLine'. -/
def fnExactSpectrumLineCard : Claim7 := { stood := { row := fnExactSpectrumLineRow, standIns := [], harness := (true, "d2e20be26b96bc0881c05f3fb613d506a3d45d15deea76a7fe5b8dda580a50d8"), looks := false }, kinds := [], alts := [], laidByText := true, laidKinds := [.data, .data, .data], laidTests := true, laidLooks := .later }
def FnExactSpectrumLineCardSaid : Prop := Claim7.holds Tryd.pinned (.plain (OpenSpec.ofChange fnExactSpectrumLineSpec)) fnExactSpectrumLineCard

/-- THE TIED CARD OF 'laws.FnExactGameLine'. -/
def fnExactGameLineCard : Claim7 := { stood := { row := fnExactGameLineRow, standIns := [], harness := (true, "d2e20be26b96bc0881c05f3fb613d506a3d45d15deea76a7fe5b8dda580a50d8"), looks := false }, kinds := [], alts := [], laidByText := true, laidKinds := [.data, .data, .data], laidTests := true, laidLooks := .later }
def FnExactGameLineCardSaid : Prop := Claim7.holds Tryd.pinned (.plain (OpenSpec.ofChange fnExactGameLineSpec)) fnExactGameLineCard

/-- THE TIED CARD OF 'laws.FnExactDiagramLine'. -/
def fnExactDiagramLineCard : Claim7 := { stood := { row := fnExactDiagramLineRow, standIns := [], harness := (true, "d2e20be26b96bc0881c05f3fb613d506a3d45d15deea76a7fe5b8dda580a50d8"), looks := false }, kinds := [], alts := [], laidByText := true, laidKinds := [.data, .data, .data], laidTests := true, laidLooks := .later }
def FnExactDiagramLineCardSaid : Prop := Claim7.holds Tryd.pinned (.plain (OpenSpec.ofChange fnExactDiagramLineSpec)) fnExactDiagramLineCard

/-- THE TIED CARD OF 'laws.FnExactSplitLine'. -/
def fnExactSplitLineCard : Claim7 := { stood := { row := fnExactSplitLineRow, standIns := [], harness := (true, "d2e20be26b96bc0881c05f3fb613d506a3d45d15deea76a7fe5b8dda580a50d8"), looks := false }, kinds := [], alts := [], laidByText := true, laidKinds := [.data, .data, .data], laidTests := true, laidLooks := .later }
def FnExactSplitLineCardSaid : Prop := Claim7.holds Tryd.pinned (.plain (OpenSpec.ofChange fnExactSplitLineSpec)) fnExactSplitLineCard

/-- THE SECOND FORM's CARD OF 'laws.FnExactClaimOfFormula'. -/
def fnExactClaimOfFormulaUptoCard : Claim7 := { stood := { row := fnExactClaimOfFormulaUptoRow, standIns := [], harness := (true, "d2e20be26b96bc0881c05f3fb613d506a3d45d15deea76a7fe5b8dda580a50d8"), looks := false }, kinds := [], alts := [], laidByText := true, laidKinds := [.data, .data, .data], laidTests := true, laidLooks := .later }
def FnExactClaimOfFormulaUptoCardSaid : Prop := Claim7.holds Tryd.pinned (.plain (OpenSpec.upto fnExactClaimOfFormulaSpec)) fnExactClaimOfFormulaUptoCard

/-- THE SECOND FORM's CARD OF 'laws.FnExactClaimOfDepth'. -/
def fnExactClaimOfDepthUptoCard : Claim7 := { stood := { row := fnExactClaimOfDepthUptoRow, standIns := [], harness := (true, "d2e20be26b96bc0881c05f3fb613d506a3d45d15deea76a7fe5b8dda580a50d8"), looks := false }, kinds := [], alts := [], laidByText := true, laidKinds := [.data, .data, .data], laidTests := true, laidLooks := .later }
def FnExactClaimOfDepthUptoCardSaid : Prop := Claim7.holds Tryd.pinned (.plain (OpenSpec.upto fnExactClaimOfDepthSpec)) fnExactClaimOfDepthUptoCard

/-- THE SECOND FORM's CARD OF 'laws.FnExactParseSum'. -/
def fnExactParseSumUptoCard : Claim7 := { stood := { row := fnExactParseSumUptoRow, standIns := [], harness := (true, "d2e20be26b96bc0881c05f3fb613d506a3d45d15deea76a7fe5b8dda580a50d8"), looks := false }, kinds := [], alts := [], laidByText := true, laidKinds := [.data, .pinned], laidTests := true, laidLooks := .later }
def FnExactParseSumUptoCardSaid : Prop := Claim7.holds Tryd.pinned (.plain (OpenSpec.upto fnExactParseSumSpec)) fnExactParseSumUptoCard

/-- THE SECOND FORM's CARD OF 'laws.FnExactSpectrumLine'. -/
def fnExactSpectrumLineUptoCard : Claim7 := { stood := { row := fnExactSpectrumLineUptoRow, standIns := [], harness := (true, "d2e20be26b96bc0881c05f3fb613d506a3d45d15deea76a7fe5b8dda580a50d8"), looks := false }, kinds := [], alts := [], laidByText := true, laidKinds := [.data, .data, .data], laidTests := true, laidLooks := .later }
def FnExactSpectrumLineUptoCardSaid : Prop := Claim7.holds Tryd.pinned (.plain (OpenSpec.upto fnExactSpectrumLineSpec)) fnExactSpectrumLineUptoCard

/-- THE SECOND FORM's CARD OF 'laws.FnExactGameLine'. -/
def fnExactGameLineUptoCard : Claim7 := { stood := { row := fnExactGameLineUptoRow, standIns := [], harness := (true, "d2e20be26b96bc0881c05f3fb613d506a3d45d15deea76a7fe5b8dda580a50d8"), looks := false }, kinds := [], alts := [], laidByText := true, laidKinds := [.data, .data, .data], laidTests := true, laidLooks := .later }
def FnExactGameLineUptoCardSaid : Prop := Claim7.holds Tryd.pinned (.plain (OpenSpec.upto fnExactGameLineSpec)) fnExactGameLineUptoCard

/-- THE SECOND FORM's CARD OF 'laws.FnExactDiagramLine'. -/
def fnExactDiagramLineUptoCard : Claim7 := { stood := { row := fnExactDiagramLineUptoRow, standIns := [], harness := (true, "d2e20be26b96bc0881c05f3fb613d506a3d45d15deea76a7fe5b8dda580a50d8"), looks := false }, kinds := [], alts := [], laidByText := true, laidKinds := [.data, .data, .data], laidTests := true, laidLooks := .later }
def FnExactDiagramLineUptoCardSaid : Prop := Claim7.holds Tryd.pinned (.plain (OpenSpec.upto fnExactDiagramLineSpec)) fnExactDiagramLineUptoCard

/-- THE SECOND FORM's CARD OF 'laws.FnExactSplitLine'. -/
def fnExactSplitLineUptoCard : Claim7 := { stood := { row := fnExactSplitLineUptoRow, standIns := [], harness := (true, "d2e20be26b96bc0881c05f3fb613d506a3d45d15deea76a7fe5b8dda580a50d8"), looks := false }, kinds := [], alts := [], laidByText := true, laidKinds := [.data, .data, .data], laidTests := true, laidLooks := .later }
def FnExactSplitLineUptoCardSaid : Prop := Claim7.holds Tryd.pinned (.plain (OpenSpec.upto fnExactSplitLineSpec)) fnExactSplitLineUptoCard
end Rows
end Go.Proofs.YtfdggelojmofmaaDoor
