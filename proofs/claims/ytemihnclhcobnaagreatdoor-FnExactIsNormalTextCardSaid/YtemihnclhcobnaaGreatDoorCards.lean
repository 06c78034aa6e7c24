/-
  DERIVED. GIVEN WITH THE SEED: THE CARDS: each row of YtemihnclhcobnaaGreatDoorRows.lean that lists a variable, with what it lists TIED to the program's text (the seventh form; the later family's looks); each row that meets fmt, with fmt's text TOLD by the authors' own Lean function (tested against real Go, not proved from fmt's source: count such statements apart). THE CARD IS WHAT COUNTS. Prove the row's statement (the work); the ties are given (YtemihnclhcobnaaGreatDoorTie.lean); close each card by the builder's one call (the guide's Derived/Test/ToyasCard.lean, 'card_holds'). Laid BY PROGRAM, IN A SANDBOX (cutbox-door.mjs). By AI agents, Wed Nov 11 2026. No macro, syntax, notation, axiom, sorry.
-/
import Derived.Test.YtemihnclhcobnaaGreatDoorRows
import GoSem.ClaimSeven
namespace Go.Proofs.YtemihnclhcobnaaGreatDoor
namespace Rows

/-- THE TIED CARD OF 'laws.FnExactTableLine'. -/
def fnExactTableLineCard : Claim7 := { stood := { row := fnExactTableLineRow, standIns := [], harness := (true, "a995deefdc2a0d9234742b8e7a2b487744575527d14801a2960b14dad51cb6f8"), looks := false }, kinds := [], alts := [], laidByText := true, laidKinds := [.data, .data, .data], laidTests := true, laidLooks := .later }
def FnExactTableLineCardSaid : Prop := Claim7.holds Tryz.pinned (.plain (OpenSpec.ofChange fnExactTableLineSpec)) fnExactTableLineCard

/-- THE TIED CARD OF 'laws.FnExactReadAs'. -/
def fnExactReadAsCard : Claim7 := { stood := { row := fnExactReadAsRow, standIns := [], harness := (true, "a995deefdc2a0d9234742b8e7a2b487744575527d14801a2960b14dad51cb6f8"), looks := false }, kinds := [], alts := [], laidByText := true, laidKinds := [.data, .pinned], laidTests := true, laidLooks := .later }
def FnExactReadAsCardSaid : Prop := Claim7.holds Tryz.pinned (.plain (OpenSpec.ofChange fnExactReadAsSpec)) fnExactReadAsCard

/-- THE TIED CARD OF 'laws.FnExactWriteAs'. -/
def fnExactWriteAsCard : Claim7 := { stood := { row := fnExactWriteAsRow, standIns := [], harness := (true, "a995deefdc2a0d9234742b8e7a2b487744575527d14801a2960b14dad51cb6f8"), looks := false }, kinds := [], alts := [], laidByText := true, laidKinds := [.data, .data, .data], laidTests := true, laidLooks := .later }
def FnExactWriteAsCardSaid : Prop := Claim7.holds Tryz.pinned (.plain (OpenSpec.ofChange fnExactWriteAsSpec)) fnExactWriteAsCard

/-- THE TIED CARD OF 'laws.FnExactIsNormalText'. -/
def fnExactIsNormalTextCard : Claim7 := { stood := { row := fnExactIsNormalTextRow, standIns := [], harness := (true, "a995deefdc2a0d9234742b8e7a2b487744575527d14801a2960b14dad51cb6f8"), looks := false }, kinds := [], alts := [], laidByText := true, laidKinds := [.data, .data, .data, .data, .pinned], laidTests := true, laidLooks := .later }
def FnExactIsNormalTextCardSaid : Prop := Claim7.holds Tryz.pinned (.plain (OpenSpec.ofChange fnExactIsNormalTextSpec)) fnExactIsNormalTextCard

/-- THE TIED CARD OF 'laws.FnExactFormLine'. -/
def fnExactFormLineCard : Claim7 := { stood := { row := fnExactFormLineRow, standIns := [], harness := (true, "a995deefdc2a0d9234742b8e7a2b487744575527d14801a2960b14dad51cb6f8"), looks := false }, kinds := [], alts := [], laidByText := true, laidKinds := [.data, .data, .data], laidTests := true, laidLooks := .later }
def FnExactFormLineCardSaid : Prop := Claim7.holds Tryz.pinned (.plain (OpenSpec.ofChange fnExactFormLineSpec)) fnExactFormLineCard

/-- THE SECOND FORM's CARD OF 'laws.FnExactTableLine'. -/
def fnExactTableLineUptoCard : Claim7 := { stood := { row := fnExactTableLineUptoRow, standIns := [], harness := (true, "a995deefdc2a0d9234742b8e7a2b487744575527d14801a2960b14dad51cb6f8"), looks := false }, kinds := [], alts := [], laidByText := true, laidKinds := [.data, .data, .data], laidTests := true, laidLooks := .later }
def FnExactTableLineUptoCardSaid : Prop := Claim7.holds Tryz.pinned (.plain (OpenSpec.upto fnExactTableLineSpec)) fnExactTableLineUptoCard

/-- THE SECOND FORM's CARD OF 'laws.FnExactReadAs'. -/
def fnExactReadAsUptoCard : Claim7 := { stood := { row := fnExactReadAsUptoRow, standIns := [], harness := (true, "a995deefdc2a0d9234742b8e7a2b487744575527d14801a2960b14dad51cb6f8"), looks := false }, kinds := [], alts := [], laidByText := true, laidKinds := [.data, .pinned], laidTests := true, laidLooks := .later }
def FnExactReadAsUptoCardSaid : Prop := Claim7.holds Tryz.pinned (.plain (OpenSpec.upto fnExactReadAsSpec)) fnExactReadAsUptoCard

/-- THE SECOND FORM's CARD OF 'laws.FnExactWriteAs'. -/
def fnExactWriteAsUptoCard : Claim7 := { stood := { row := fnExactWriteAsUptoRow, standIns := [], harness := (true, "a995deefdc2a0d9234742b8e7a2b487744575527d14801a2960b14dad51cb6f8"), looks := false }, kinds := [], alts := [], laidByText := true, laidKinds := [.data, .data, .data], laidTests := true, laidLooks := .later }
def FnExactWriteAsUptoCardSaid : Prop := Claim7.holds Tryz.pinned (.plain (OpenSpec.upto fnExactWriteAsSpec)) fnExactWriteAsUptoCard

/-- THE SECOND FORM's CARD OF 'laws.FnExactIsNormalText'. -/
def fnExactIsNormalTextUptoCard : Claim7 := { stood := { row := fnExactIsNormalTextUptoRow, standIns := [], harness := (true, "a995deefdc2a0d9234742b8e7a2b487744575527d14801a2960b14dad51cb6f8"), looks := false }, kinds := [], alts := [], laidByText := true, laidKinds := [.data, .data, .data, .data, .pinned], laidTests := true, laidLooks := .later }
def FnExactIsNormalTextUptoCardSaid : Prop := Claim7.holds Tryz.pinned (.plain (OpenSpec.upto fnExactIsNormalTextSpec)) fnExactIsNormalTextUptoCard

/-- THE SECOND FORM's CARD OF 'laws.FnExactFormLine'. -/
def fnExactFormLineUptoCard : Claim7 := { stood := { row := fnExactFormLineUptoRow, standIns := [], harness := (true, "a995deefdc2a0d9234742b8e7a2b487744575527d14801a2960b14dad51cb6f8"), looks := false }, kinds := [], alts := [], laidByText := true, laidKinds := [.data, .data, .data], laidTests := true, laidLooks := .later }
def FnExactFormLineUptoCardSaid : Prop := Claim7.holds Tryz.pinned (.plain (OpenSpec.upto fnExactFormLineSpec)) fnExactFormLineUptoCard
end Rows
end Go.Proofs.YtemihnclhcobnaaGreatDoor
