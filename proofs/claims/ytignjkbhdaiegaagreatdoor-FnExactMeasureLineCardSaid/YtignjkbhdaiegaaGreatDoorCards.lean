/-
  DERIVED. GIVEN WITH THE SEED: THE CARDS: each row of YtignjkbhdaiegaaGreatDoorRows.lean that lists a variable, with what it lists TIED to the program's text (the seventh form; the later family's looks); each row that meets fmt, with fmt's text TOLD by the authors' own Lean function (tested against real Go, not proved from fmt's source: count such statements apart). THE CARD IS WHAT COUNTS. Prove the row's statement (the work); the ties are given (YtignjkbhdaiegaaGreatDoorTie.lean); close each card by the builder's one call (the guide's Derived/Test/ToyasCard.lean, 'card_holds'). Laid BY PROGRAM, IN A SANDBOX (cutbox-door.mjs). By AI agents, Wed Nov 11 2026. No macro, syntax, notation, axiom, sorry.
-/
import Derived.Test.YtignjkbhdaiegaaGreatDoorRows
import GoSem.ClaimSeven
namespace Go.Proofs.YtignjkbhdaiegaaGreatDoor
namespace Rows

/-- THE TIED CARD OF 'laws.FnExactMeasureLine'. -/
def fnExactMeasureLineCard : Claim7 := { stood := { row := fnExactMeasureLineRow, standIns := [], harness := (true, "3df697b80e20245a0f6683381b3f815e0e2eceb93c34a1672dd2ab9a441da10d"), looks := false }, kinds := [], alts := [], laidByText := true, laidKinds := [.data, .data, .data], laidTests := true, laidLooks := .later }
def FnExactMeasureLineCardSaid : Prop := Claim7.holds Tryz.pinned (.plain (OpenSpec.ofChange fnExactMeasureLineSpec)) fnExactMeasureLineCard

/-- THE TIED CARD OF 'laws.FnExactTableLine'. -/
def fnExactTableLineCard : Claim7 := { stood := { row := fnExactTableLineRow, standIns := [], harness := (true, "3df697b80e20245a0f6683381b3f815e0e2eceb93c34a1672dd2ab9a441da10d"), looks := false }, kinds := [], alts := [], laidByText := true, laidKinds := [.data, .data, .data], laidTests := true, laidLooks := .later }
def FnExactTableLineCardSaid : Prop := Claim7.holds Tryz.pinned (.plain (OpenSpec.ofChange fnExactTableLineSpec)) fnExactTableLineCard

/-- THE TIED CARD OF 'laws.FnExactIsNormalText'. -/
def fnExactIsNormalTextCard : Claim7 := { stood := { row := fnExactIsNormalTextRow, standIns := [], harness := (true, "3df697b80e20245a0f6683381b3f815e0e2eceb93c34a1672dd2ab9a441da10d"), looks := false }, kinds := [], alts := [], laidByText := true, laidKinds := [.data, .data, .data, .data, .pinned], laidTests := true, laidLooks := .later }
def FnExactIsNormalTextCardSaid : Prop := Claim7.holds Tryz.pinned (.plain (OpenSpec.ofChange fnExactIsNormalTextSpec)) fnExactIsNormalTextCard

/-- THE SECOND FORM's CARD OF 'laws.FnExactMeasureLine'. -/
def fnExactMeasureLineUptoCard : Claim7 := { stood := { row := fnExactMeasureLineUptoRow, standIns := [], harness := (true, "3df697b80e20245a0f6683381b3f815e0e2eceb93c34a1672dd2ab9a441da10d"), looks := false }, kinds := [], alts := [], laidByText := true, laidKinds := [.data, .data, .data], laidTests := true, laidLooks := .later }
def FnExactMeasureLineUptoCardSaid : Prop := Claim7.holds Tryz.pinned (.plain (OpenSpec.upto fnExactMeasureLineSpec)) fnExactMeasureLineUptoCard

/-- THE SECOND FORM's CARD OF 'laws.FnExactTableLine'. -/
def fnExactTableLineUptoCard : Claim7 := { stood := { row := fnExactTableLineUptoRow, standIns := [], harness := (true, "3df697b80e20245a0f6683381b3f815e0e2eceb93c34a1672dd2ab9a441da10d"), looks := false }, kinds := [], alts := [], laidByText := true, laidKinds := [.data, .data, .data], laidTests := true, laidLooks := .later }
def FnExactTableLineUptoCardSaid : Prop := Claim7.holds Tryz.pinned (.plain (OpenSpec.upto fnExactTableLineSpec)) fnExactTableLineUptoCard

/-- THE SECOND FORM's CARD OF 'laws.FnExactIsNormalText'. -/
def fnExactIsNormalTextUptoCard : Claim7 := { stood := { row := fnExactIsNormalTextUptoRow, standIns := [], harness := (true, "3df697b80e20245a0f6683381b3f815e0e2eceb93c34a1672dd2ab9a441da10d"), looks := false }, kinds := [], alts := [], laidByText := true, laidKinds := [.data, .data, .data, .data, .pinned], laidTests := true, laidLooks := .later }
def FnExactIsNormalTextUptoCardSaid : Prop := Claim7.holds Tryz.pinned (.plain (OpenSpec.upto fnExactIsNormalTextSpec)) fnExactIsNormalTextUptoCard
end Rows
end Go.Proofs.YtignjkbhdaiegaaGreatDoor
