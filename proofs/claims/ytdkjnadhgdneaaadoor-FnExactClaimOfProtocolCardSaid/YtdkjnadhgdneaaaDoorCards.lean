/-
  DERIVED. GIVEN WITH THE SEED: THE CARDS: each row of YtdkjnadhgdneaaaDoorRows.lean that lists a variable, with what it lists TIED to the program's text (the seventh form; the later family's looks); each row that meets fmt, with fmt's text TOLD by the authors' own Lean function (tested against real Go, not proved from fmt's source: count such statements apart). THE CARD IS WHAT COUNTS. Prove the row's statement (the work); the ties are given (YtdkjnadhgdneaaaDoorTie.lean); close each card by the builder's one call (the guide's Derived/Test/ToyasCard.lean, 'card_holds'). Laid BY PROGRAM, IN A SANDBOX (cutbox-door.mjs). By AI agents, Wed Nov 11 2026. No macro, syntax, notation, axiom, sorry.
-/
import Derived.Test.YtdkjnadhgdneaaaDoorRows
import GoSem.ClaimSeven
namespace Go.Proofs.YtdkjnadhgdneaaaDoor
namespace Rows

/-- THE TIED CARD OF 'laws.FnExactProtocolOf'. -/
def fnExactProtocolOfCard : Claim7 := { stood := { row := fnExactProtocolOfRow, standIns := [], harness := (true, "8bcea8df615a6bb085ca46e07e7d8a45755c86bc55c4574a6a269dc7cc6eb22f"), looks := false }, kinds := [], alts := [], laidByText := true, laidKinds := [.data, .data, .data], laidTests := true, laidLooks := .later }
def FnExactProtocolOfCardSaid : Prop := Claim7.holds Tryd.pinned (.plain (OpenSpec.ofChange fnExactProtocolOfSpec)) fnExactProtocolOfCard

/-- THE TIED CARD OF 'laws.FnExactClaimOfProtocol'. -/
def fnExactClaimOfProtocolCard : Claim7 := { stood := { row := fnExactClaimOfProtocolRow, standIns := [], harness := (true, "8bcea8df615a6bb085ca46e07e7d8a45755c86bc55c4574a6a269dc7cc6eb22f"), looks := false }, kinds := [], alts := [], laidByText := true, laidKinds := [.data, .data, .data], laidTests := true, laidLooks := .later }
def FnExactClaimOfProtocolCardSaid : Prop := Claim7.holds Tryd.pinned (.plain (OpenSpec.ofChange fnExactClaimOfProtocolSpec)) fnExactClaimOfProtocolCard

/-- THE TIED CARD OF 'laws.FnExactClaimOfDepth'. -/
def fnExactClaimOfDepthCard : Claim7 := { stood := { row := fnExactClaimOfDepthRow, standIns := [], harness := (true, "8bcea8df615a6bb085ca46e07e7d8a45755c86bc55c4574a6a269dc7cc6eb22f"), looks := false }, kinds := [], alts := [], laidByText := true, laidKinds := [.data, .data, .data], laidTests := true, laidLooks := .later }
def FnExactClaimOfDepthCardSaid : Prop := Claim7.holds Tryd.pinned (.plain (OpenSpec.ofChange fnExactClaimOfDepthSpec)) fnExactClaimOfDepthCard

/-- THE SECOND FORM's CARD OF 'laws.FnExactProtocolOf'. -/
def fnExactProtocolOfUptoCard : Claim7 := { stood := { row := fnExactProtocolOfUptoRow, standIns := [], harness := (true, "8bcea8df615a6bb085ca46e07e7d8a45755c86bc55c4574a6a269dc7cc6eb22f"), looks := false }, kinds := [], alts := [], laidByText := true, laidKinds := [.data, .data, .data], laidTests := true, laidLooks := .later }
def FnExactProtocolOfUptoCardSaid : Prop := Claim7.holds Tryd.pinned (.plain (OpenSpec.upto fnExactProtocolOfSpec)) fnExactProtocolOfUptoCard

/-- THE SECOND FORM's CARD OF 'laws.FnExactClaimOfProtocol'. -/
def fnExactClaimOfProtocolUptoCard : Claim7 := { stood := { row := fnExactClaimOfProtocolUptoRow, standIns := [], harness := (true, "8bcea8df615a6bb085ca46e07e7d8a45755c86bc55c4574a6a269dc7cc6eb22f"), looks := false }, kinds := [], alts := [], laidByText := true, laidKinds := [.data, .data, .data], laidTests := true, laidLooks := .later }
def FnExactClaimOfProtocolUptoCardSaid : Prop := Claim7.holds Tryd.pinned (.plain (OpenSpec.upto fnExactClaimOfProtocolSpec)) fnExactClaimOfProtocolUptoCard

/-- THE SECOND FORM's CARD OF 'laws.FnExactClaimOfDepth'. -/
def fnExactClaimOfDepthUptoCard : Claim7 := { stood := { row := fnExactClaimOfDepthUptoRow, standIns := [], harness := (true, "8bcea8df615a6bb085ca46e07e7d8a45755c86bc55c4574a6a269dc7cc6eb22f"), looks := false }, kinds := [], alts := [], laidByText := true, laidKinds := [.data, .data, .data], laidTests := true, laidLooks := .later }
def FnExactClaimOfDepthUptoCardSaid : Prop := Claim7.holds Tryd.pinned (.plain (OpenSpec.upto fnExactClaimOfDepthSpec)) fnExactClaimOfDepthUptoCard
end Rows
end Go.Proofs.YtdkjnadhgdneaaaDoor
