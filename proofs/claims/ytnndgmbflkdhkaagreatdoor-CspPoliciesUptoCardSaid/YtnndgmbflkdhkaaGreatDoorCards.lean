/-
  DERIVED. GIVEN WITH THE SEED: THE CARDS: each row of YtnndgmbflkdhkaaGreatDoorRows.lean that lists a variable, with what it lists TIED to the program's text (the seventh form; the later family's looks); each row that meets fmt, with fmt's text TOLD by the authors' own Lean function (tested against real Go, not proved from fmt's source: count such statements apart). THE CARD IS WHAT COUNTS. Prove the row's statement (the work); the ties are given (YtnndgmbflkdhkaaGreatDoorTie.lean); close each card by the builder's one call (the guide's Derived/Test/ToyasCard.lean, 'card_holds'). Laid BY PROGRAM, IN A SANDBOX (cutbox-door.mjs). By AI agents, Wed Nov 11 2026. No macro, syntax, notation, axiom, sorry.
-/
import Derived.Test.YtnndgmbflkdhkaaGreatDoorRows
import GoSem.ClaimSeven
namespace Go.Proofs.YtnndgmbflkdhkaaGreatDoor
namespace Rows

/-- THE TIED CARD OF 'bastionlaw14.CspBack'. -/
def cspBackCard : Claim7 := { stood := { row := cspBackRow, standIns := [], harness := (true, "141a9979f22c99ab7e172ad466cb51de3354aeb9c48c03aa063fbf751facf356"), looks := true }, kinds := [], alts := [], laidByText := true, laidKinds := [.data, .data, .data, .data, .sentinel, .sentinel, .listed, .data, .pinned], laidTests := true, laidLooks := .later }
def CspBackCardSaid : Prop := Claim7.holds Tryz.pinned (.plain (OpenSpec.ofChange cspBackSpec)) cspBackCard

/-- THE TIED CARD OF 'bastionlaw14.CspSplits'. -/
def cspSplitsCard : Claim7 := { stood := { row := cspSplitsRow, standIns := [], harness := (true, "141a9979f22c99ab7e172ad466cb51de3354aeb9c48c03aa063fbf751facf356"), looks := true }, kinds := [], alts := [], laidByText := true, laidKinds := [.data, .data, .data, .data, .sentinel, .sentinel, .listed, .data, .pinned], laidTests := true, laidLooks := .later }
def CspSplitsCardSaid : Prop := Claim7.holds Tryz.pinned (.plain (OpenSpec.ofChange cspSplitsSpec)) cspSplitsCard

/-- THE TIED CARD OF 'bastionlaw14.CspCase'. -/
def cspCaseCard : Claim7 := { stood := { row := cspCaseRow, standIns := [], harness := (true, "141a9979f22c99ab7e172ad466cb51de3354aeb9c48c03aa063fbf751facf356"), looks := true }, kinds := [], alts := [], laidByText := true, laidKinds := [.data, .data, .data, .data, .sentinel, .sentinel, .listed, .data, .pinned], laidTests := true, laidLooks := .later }
def CspCaseCardSaid : Prop := Claim7.holds Tryz.pinned (.plain (OpenSpec.ofChange cspCaseSpec)) cspCaseCard

/-- THE TIED CARD OF 'bastionlaw14.CspSources'. -/
def cspSourcesCard : Claim7 := { stood := { row := cspSourcesRow, standIns := [], harness := (true, "141a9979f22c99ab7e172ad466cb51de3354aeb9c48c03aa063fbf751facf356"), looks := true }, kinds := [], alts := [], laidByText := true, laidKinds := [.data, .data, .data, .data, .sentinel, .sentinel, .listed, .data, .pinned], laidTests := true, laidLooks := .later }
def CspSourcesCardSaid : Prop := Claim7.holds Tryz.pinned (.plain (OpenSpec.ofChange cspSourcesSpec)) cspSourcesCard

/-- THE TIED CARD OF 'bastionlaw14.CspOwn'. -/
def cspOwnCard : Claim7 := { stood := { row := cspOwnRow, standIns := [], harness := (true, "141a9979f22c99ab7e172ad466cb51de3354aeb9c48c03aa063fbf751facf356"), looks := true }, kinds := [], alts := [], laidByText := true, laidKinds := [.data, .data, .data, .data, .sentinel, .sentinel, .listed, .data, .pinned], laidTests := true, laidLooks := .later }
def CspOwnCardSaid : Prop := Claim7.holds Tryz.pinned (.plain (OpenSpec.ofChange cspOwnSpec)) cspOwnCard

/-- THE TIED CARD OF 'bastionlaw14.CspHeaders'. -/
def cspHeadersCard : Claim7 := { stood := { row := cspHeadersRow, standIns := [], harness := (true, "141a9979f22c99ab7e172ad466cb51de3354aeb9c48c03aa063fbf751facf356"), looks := true }, kinds := [], alts := [], laidByText := true, laidKinds := [.data, .data, .data, .data, .sentinel, .sentinel, .listed, .data, .pinned], laidTests := true, laidLooks := .later }
def CspHeadersCardSaid : Prop := Claim7.holds Tryz.pinned (.plain (OpenSpec.ofChange cspHeadersSpec)) cspHeadersCard

/-- THE TIED CARD OF 'bastionlaw14.CspPolicies'. -/
def cspPoliciesCard : Claim7 := { stood := { row := cspPoliciesRow, standIns := [], harness := (true, "141a9979f22c99ab7e172ad466cb51de3354aeb9c48c03aa063fbf751facf356"), looks := true }, kinds := [], alts := [], laidByText := true, laidKinds := [.data, .data, .data, .data, .sentinel, .sentinel, .listed, .data, .pinned], laidTests := true, laidLooks := .later }
def CspPoliciesCardSaid : Prop := Claim7.holds Tryz.pinned (.plain (OpenSpec.ofChange cspPoliciesSpec)) cspPoliciesCard

/-- THE SECOND FORM's CARD OF 'bastionlaw14.CspBack'. -/
def cspBackUptoCard : Claim7 := { stood := { row := cspBackUptoRow, standIns := [], harness := (true, "141a9979f22c99ab7e172ad466cb51de3354aeb9c48c03aa063fbf751facf356"), looks := true }, kinds := [], alts := [], laidByText := true, laidKinds := [.data, .data, .data, .data, .sentinel, .sentinel, .listed, .data, .pinned], laidTests := true, laidLooks := .later }
def CspBackUptoCardSaid : Prop := Claim7.holds Tryz.pinned (.plain (OpenSpec.upto cspBackSpec)) cspBackUptoCard

/-- THE SECOND FORM's CARD OF 'bastionlaw14.CspSplits'. -/
def cspSplitsUptoCard : Claim7 := { stood := { row := cspSplitsUptoRow, standIns := [], harness := (true, "141a9979f22c99ab7e172ad466cb51de3354aeb9c48c03aa063fbf751facf356"), looks := true }, kinds := [], alts := [], laidByText := true, laidKinds := [.data, .data, .data, .data, .sentinel, .sentinel, .listed, .data, .pinned], laidTests := true, laidLooks := .later }
def CspSplitsUptoCardSaid : Prop := Claim7.holds Tryz.pinned (.plain (OpenSpec.upto cspSplitsSpec)) cspSplitsUptoCard

/-- THE SECOND FORM's CARD OF 'bastionlaw14.CspCase'. -/
def cspCaseUptoCard : Claim7 := { stood := { row := cspCaseUptoRow, standIns := [], harness := (true, "141a9979f22c99ab7e172ad466cb51de3354aeb9c48c03aa063fbf751facf356"), looks := true }, kinds := [], alts := [], laidByText := true, laidKinds := [.data, .data, .data, .data, .sentinel, .sentinel, .listed, .data, .pinned], laidTests := true, laidLooks := .later }
def CspCaseUptoCardSaid : Prop := Claim7.holds Tryz.pinned (.plain (OpenSpec.upto cspCaseSpec)) cspCaseUptoCard

/-- THE SECOND FORM's CARD OF 'bastionlaw14.CspSources'. -/
def cspSourcesUptoCard : Claim7 := { stood := { row := cspSourcesUptoRow, standIns := [], harness := (true, "141a9979f22c99ab7e172ad466cb51de3354aeb9c48c03aa063fbf751facf356"), looks := true }, kinds := [], alts := [], laidByText := true, laidKinds := [.data, .data, .data, .data, .sentinel, .sentinel, .listed, .data, .pinned], laidTests := true, laidLooks := .later }
def CspSourcesUptoCardSaid : Prop := Claim7.holds Tryz.pinned (.plain (OpenSpec.upto cspSourcesSpec)) cspSourcesUptoCard

/-- THE SECOND FORM's CARD OF 'bastionlaw14.CspOwn'. -/
def cspOwnUptoCard : Claim7 := { stood := { row := cspOwnUptoRow, standIns := [], harness := (true, "141a9979f22c99ab7e172ad466cb51de3354aeb9c48c03aa063fbf751facf356"), looks := true }, kinds := [], alts := [], laidByText := true, laidKinds := [.data, .data, .data, .data, .sentinel, .sentinel, .listed, .data, .pinned], laidTests := true, laidLooks := .later }
def CspOwnUptoCardSaid : Prop := Claim7.holds Tryz.pinned (.plain (OpenSpec.upto cspOwnSpec)) cspOwnUptoCard

/-- THE SECOND FORM's CARD OF 'bastionlaw14.CspHeaders'. -/
def cspHeadersUptoCard : Claim7 := { stood := { row := cspHeadersUptoRow, standIns := [], harness := (true, "141a9979f22c99ab7e172ad466cb51de3354aeb9c48c03aa063fbf751facf356"), looks := true }, kinds := [], alts := [], laidByText := true, laidKinds := [.data, .data, .data, .data, .sentinel, .sentinel, .listed, .data, .pinned], laidTests := true, laidLooks := .later }
def CspHeadersUptoCardSaid : Prop := Claim7.holds Tryz.pinned (.plain (OpenSpec.upto cspHeadersSpec)) cspHeadersUptoCard

/-- THE SECOND FORM's CARD OF 'bastionlaw14.CspPolicies'. -/
def cspPoliciesUptoCard : Claim7 := { stood := { row := cspPoliciesUptoRow, standIns := [], harness := (true, "141a9979f22c99ab7e172ad466cb51de3354aeb9c48c03aa063fbf751facf356"), looks := true }, kinds := [], alts := [], laidByText := true, laidKinds := [.data, .data, .data, .data, .sentinel, .sentinel, .listed, .data, .pinned], laidTests := true, laidLooks := .later }
def CspPoliciesUptoCardSaid : Prop := Claim7.holds Tryz.pinned (.plain (OpenSpec.upto cspPoliciesSpec)) cspPoliciesUptoCard
end Rows
end Go.Proofs.YtnndgmbflkdhkaaGreatDoor
