/-
  DERIVED. GIVEN WITH THE SEED: THE CARDS: each row of YtbcbmmlpgdndpaaDoorRows.lean that lists a variable, with what it lists TIED to the program's text (the seventh form; the later family's looks); each row that meets fmt, with fmt's text TOLD by the authors' own Lean function (tested against real Go, not proved from fmt's source: count such statements apart). THE CARD IS WHAT COUNTS. Prove the row's statement (the work); the ties are given (YtbcbmmlpgdndpaaDoorTie.lean); close each card by the builder's one call (the guide's Derived/Test/ToyasCard.lean, 'card_holds'). Laid BY PROGRAM, IN A SANDBOX (cutbox-door.mjs). By AI agents, Wed Nov 11 2026. No macro, syntax, notation, axiom, sorry.
-/
import Derived.Test.YtbcbmmlpgdndpaaDoorRows
import GoSem.ClaimSeven
namespace Go.Proofs.YtbcbmmlpgdndpaaDoor
namespace Rows

/-- THE TIED CARD OF 'bastionlaw11.QueryTexts'. -/
def queryTextsCard : Claim7 := { stood := { row := queryTextsRow, standIns := [], harness := (true, "18f654692f80101e469dc6cdffc8551b7ffee99898476628b090ec28c28afac5"), looks := false }, kinds := [], alts := [], laidByText := true, laidKinds := [.data, .pinned], laidTests := true, laidLooks := .later }
def QueryTextsCardSaid : Prop := Claim7.holds Tryd.pinned (.plain (OpenSpec.ofChange queryTextsSpec)) queryTextsCard

/-- THE TIED CARD OF 'bastionlaw11.QueryBack'. -/
def queryBackCard : Claim7 := { stood := { row := queryBackRow, standIns := [], harness := (true, "18f654692f80101e469dc6cdffc8551b7ffee99898476628b090ec28c28afac5"), looks := false }, kinds := [], alts := [], laidByText := true, laidKinds := [.data, .pinned], laidTests := true, laidLooks := .later }
def QueryBackCardSaid : Prop := Claim7.holds Tryd.pinned (.plain (OpenSpec.ofChange queryBackSpec)) queryBackCard

/-- THE TIED CARD OF 'bastionlaw11.QueryJoins'. -/
def queryJoinsCard : Claim7 := { stood := { row := queryJoinsRow, standIns := [], harness := (true, "18f654692f80101e469dc6cdffc8551b7ffee99898476628b090ec28c28afac5"), looks := false }, kinds := [], alts := [], laidByText := true, laidKinds := [.data, .pinned], laidTests := true, laidLooks := .later }
def QueryJoinsCardSaid : Prop := Claim7.holds Tryd.pinned (.plain (OpenSpec.ofChange queryJoinsSpec)) queryJoinsCard

/-- THE TIED CARD OF 'bastionlaw11.QueryPut'. -/
def queryPutCard : Claim7 := { stood := { row := queryPutRow, standIns := [], harness := (true, "18f654692f80101e469dc6cdffc8551b7ffee99898476628b090ec28c28afac5"), looks := false }, kinds := [], alts := [], laidByText := true, laidKinds := [.data, .pinned], laidTests := true, laidLooks := .later }
def QueryPutCardSaid : Prop := Claim7.holds Tryd.pinned (.plain (OpenSpec.ofChange queryPutSpec)) queryPutCard

/-- THE TIED CARD OF 'bastionlaw11.QuerySorted'. -/
def querySortedCard : Claim7 := { stood := { row := querySortedRow, standIns := [], harness := (true, "18f654692f80101e469dc6cdffc8551b7ffee99898476628b090ec28c28afac5"), looks := false }, kinds := [], alts := [], laidByText := true, laidKinds := [.data, .pinned], laidTests := true, laidLooks := .later }
def QuerySortedCardSaid : Prop := Claim7.holds Tryd.pinned (.plain (OpenSpec.ofChange querySortedSpec)) querySortedCard

/-- THE TIED CARD OF 'bastionlaw11.QueryChanges'. -/
def queryChangesCard : Claim7 := { stood := { row := queryChangesRow, standIns := [], harness := (true, "18f654692f80101e469dc6cdffc8551b7ffee99898476628b090ec28c28afac5"), looks := false }, kinds := [], alts := [], laidByText := true, laidKinds := [.data, .pinned], laidTests := true, laidLooks := .later }
def QueryChangesCardSaid : Prop := Claim7.holds Tryd.pinned (.plain (OpenSpec.ofChange queryChangesSpec)) queryChangesCard

/-- THE SECOND FORM's CARD OF 'bastionlaw11.QueryTexts'. -/
def queryTextsUptoCard : Claim7 := { stood := { row := queryTextsUptoRow, standIns := [], harness := (true, "18f654692f80101e469dc6cdffc8551b7ffee99898476628b090ec28c28afac5"), looks := false }, kinds := [], alts := [], laidByText := true, laidKinds := [.data, .pinned], laidTests := true, laidLooks := .later }
def QueryTextsUptoCardSaid : Prop := Claim7.holds Tryd.pinned (.plain (OpenSpec.upto queryTextsSpec)) queryTextsUptoCard

/-- THE SECOND FORM's CARD OF 'bastionlaw11.QueryBack'. -/
def queryBackUptoCard : Claim7 := { stood := { row := queryBackUptoRow, standIns := [], harness := (true, "18f654692f80101e469dc6cdffc8551b7ffee99898476628b090ec28c28afac5"), looks := false }, kinds := [], alts := [], laidByText := true, laidKinds := [.data, .pinned], laidTests := true, laidLooks := .later }
def QueryBackUptoCardSaid : Prop := Claim7.holds Tryd.pinned (.plain (OpenSpec.upto queryBackSpec)) queryBackUptoCard

/-- THE SECOND FORM's CARD OF 'bastionlaw11.QueryJoins'. -/
def queryJoinsUptoCard : Claim7 := { stood := { row := queryJoinsUptoRow, standIns := [], harness := (true, "18f654692f80101e469dc6cdffc8551b7ffee99898476628b090ec28c28afac5"), looks := false }, kinds := [], alts := [], laidByText := true, laidKinds := [.data, .pinned], laidTests := true, laidLooks := .later }
def QueryJoinsUptoCardSaid : Prop := Claim7.holds Tryd.pinned (.plain (OpenSpec.upto queryJoinsSpec)) queryJoinsUptoCard

/-- THE SECOND FORM's CARD OF 'bastionlaw11.QueryPut'. -/
def queryPutUptoCard : Claim7 := { stood := { row := queryPutUptoRow, standIns := [], harness := (true, "18f654692f80101e469dc6cdffc8551b7ffee99898476628b090ec28c28afac5"), looks := false }, kinds := [], alts := [], laidByText := true, laidKinds := [.data, .pinned], laidTests := true, laidLooks := .later }
def QueryPutUptoCardSaid : Prop := Claim7.holds Tryd.pinned (.plain (OpenSpec.upto queryPutSpec)) queryPutUptoCard

/-- THE SECOND FORM's CARD OF 'bastionlaw11.QuerySorted'. -/
def querySortedUptoCard : Claim7 := { stood := { row := querySortedUptoRow, standIns := [], harness := (true, "18f654692f80101e469dc6cdffc8551b7ffee99898476628b090ec28c28afac5"), looks := false }, kinds := [], alts := [], laidByText := true, laidKinds := [.data, .pinned], laidTests := true, laidLooks := .later }
def QuerySortedUptoCardSaid : Prop := Claim7.holds Tryd.pinned (.plain (OpenSpec.upto querySortedSpec)) querySortedUptoCard

/-- THE SECOND FORM's CARD OF 'bastionlaw11.QueryChanges'. -/
def queryChangesUptoCard : Claim7 := { stood := { row := queryChangesUptoRow, standIns := [], harness := (true, "18f654692f80101e469dc6cdffc8551b7ffee99898476628b090ec28c28afac5"), looks := false }, kinds := [], alts := [], laidByText := true, laidKinds := [.data, .pinned], laidTests := true, laidLooks := .later }
def QueryChangesUptoCardSaid : Prop := Claim7.holds Tryd.pinned (.plain (OpenSpec.upto queryChangesSpec)) queryChangesUptoCard
end Rows
end Go.Proofs.YtbcbmmlpgdndpaaDoor
