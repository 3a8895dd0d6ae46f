/-
  DERIVED. GIVEN WITH THE SEED: THE CARDS: each row of YtmjnipifpeehgaaDoorRows.lean that lists a variable, with what it lists TIED to the program's text (the seventh form; the later family's looks); each row that meets fmt, with fmt's text TOLD by the authors' own Lean function (tested against real Go, not proved from fmt's source: count such statements apart). THE CARD IS WHAT COUNTS. Prove the row's statement (the work); the ties are given (YtmjnipifpeehgaaDoorTie.lean); close each card by the builder's one call (the guide's Derived/Test/ToyasCard.lean, 'card_holds'). Laid BY PROGRAM, IN A SANDBOX (cutbox-door.mjs). By AI agents, Wed Nov 11 2026. No macro, syntax, notation, axiom, sorry.
-/
import Derived.Test.YtmjnipifpeehgaaDoorRows
import GoSem.ClaimSeven
namespace Go.Proofs.YtmjnipifpeehgaaDoor
namespace Rows

/-- THE TIED CARD OF 'bastionlaw04.NfcOrder'. -/
def nfcOrderCard : Claim7 := { stood := { row := nfcOrderRow, standIns := [], harness := (true, "11f4a4d0ab65682b4ee5005edd599d5fc13c44dac5bb68f75afb5847bf1434d9"), looks := false }, kinds := [], alts := [], laidByText := true, laidKinds := [.data, .pinned], laidTests := true, laidLooks := .later }
def NfcOrderCardSaid : Prop := Claim7.holds Tryd.pinned (.plain (OpenSpec.ofChange nfcOrderSpec)) nfcOrderCard

/-- THE TIED CARD OF 'bastionlaw04.NfcParts'. -/
def nfcPartsCard : Claim7 := { stood := { row := nfcPartsRow, standIns := [], harness := (true, "11f4a4d0ab65682b4ee5005edd599d5fc13c44dac5bb68f75afb5847bf1434d9"), looks := false }, kinds := [], alts := [], laidByText := true, laidKinds := [.data, .pinned], laidTests := true, laidLooks := .later }
def NfcPartsCardSaid : Prop := Claim7.holds Tryd.pinned (.plain (OpenSpec.ofChange nfcPartsSpec)) nfcPartsCard

/-- THE TIED CARD OF 'bastionlaw04.NfcFew'. -/
def nfcFewCard : Claim7 := { stood := { row := nfcFewRow, standIns := [], harness := (true, "11f4a4d0ab65682b4ee5005edd599d5fc13c44dac5bb68f75afb5847bf1434d9"), looks := false }, kinds := [], alts := [], laidByText := true, laidKinds := [.data, .pinned], laidTests := true, laidLooks := .later }
def NfcFewCardSaid : Prop := Claim7.holds Tryd.pinned (.plain (OpenSpec.ofChange nfcFewSpec)) nfcFewCard

/-- THE TIED CARD OF 'bastionlaw04.NfcForms'. -/
def nfcFormsCard : Claim7 := { stood := { row := nfcFormsRow, standIns := [], harness := (true, "11f4a4d0ab65682b4ee5005edd599d5fc13c44dac5bb68f75afb5847bf1434d9"), looks := false }, kinds := [], alts := [], laidByText := true, laidKinds := [.data, .pinned], laidTests := true, laidLooks := .later }
def NfcFormsCardSaid : Prop := Claim7.holds Tryd.pinned (.plain (OpenSpec.ofChange nfcFormsSpec)) nfcFormsCard

/-- THE TIED CARD OF 'bastionlaw04.NfcHangul'. -/
def nfcHangulCard : Claim7 := { stood := { row := nfcHangulRow, standIns := [], harness := (true, "11f4a4d0ab65682b4ee5005edd599d5fc13c44dac5bb68f75afb5847bf1434d9"), looks := false }, kinds := [], alts := [], laidByText := true, laidKinds := [.data, .pinned], laidTests := true, laidLooks := .later }
def NfcHangulCardSaid : Prop := Claim7.holds Tryd.pinned (.plain (OpenSpec.ofChange nfcHangulSpec)) nfcHangulCard

/-- THE SECOND FORM's CARD OF 'bastionlaw04.NfcOrder'. -/
def nfcOrderUptoCard : Claim7 := { stood := { row := nfcOrderUptoRow, standIns := [], harness := (true, "11f4a4d0ab65682b4ee5005edd599d5fc13c44dac5bb68f75afb5847bf1434d9"), looks := false }, kinds := [], alts := [], laidByText := true, laidKinds := [.data, .pinned], laidTests := true, laidLooks := .later }
def NfcOrderUptoCardSaid : Prop := Claim7.holds Tryd.pinned (.plain (OpenSpec.upto nfcOrderSpec)) nfcOrderUptoCard

/-- THE SECOND FORM's CARD OF 'bastionlaw04.NfcParts'. -/
def nfcPartsUptoCard : Claim7 := { stood := { row := nfcPartsUptoRow, standIns := [], harness := (true, "11f4a4d0ab65682b4ee5005edd599d5fc13c44dac5bb68f75afb5847bf1434d9"), looks := false }, kinds := [], alts := [], laidByText := true, laidKinds := [.data, .pinned], laidTests := true, laidLooks := .later }
def NfcPartsUptoCardSaid : Prop := Claim7.holds Tryd.pinned (.plain (OpenSpec.upto nfcPartsSpec)) nfcPartsUptoCard

/-- THE SECOND FORM's CARD OF 'bastionlaw04.NfcFew'. -/
def nfcFewUptoCard : Claim7 := { stood := { row := nfcFewUptoRow, standIns := [], harness := (true, "11f4a4d0ab65682b4ee5005edd599d5fc13c44dac5bb68f75afb5847bf1434d9"), looks := false }, kinds := [], alts := [], laidByText := true, laidKinds := [.data, .pinned], laidTests := true, laidLooks := .later }
def NfcFewUptoCardSaid : Prop := Claim7.holds Tryd.pinned (.plain (OpenSpec.upto nfcFewSpec)) nfcFewUptoCard

/-- THE SECOND FORM's CARD OF 'bastionlaw04.NfcForms'. -/
def nfcFormsUptoCard : Claim7 := { stood := { row := nfcFormsUptoRow, standIns := [], harness := (true, "11f4a4d0ab65682b4ee5005edd599d5fc13c44dac5bb68f75afb5847bf1434d9"), looks := false }, kinds := [], alts := [], laidByText := true, laidKinds := [.data, .pinned], laidTests := true, laidLooks := .later }
def NfcFormsUptoCardSaid : Prop := Claim7.holds Tryd.pinned (.plain (OpenSpec.upto nfcFormsSpec)) nfcFormsUptoCard

/-- THE SECOND FORM's CARD OF 'bastionlaw04.NfcHangul'. -/
def nfcHangulUptoCard : Claim7 := { stood := { row := nfcHangulUptoRow, standIns := [], harness := (true, "11f4a4d0ab65682b4ee5005edd599d5fc13c44dac5bb68f75afb5847bf1434d9"), looks := false }, kinds := [], alts := [], laidByText := true, laidKinds := [.data, .pinned], laidTests := true, laidLooks := .later }
def NfcHangulUptoCardSaid : Prop := Claim7.holds Tryd.pinned (.plain (OpenSpec.upto nfcHangulSpec)) nfcHangulUptoCard
end Rows
end Go.Proofs.YtmjnipifpeehgaaDoor
