/-
  NARROWER THAN 'FOR EVERY INPUT', by the rows' own cells (each row's printed sentence says how): NfcOrder: laid · NfcParts: laid · NfcFew: laid · NfcForms: laid · NfcHangul: laid.
  DERIVED. THE GIVEN ROWS OF THIS SEAT. 5 by the template 'for every input the law returns true; each argument reads behind the call as it read before'; 0 by the template 'total and deterministic' (their statements: YtmjnipifpeehgaaDoorTotals.lean).
  GIVEN WITH THE SEED: the statements are not yours to turn. If you find one false, say at which input.
  Laid BY PROGRAM, IN A SANDBOX (cutbox-rows.mjs): the forced cells as the released guide's own fill.sh prints them over the translation 9f0c57ce9f35e770… (all of the seat's roots in one cut). By AI agents, Wed Nov 11 2026. No macro, syntax, notation, axiom, sorry.
-/
import Derived.Test.YtmjnipifpeehgaaDoorChecked
import GoSem.PinnedTables
import GoSem.Claim
import GoSem.ClaimJoined
import GoSem.ClaimMapViews
import Derived.JoinedTies
import Derived.KernelRfl
namespace Go.Proofs.YtmjnipifpeehgaaDoor
/- THE CELL 'sum', in the pinned program and in every row, IS THE sha256 OF THE DUMP (.gsa) THAT YtmjnipifpeehgaaDoorProg.lean LOADS. Nothing in Lean hashes anything: it is a label: what it is worth is what the hold of that sum in a sandbox is worth. -/
noncomputable def Tryd.pinned : Pinned := { name := "ytmjnipifpeehgaadoor", sum := "9f0c57ce9f35e770fa1b9cb879ddde4e2465a2f1b3fcfa51386894c8455718c4", checked := Tryd.checked }
namespace Rows
def none {H : Type} : Left H := { results := [], args := [] }

/- WHAT THE LISTED PACKAGE-LEVEL VARIABLES READ AS WHEN THE CALL BEGINS. Each datum BY PROGRAM (the guide's laid-datum.mjs) off the statement by which the dump's own 'gosem.cut.vars' lays the variable. In a bare row this is a premise. The card (YtmjnipifpeehgaaDoorCards.lean) ties it to the program's text. -/
def laid_unicode_utf8_acceptRanges {H : Type} : DataW H := .agg [.agg [.lit (.int .u8 128), .lit (.int .u8 191)], .agg [.lit (.int .u8 160), .lit (.int .u8 191)], .agg [.lit (.int .u8 128), .lit (.int .u8 159)], .agg [.lit (.int .u8 144), .lit (.int .u8 191)], .agg [.lit (.int .u8 128), .lit (.int .u8 143)], .agg [.lit (.int .u8 0), .lit (.int .u8 0)], .agg [.lit (.int .u8 0), .lit (.int .u8 0)], .agg [.lit (.int .u8 0), .lit (.int .u8 0)], .agg [.lit (.int .u8 0), .lit (.int .u8 0)], .agg [.lit (.int .u8 0), .lit (.int .u8 0)], .agg [.lit (.int .u8 0), .lit (.int .u8 0)], .agg [.lit (.int .u8 0), .lit (.int .u8 0)], .agg [.lit (.int .u8 0), .lit (.int .u8 0)], .agg [.lit (.int .u8 0), .lit (.int .u8 0)], .agg [.lit (.int .u8 0), .lit (.int .u8 0)], .agg [.lit (.int .u8 0), .lit (.int .u8 0)]]
/-- One of Go's own tables, pinned by name: the form's constant. -/
def laid_unicode_utf8_first : DataW Unit := Go.Pinned.utf8First

/-- 'bastionlaw04.NfcOrder': WHATEVER THE INPUT: true; the input reads as it did. -/
def nfcOrderSpec : ChangeSpec := { name := "nfcOrder", fn := fun _ => fun
  | [d1, d2] => { results := [.lit (.bool true)], args := [d1, d2] }
  | _ => none }
def nfcOrderRow : OpenClaim := { program := "ytmjnipifpeehgaadoor", sum := "9f0c57ce9f35e770fa1b9cb879ddde4e2465a2f1b3fcfa51386894c8455718c4", func := "bastion/bastionlaw04.NfcOrder", spec := "nfcOrder", unfollowed := true, recurses := true, named := ["unicode/utf8.first", "unicode/utf8.acceptRanges"], plainKeys := false, apart := false, laid := [("unicode/utf8.acceptRanges", laid_unicode_utf8_acceptRanges), ("unicode/utf8.first", laid_unicode_utf8_first)] }
def NfcOrderSaid : Prop := nfcOrderRow.holds Tryd.pinned (OpenSpec.ofChange nfcOrderSpec)

/-- ITS FALSE NEIGHBOUR: 'it returns false'. Refute it at one input. -/
def nfcOrderWrong : ChangeSpec := { name := "nfcOrder", fn := fun _ => fun
  | [d1, d2] => { results := [.lit (.bool false)], args := [d1, d2] }
  | _ => none }
def NfcOrderWrongFalsely : Prop := nfcOrderRow.holds Tryd.pinned (OpenSpec.ofChange nfcOrderWrong)

/-- 'bastionlaw04.NfcParts': WHATEVER THE INPUT: true; the input reads as it did. -/
def nfcPartsSpec : ChangeSpec := { name := "nfcParts", fn := fun _ => fun
  | [d1, d2, d3] => { results := [.lit (.bool true)], args := [d1, d2, d3] }
  | _ => none }
def nfcPartsRow : OpenClaim := { program := "ytmjnipifpeehgaadoor", sum := "9f0c57ce9f35e770fa1b9cb879ddde4e2465a2f1b3fcfa51386894c8455718c4", func := "bastion/bastionlaw04.NfcParts", spec := "nfcParts", unfollowed := true, recurses := true, named := ["unicode/utf8.first", "unicode/utf8.acceptRanges"], plainKeys := false, apart := false, laid := [("unicode/utf8.acceptRanges", laid_unicode_utf8_acceptRanges), ("unicode/utf8.first", laid_unicode_utf8_first)] }
def NfcPartsSaid : Prop := nfcPartsRow.holds Tryd.pinned (OpenSpec.ofChange nfcPartsSpec)

/-- ITS FALSE NEIGHBOUR: 'it returns false'. Refute it at one input. -/
def nfcPartsWrong : ChangeSpec := { name := "nfcParts", fn := fun _ => fun
  | [d1, d2, d3] => { results := [.lit (.bool false)], args := [d1, d2, d3] }
  | _ => none }
def NfcPartsWrongFalsely : Prop := nfcPartsRow.holds Tryd.pinned (OpenSpec.ofChange nfcPartsWrong)

/-- 'bastionlaw04.NfcFew': WHATEVER THE INPUT: true; the input reads as it did. -/
def nfcFewSpec : ChangeSpec := { name := "nfcFew", fn := fun _ => fun
  | [d1, d2] => { results := [.lit (.bool true)], args := [d1, d2] }
  | _ => none }
def nfcFewRow : OpenClaim := { program := "ytmjnipifpeehgaadoor", sum := "9f0c57ce9f35e770fa1b9cb879ddde4e2465a2f1b3fcfa51386894c8455718c4", func := "bastion/bastionlaw04.NfcFew", spec := "nfcFew", unfollowed := true, recurses := true, named := ["unicode/utf8.first", "unicode/utf8.acceptRanges"], plainKeys := false, apart := false, laid := [("unicode/utf8.acceptRanges", laid_unicode_utf8_acceptRanges), ("unicode/utf8.first", laid_unicode_utf8_first)] }
def NfcFewSaid : Prop := nfcFewRow.holds Tryd.pinned (OpenSpec.ofChange nfcFewSpec)

/-- ITS FALSE NEIGHBOUR: 'it returns false'. Refute it at one input. -/
def nfcFewWrong : ChangeSpec := { name := "nfcFew", fn := fun _ => fun
  | [d1, d2] => { results := [.lit (.bool false)], args := [d1, d2] }
  | _ => none }
def NfcFewWrongFalsely : Prop := nfcFewRow.holds Tryd.pinned (OpenSpec.ofChange nfcFewWrong)

/-- 'bastionlaw04.NfcForms': WHATEVER THE INPUT: true; the input reads as it did. -/
def nfcFormsSpec : ChangeSpec := { name := "nfcForms", fn := fun _ => fun
  | [d1, d2] => { results := [.lit (.bool true)], args := [d1, d2] }
  | _ => none }
def nfcFormsRow : OpenClaim := { program := "ytmjnipifpeehgaadoor", sum := "9f0c57ce9f35e770fa1b9cb879ddde4e2465a2f1b3fcfa51386894c8455718c4", func := "bastion/bastionlaw04.NfcForms", spec := "nfcForms", unfollowed := true, recurses := true, named := ["unicode/utf8.first", "unicode/utf8.acceptRanges"], plainKeys := false, apart := false, laid := [("unicode/utf8.acceptRanges", laid_unicode_utf8_acceptRanges), ("unicode/utf8.first", laid_unicode_utf8_first)] }
def NfcFormsSaid : Prop := nfcFormsRow.holds Tryd.pinned (OpenSpec.ofChange nfcFormsSpec)

/-- ITS FALSE NEIGHBOUR: 'it returns false'. Refute it at one input. -/
def nfcFormsWrong : ChangeSpec := { name := "nfcForms", fn := fun _ => fun
  | [d1, d2] => { results := [.lit (.bool false)], args := [d1, d2] }
  | _ => none }
def NfcFormsWrongFalsely : Prop := nfcFormsRow.holds Tryd.pinned (OpenSpec.ofChange nfcFormsWrong)

/-- 'bastionlaw04.NfcHangul': WHATEVER THE INPUT: true; the input reads as it did. -/
def nfcHangulSpec : ChangeSpec := { name := "nfcHangul", fn := fun _ => fun
  | [d1, d2] => { results := [.lit (.bool true)], args := [d1, d2] }
  | _ => none }
def nfcHangulRow : OpenClaim := { program := "ytmjnipifpeehgaadoor", sum := "9f0c57ce9f35e770fa1b9cb879ddde4e2465a2f1b3fcfa51386894c8455718c4", func := "bastion/bastionlaw04.NfcHangul", spec := "nfcHangul", unfollowed := true, recurses := true, named := ["unicode/utf8.first", "unicode/utf8.acceptRanges"], plainKeys := false, apart := false, laid := [("unicode/utf8.acceptRanges", laid_unicode_utf8_acceptRanges), ("unicode/utf8.first", laid_unicode_utf8_first)] }
def NfcHangulSaid : Prop := nfcHangulRow.holds Tryd.pinned (OpenSpec.ofChange nfcHangulSpec)

/-- ITS FALSE NEIGHBOUR: 'it returns false'. Refute it at one input. -/
def nfcHangulWrong : ChangeSpec := { name := "nfcHangul", fn := fun _ => fun
  | [d1, d2] => { results := [.lit (.bool false)], args := [d1, d2] }
  | _ => none }
def NfcHangulWrongFalsely : Prop := nfcHangulRow.holds Tryd.pinned (OpenSpec.ofChange nfcHangulWrong)

/- THE SECOND FORM. 'bulk': how many values and letters a reading holds, each counted each time it is reached (what is shared counts as often as it is met; a slice's spare places count too). A statement '..UptoSaid' is the law's where the arguments, and the package variables that the reading takes, are together of bulk at most 1048576: NARROWER than '..Said'. Prove '..Said' where nothing that the law and all that it calls make is longer than what came in: it says more and counts as full. Else prove '..UptoSaid'. A law counts once. -/
mutual
def uptoBulk {H : Type} : DataW H → Nat
  | .lit (.string bytes) => bytes.length + 1
  | .lit _ => 1
  | .nil => 1
  | .ptr d => uptoBulk d + 1
  | .slice elems spare => uptoBulkAll elems + uptoBulkAll spare + 1
  | .agg parts => uptoBulkAll parts + 1
  | .iface _ d => uptoBulk d + 1
  | .map entries => uptoBulkEntries entries + 1
  | .held _ => 1
def uptoBulkAll {H : Type} : List (DataW H) → Nat
  | [] => 0
  | d :: r => uptoBulk d + uptoBulkAll r
def uptoBulkEntries {H : Type} : List (Lit × DataW H) → Nat
  | [] => 0
  | x :: r => uptoBulkEntry x + uptoBulkEntries r
def uptoBulkEntry {H : Type} : Lit × DataW H → Nat
  | (.string bytes, d) => bytes.length + uptoBulk d + 1
  | (_, d) => uptoBulk d + 1
 end
def uptoSmall : (H : Type) → List (DataW H) → Bool := fun _ ds => decide (uptoBulkAll ds ≤ 1048576)
def OpenSpec.upto (s : _root_.Go.ChangeSpec) : _root_.Go.OpenSpec := { _root_.Go.OpenSpec.ofChange s with cond := some uptoSmall }

/-- 'bastionlaw04.NfcOrder', WHERE WHAT IT READS IS OF BULK AT MOST 1048576: true; the input reads as it did. -/
def nfcOrderUptoRow : OpenClaim := { program := "ytmjnipifpeehgaadoor", sum := "9f0c57ce9f35e770fa1b9cb879ddde4e2465a2f1b3fcfa51386894c8455718c4", func := "bastion/bastionlaw04.NfcOrder", spec := "nfcOrder", unfollowed := true, recurses := true, named := ["unicode/utf8.first", "unicode/utf8.acceptRanges"], plainKeys := false, apart := false, laid := [("unicode/utf8.acceptRanges", laid_unicode_utf8_acceptRanges), ("unicode/utf8.first", laid_unicode_utf8_first)], narrowed := true }
def NfcOrderUptoSaid : Prop := nfcOrderUptoRow.holds Tryd.pinned (OpenSpec.upto nfcOrderSpec)

/-- 'bastionlaw04.NfcParts', WHERE WHAT IT READS IS OF BULK AT MOST 1048576: true; the input reads as it did. -/
def nfcPartsUptoRow : OpenClaim := { program := "ytmjnipifpeehgaadoor", sum := "9f0c57ce9f35e770fa1b9cb879ddde4e2465a2f1b3fcfa51386894c8455718c4", func := "bastion/bastionlaw04.NfcParts", spec := "nfcParts", unfollowed := true, recurses := true, named := ["unicode/utf8.first", "unicode/utf8.acceptRanges"], plainKeys := false, apart := false, laid := [("unicode/utf8.acceptRanges", laid_unicode_utf8_acceptRanges), ("unicode/utf8.first", laid_unicode_utf8_first)], narrowed := true }
def NfcPartsUptoSaid : Prop := nfcPartsUptoRow.holds Tryd.pinned (OpenSpec.upto nfcPartsSpec)

/-- 'bastionlaw04.NfcFew', WHERE WHAT IT READS IS OF BULK AT MOST 1048576: true; the input reads as it did. -/
def nfcFewUptoRow : OpenClaim := { program := "ytmjnipifpeehgaadoor", sum := "9f0c57ce9f35e770fa1b9cb879ddde4e2465a2f1b3fcfa51386894c8455718c4", func := "bastion/bastionlaw04.NfcFew", spec := "nfcFew", unfollowed := true, recurses := true, named := ["unicode/utf8.first", "unicode/utf8.acceptRanges"], plainKeys := false, apart := false, laid := [("unicode/utf8.acceptRanges", laid_unicode_utf8_acceptRanges), ("unicode/utf8.first", laid_unicode_utf8_first)], narrowed := true }
def NfcFewUptoSaid : Prop := nfcFewUptoRow.holds Tryd.pinned (OpenSpec.upto nfcFewSpec)

/-- 'bastionlaw04.NfcForms', WHERE WHAT IT READS IS OF BULK AT MOST 1048576: true; the input reads as it did. -/
def nfcFormsUptoRow : OpenClaim := { program := "ytmjnipifpeehgaadoor", sum := "9f0c57ce9f35e770fa1b9cb879ddde4e2465a2f1b3fcfa51386894c8455718c4", func := "bastion/bastionlaw04.NfcForms", spec := "nfcForms", unfollowed := true, recurses := true, named := ["unicode/utf8.first", "unicode/utf8.acceptRanges"], plainKeys := false, apart := false, laid := [("unicode/utf8.acceptRanges", laid_unicode_utf8_acceptRanges), ("unicode/utf8.first", laid_unicode_utf8_first)], narrowed := true }
def NfcFormsUptoSaid : Prop := nfcFormsUptoRow.holds Tryd.pinned (OpenSpec.upto nfcFormsSpec)

/-- 'bastionlaw04.NfcHangul', WHERE WHAT IT READS IS OF BULK AT MOST 1048576: true; the input reads as it did. -/
def nfcHangulUptoRow : OpenClaim := { program := "ytmjnipifpeehgaadoor", sum := "9f0c57ce9f35e770fa1b9cb879ddde4e2465a2f1b3fcfa51386894c8455718c4", func := "bastion/bastionlaw04.NfcHangul", spec := "nfcHangul", unfollowed := true, recurses := true, named := ["unicode/utf8.first", "unicode/utf8.acceptRanges"], plainKeys := false, apart := false, laid := [("unicode/utf8.acceptRanges", laid_unicode_utf8_acceptRanges), ("unicode/utf8.first", laid_unicode_utf8_first)], narrowed := true }
def NfcHangulUptoSaid : Prop := nfcHangulUptoRow.holds Tryd.pinned (OpenSpec.upto nfcHangulSpec)

end Rows
end Go.Proofs.YtmjnipifpeehgaaDoor
