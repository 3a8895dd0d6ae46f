/-
  No cell of these rows narrows 'for every input' (looked for: loops, veiled, ifaces, maps, wideKeys, modest, calm, conditions, laid).
  DERIVED. THE GIVEN ROWS OF THIS SEAT. 8 by the template 'for every input the law returns true; each argument reads behind the call as it read before'; 0 by the template 'total and deterministic' (their statements: YtiobcjgolmiabaaTotals.lean).
  GIVEN WITH THE SEED: the statements are not yours to turn. If you find one false, say at which input.
  Laid BY PROGRAM, IN A SANDBOX (cutbox-rows.mjs): the forced cells as the released guide's own fill.sh prints them over the translation 5855d71da371fef2… (all of the seat's roots in one cut). By AI agents, Wed Nov 11 2026. No macro, syntax, notation, axiom, sorry.
-/
import Derived.Test.YtiobcjgolmiabaaChecked
import GoSem.Claim
import GoSem.ClaimJoined
import GoSem.ClaimMapViews
import Derived.JoinedTies
import Derived.KernelRfl
namespace Go.Proofs.Ytiobcjgolmiabaa
/- THE CELL 'sum', in the pinned program and in every row, IS THE sha256 OF THE DUMP (.gsa) THAT YtiobcjgolmiabaaProg.lean LOADS. Nothing in Lean hashes anything: it is a label: what it is worth is what the hold of that sum in a sandbox is worth. -/
noncomputable def Try.pinned : Pinned := { name := "ytiobcjgolmiabaa", sum := "5855d71da371fef2c64b6979c68f65a5e80b8c1879de7c7dfddd032ae89b2065", checked := Try.checked }
namespace Rows
def none {H : Type} : Left H := { results := [], args := [] }

/-- 'bastionlaw01.PctSets': WHATEVER THE INPUT: true; the input reads as it did. -/
def pctSetsSpec : ChangeSpec := { name := "pctSets", fn := fun _ => fun
  | [d1, d2, d3] => { results := [.lit (.bool true)], args := [d1, d2, d3] }
  | _ => none }
def pctSetsRow : OpenClaim := { program := "ytiobcjgolmiabaa", sum := "5855d71da371fef2c64b6979c68f65a5e80b8c1879de7c7dfddd032ae89b2065", func := "bastion/bastionlaw01.PctSets", spec := "pctSets", inPlace := ["internal/abi.NoEscape"], recurses := true, apart := false }
def PctSetsSaid : Prop := pctSetsRow.holds Try.pinned (OpenSpec.ofChange pctSetsSpec)

/-- ITS FALSE NEIGHBOUR: 'it returns false'. Refute it at one input. -/
def pctSetsWrong : ChangeSpec := { name := "pctSets", fn := fun _ => fun
  | [d1, d2, d3] => { results := [.lit (.bool false)], args := [d1, d2, d3] }
  | _ => none }
def PctSetsWrongFalsely : Prop := pctSetsRow.holds Try.pinned (OpenSpec.ofChange pctSetsWrong)

/-- 'bastionlaw01.PctReads': WHATEVER THE INPUT: true; the input reads as it did. -/
def pctReadsSpec : ChangeSpec := { name := "pctReads", fn := fun _ => fun
  | [d1, d2] => { results := [.lit (.bool true)], args := [d1, d2] }
  | _ => none }
def pctReadsRow : OpenClaim := { program := "ytiobcjgolmiabaa", sum := "5855d71da371fef2c64b6979c68f65a5e80b8c1879de7c7dfddd032ae89b2065", func := "bastion/bastionlaw01.PctReads", spec := "pctReads", inPlace := ["internal/abi.NoEscape"], apart := false }
def PctReadsSaid : Prop := pctReadsRow.holds Try.pinned (OpenSpec.ofChange pctReadsSpec)

/-- ITS FALSE NEIGHBOUR: 'it returns false'. Refute it at one input. -/
def pctReadsWrong : ChangeSpec := { name := "pctReads", fn := fun _ => fun
  | [d1, d2] => { results := [.lit (.bool false)], args := [d1, d2] }
  | _ => none }
def PctReadsWrongFalsely : Prop := pctReadsRow.holds Try.pinned (OpenSpec.ofChange pctReadsWrong)

/-- 'bastionlaw01.PctBack': WHATEVER THE INPUT: true; the input reads as it did. -/
def pctBackSpec : ChangeSpec := { name := "pctBack", fn := fun _ => fun
  | [d1, d2] => { results := [.lit (.bool true)], args := [d1, d2] }
  | _ => none }
def pctBackRow : OpenClaim := { program := "ytiobcjgolmiabaa", sum := "5855d71da371fef2c64b6979c68f65a5e80b8c1879de7c7dfddd032ae89b2065", func := "bastion/bastionlaw01.PctBack", spec := "pctBack", inPlace := ["internal/abi.NoEscape"], apart := false }
def PctBackSaid : Prop := pctBackRow.holds Try.pinned (OpenSpec.ofChange pctBackSpec)

/-- ITS FALSE NEIGHBOUR: 'it returns false'. Refute it at one input. -/
def pctBackWrong : ChangeSpec := { name := "pctBack", fn := fun _ => fun
  | [d1, d2] => { results := [.lit (.bool false)], args := [d1, d2] }
  | _ => none }
def PctBackWrongFalsely : Prop := pctBackRow.holds Try.pinned (OpenSpec.ofChange pctBackWrong)

/-- 'bastionlaw01.PctWider': WHATEVER THE INPUT: true; the input reads as it did. -/
def pctWiderSpec : ChangeSpec := { name := "pctWider", fn := fun _ => fun
  | [d] => { results := [.lit (.bool true)], args := [d] }
  | _ => none }
def pctWiderRow : OpenClaim := { program := "ytiobcjgolmiabaa", sum := "5855d71da371fef2c64b6979c68f65a5e80b8c1879de7c7dfddd032ae89b2065", func := "bastion/bastionlaw01.PctWider", spec := "pctWider", inPlace := ["internal/abi.NoEscape"], apart := false }
def PctWiderSaid : Prop := pctWiderRow.holds Try.pinned (OpenSpec.ofChange pctWiderSpec)

/-- ITS FALSE NEIGHBOUR: 'it returns false'. Refute it at one input. -/
def pctWiderWrong : ChangeSpec := { name := "pctWider", fn := fun _ => fun
  | [d] => { results := [.lit (.bool false)], args := [d] }
  | _ => none }
def PctWiderWrongFalsely : Prop := pctWiderRow.holds Try.pinned (OpenSpec.ofChange pctWiderWrong)

/-- 'bastionlaw01.PctCase': WHATEVER THE INPUT: true; the input reads as it did. -/
def pctCaseSpec : ChangeSpec := { name := "pctCase", fn := fun _ => fun
  | [d1, d2] => { results := [.lit (.bool true)], args := [d1, d2] }
  | _ => none }
def pctCaseRow : OpenClaim := { program := "ytiobcjgolmiabaa", sum := "5855d71da371fef2c64b6979c68f65a5e80b8c1879de7c7dfddd032ae89b2065", func := "bastion/bastionlaw01.PctCase", spec := "pctCase", inPlace := ["internal/abi.NoEscape"], apart := false }
def PctCaseSaid : Prop := pctCaseRow.holds Try.pinned (OpenSpec.ofChange pctCaseSpec)

/-- ITS FALSE NEIGHBOUR: 'it returns false'. Refute it at one input. -/
def pctCaseWrong : ChangeSpec := { name := "pctCase", fn := fun _ => fun
  | [d1, d2] => { results := [.lit (.bool false)], args := [d1, d2] }
  | _ => none }
def PctCaseWrongFalsely : Prop := pctCaseRow.holds Try.pinned (OpenSpec.ofChange pctCaseWrong)

/-- 'bastionlaw01.PctJoins': WHATEVER THE INPUT: true; the input reads as it did. -/
def pctJoinsSpec : ChangeSpec := { name := "pctJoins", fn := fun _ => fun
  | [d1, d2, d3] => { results := [.lit (.bool true)], args := [d1, d2, d3] }
  | _ => none }
def pctJoinsRow : OpenClaim := { program := "ytiobcjgolmiabaa", sum := "5855d71da371fef2c64b6979c68f65a5e80b8c1879de7c7dfddd032ae89b2065", func := "bastion/bastionlaw01.PctJoins", spec := "pctJoins", inPlace := ["internal/abi.NoEscape"], apart := false }
def PctJoinsSaid : Prop := pctJoinsRow.holds Try.pinned (OpenSpec.ofChange pctJoinsSpec)

/-- ITS FALSE NEIGHBOUR: 'it returns false'. Refute it at one input. -/
def pctJoinsWrong : ChangeSpec := { name := "pctJoins", fn := fun _ => fun
  | [d1, d2, d3] => { results := [.lit (.bool false)], args := [d1, d2, d3] }
  | _ => none }
def PctJoinsWrongFalsely : Prop := pctJoinsRow.holds Try.pinned (OpenSpec.ofChange pctJoinsWrong)

/-- 'bastionlaw01.PctPlain': WHATEVER THE INPUT: true; the input reads as it did. -/
def pctPlainSpec : ChangeSpec := { name := "pctPlain", fn := fun _ => fun
  | [d] => { results := [.lit (.bool true)], args := [d] }
  | _ => none }
def pctPlainRow : OpenClaim := { program := "ytiobcjgolmiabaa", sum := "5855d71da371fef2c64b6979c68f65a5e80b8c1879de7c7dfddd032ae89b2065", func := "bastion/bastionlaw01.PctPlain", spec := "pctPlain", inPlace := ["internal/abi.NoEscape"], apart := false }
def PctPlainSaid : Prop := pctPlainRow.holds Try.pinned (OpenSpec.ofChange pctPlainSpec)

/-- ITS FALSE NEIGHBOUR: 'it returns false'. Refute it at one input. -/
def pctPlainWrong : ChangeSpec := { name := "pctPlain", fn := fun _ => fun
  | [d] => { results := [.lit (.bool false)], args := [d] }
  | _ => none }
def PctPlainWrongFalsely : Prop := pctPlainRow.holds Try.pinned (OpenSpec.ofChange pctPlainWrong)

/-- 'bastionlaw01.PctHex': WHATEVER THE INPUT: true; the input reads as it did. -/
def pctHexSpec : ChangeSpec := { name := "pctHex", fn := fun _ => fun
  | [d1, d2] => { results := [.lit (.bool true)], args := [d1, d2] }
  | _ => none }
def pctHexRow : OpenClaim := { program := "ytiobcjgolmiabaa", sum := "5855d71da371fef2c64b6979c68f65a5e80b8c1879de7c7dfddd032ae89b2065", func := "bastion/bastionlaw01.PctHex", spec := "pctHex", inPlace := ["internal/abi.NoEscape"], apart := false }
def PctHexSaid : Prop := pctHexRow.holds Try.pinned (OpenSpec.ofChange pctHexSpec)

/-- ITS FALSE NEIGHBOUR: 'it returns false'. Refute it at one input. -/
def pctHexWrong : ChangeSpec := { name := "pctHex", fn := fun _ => fun
  | [d1, d2] => { results := [.lit (.bool false)], args := [d1, d2] }
  | _ => none }
def PctHexWrongFalsely : Prop := pctHexRow.holds Try.pinned (OpenSpec.ofChange pctHexWrong)

/- THE SECOND FORM. 'bulk': how many values and letters a reading holds, each counted each time it is reached (what is shared counts as often as it is met; a slice's spare places count too). A statement '..UptoSaid' is the law's where the arguments, and the package variables that the reading takes, are together of bulk at most 1048576: NARROWER than '..Said'. Prove '..Said' where nothing that the law and all that it calls make is longer than what came in: it says more and counts as full. Else prove '..UptoSaid'. A law counts once. -/
mutual
def uptoBulk {H : Type} : DataW H → Nat
  | .lit (.string bytes) => bytes.length + 1
  | .lit _ => 1
  | .nil => 1
  | .ptr d => uptoBulk d + 1
  | .slice elems spare => uptoBulkAll elems + uptoBulkAll spare + 1
  | .agg parts => uptoBulkAll parts + 1
  | .iface _ d => uptoBulk d + 1
  | .map entries => uptoBulkEntries entries + 1
  | .held _ => 1
def uptoBulkAll {H : Type} : List (DataW H) → Nat
  | [] => 0
  | d :: r => uptoBulk d + uptoBulkAll r
def uptoBulkEntries {H : Type} : List (Lit × DataW H) → Nat
  | [] => 0
  | x :: r => uptoBulkEntry x + uptoBulkEntries r
def uptoBulkEntry {H : Type} : Lit × DataW H → Nat
  | (.string bytes, d) => bytes.length + uptoBulk d + 1
  | (_, d) => uptoBulk d + 1
 end
def uptoSmall : (H : Type) → List (DataW H) → Bool := fun _ ds => decide (uptoBulkAll ds ≤ 1048576)
def OpenSpec.upto (s : _root_.Go.ChangeSpec) : _root_.Go.OpenSpec := { _root_.Go.OpenSpec.ofChange s with cond := some uptoSmall }

/-- 'bastionlaw01.PctSets', WHERE WHAT IT READS IS OF BULK AT MOST 1048576: true; the input reads as it did. -/
def pctSetsUptoRow : OpenClaim := { program := "ytiobcjgolmiabaa", sum := "5855d71da371fef2c64b6979c68f65a5e80b8c1879de7c7dfddd032ae89b2065", func := "bastion/bastionlaw01.PctSets", spec := "pctSets", inPlace := ["internal/abi.NoEscape"], recurses := true, apart := false, narrowed := true }
def PctSetsUptoSaid : Prop := pctSetsUptoRow.holds Try.pinned (OpenSpec.upto pctSetsSpec)

/-- 'bastionlaw01.PctReads', WHERE WHAT IT READS IS OF BULK AT MOST 1048576: true; the input reads as it did. -/
def pctReadsUptoRow : OpenClaim := { program := "ytiobcjgolmiabaa", sum := "5855d71da371fef2c64b6979c68f65a5e80b8c1879de7c7dfddd032ae89b2065", func := "bastion/bastionlaw01.PctReads", spec := "pctReads", inPlace := ["internal/abi.NoEscape"], apart := false, narrowed := true }
def PctReadsUptoSaid : Prop := pctReadsUptoRow.holds Try.pinned (OpenSpec.upto pctReadsSpec)

/-- 'bastionlaw01.PctBack', WHERE WHAT IT READS IS OF BULK AT MOST 1048576: true; the input reads as it did. -/
def pctBackUptoRow : OpenClaim := { program := "ytiobcjgolmiabaa", sum := "5855d71da371fef2c64b6979c68f65a5e80b8c1879de7c7dfddd032ae89b2065", func := "bastion/bastionlaw01.PctBack", spec := "pctBack", inPlace := ["internal/abi.NoEscape"], apart := false, narrowed := true }
def PctBackUptoSaid : Prop := pctBackUptoRow.holds Try.pinned (OpenSpec.upto pctBackSpec)

/-- 'bastionlaw01.PctWider', WHERE WHAT IT READS IS OF BULK AT MOST 1048576: true; the input reads as it did. -/
def pctWiderUptoRow : OpenClaim := { program := "ytiobcjgolmiabaa", sum := "5855d71da371fef2c64b6979c68f65a5e80b8c1879de7c7dfddd032ae89b2065", func := "bastion/bastionlaw01.PctWider", spec := "pctWider", inPlace := ["internal/abi.NoEscape"], apart := false, narrowed := true }
def PctWiderUptoSaid : Prop := pctWiderUptoRow.holds Try.pinned (OpenSpec.upto pctWiderSpec)

/-- 'bastionlaw01.PctCase', WHERE WHAT IT READS IS OF BULK AT MOST 1048576: true; the input reads as it did. -/
def pctCaseUptoRow : OpenClaim := { program := "ytiobcjgolmiabaa", sum := "5855d71da371fef2c64b6979c68f65a5e80b8c1879de7c7dfddd032ae89b2065", func := "bastion/bastionlaw01.PctCase", spec := "pctCase", inPlace := ["internal/abi.NoEscape"], apart := false, narrowed := true }
def PctCaseUptoSaid : Prop := pctCaseUptoRow.holds Try.pinned (OpenSpec.upto pctCaseSpec)

/-- 'bastionlaw01.PctJoins', WHERE WHAT IT READS IS OF BULK AT MOST 1048576: true; the input reads as it did. -/
def pctJoinsUptoRow : OpenClaim := { program := "ytiobcjgolmiabaa", sum := "5855d71da371fef2c64b6979c68f65a5e80b8c1879de7c7dfddd032ae89b2065", func := "bastion/bastionlaw01.PctJoins", spec := "pctJoins", inPlace := ["internal/abi.NoEscape"], apart := false, narrowed := true }
def PctJoinsUptoSaid : Prop := pctJoinsUptoRow.holds Try.pinned (OpenSpec.upto pctJoinsSpec)

/-- 'bastionlaw01.PctPlain', WHERE WHAT IT READS IS OF BULK AT MOST 1048576: true; the input reads as it did. -/
def pctPlainUptoRow : OpenClaim := { program := "ytiobcjgolmiabaa", sum := "5855d71da371fef2c64b6979c68f65a5e80b8c1879de7c7dfddd032ae89b2065", func := "bastion/bastionlaw01.PctPlain", spec := "pctPlain", inPlace := ["internal/abi.NoEscape"], apart := false, narrowed := true }
def PctPlainUptoSaid : Prop := pctPlainUptoRow.holds Try.pinned (OpenSpec.upto pctPlainSpec)

/-- 'bastionlaw01.PctHex', WHERE WHAT IT READS IS OF BULK AT MOST 1048576: true; the input reads as it did. -/
def pctHexUptoRow : OpenClaim := { program := "ytiobcjgolmiabaa", sum := "5855d71da371fef2c64b6979c68f65a5e80b8c1879de7c7dfddd032ae89b2065", func := "bastion/bastionlaw01.PctHex", spec := "pctHex", inPlace := ["internal/abi.NoEscape"], apart := false, narrowed := true }
def PctHexUptoSaid : Prop := pctHexUptoRow.holds Try.pinned (OpenSpec.upto pctHexSpec)

end Rows
end Go.Proofs.Ytiobcjgolmiabaa
