/- What the document's functions of layer 2 answer. -/
/- What the functions of layer 2 answer, plain. -/
/- Functions of the given program as plain Lean functions, each with the proof that the machine answers as it does; laid by a program of mine over the kit print. -/
/- Forms opened. -/
import Derived.Test.YtbcbmmlpgdndpaaDoorSUtfE
import Derived.Test.YtbcbmmlpgdndpaaDoorSB5
import Derived.Test.YtbcbmmlpgdndpaaDoorSUDec
import Derived.Test.YtbcbmmlpgdndpaaDoorSUVal
import Derived.Test.YtbcbmmlpgdndpaaDoorSQutf1
import Derived.Test.YtbcbmmlpgdndpaaDoorSQbase
import Derived.Test.YtbcbmmlpgdndpaaDoorSOpen
section
namespace Go.Proofs.YtbcbmmlpgdndpaaDoor.Q
open Go.RowKit Go.Proofs.YtbcbmmlpgdndpaaDoorW.PrintWords Go.Proofs.YtbcbmmlpgdndpaaDoorW.PrintLast Go.Proofs.YtbcbmmlpgdndpaaDoorW.PrintMore Go.Proofs.YtbcbmmlpgdndpaaDoor.P1
set_option linter.unusedSimpArgs false
set_option linter.unusedVariables false
theorem bt_end0 (p r : List UInt8) (c : UInt8) (i : Int) (h : i = (p.length : Int)) : bt (B (p ++ c :: r)) i = (c.toNat : Int) := by subst h; rw [B_bt]; simp
end Go.Proofs.YtbcbmmlpgdndpaaDoor.Q
end
section
namespace Go.Proofs.YtbcbmmlpgdndpaaDoor.Q
open Go.RowKit Go.Proofs.YtbcbmmlpgdndpaaDoorW.PrintWords Go.Proofs.YtbcbmmlpgdndpaaDoorW.PrintLast Go.Proofs.YtbcbmmlpgdndpaaDoorW.PrintMore Go.Proofs.YtbcbmmlpgdndpaaDoor.P1
set_option linter.unusedSimpArgs false
set_option linter.unusedVariables false
theorem may_32 {x : Int} (h : mayR x) : inR32 x := by unfold mayR at h; unfold inR32; omega
theorem utf_Decode_f (l : List UInt8) (h : l.length ≤ 35184372088831) : utf_Decode.f (B l) = some (uDec l) := by
  unfold utf_Decode.f; rw [if_pos (by rw [B_size]; exact h), B_data]
theorem utf_Encode_f (l : List Int) (h : l.length ≤ 17592186044416) (hx : ∀ x ∈ l, inR32 x) : utf_Encode.f l = some (B (encRunes l)) := by
  unfold utf_Encode.f; rw [if_pos ⟨h, hx⟩]; rfl
theorem utf_Valid_f (l : List UInt8) (h : l.length ≤ 9223372036854775807) : utf_Valid.f (B l) = some (encRunes (uDec l) == l) := by
  unfold utf_Valid.f; rw [if_pos (by rw [B_size]; exact h), B_data, valid_iff]
theorem utf_Scalar_f (l : List UInt8) (h : l.length ≤ 17592186044416) : utf_Scalar.f (B l) = some (B (encRunes (uDec l))) := by
  have hd := uDec_length l.length l (Nat.le_refl _)
  unfold utf_Scalar.f
  rw [utf_Valid_f l (by omega)]
  simp only [Option.bind_some]
  by_cases e : encRunes (uDec l) = l
  · rw [if_pos (by rw [e]; simp), e]
  · rw [if_neg (by simpa using e), utf_Decode_f l (by omega)]
    simp only [Option.bind_some]
    rw [utf_Encode_f _ (by omega) (fun x hx => may_32 (uDec_may _ l (Nat.le_refl _) x hx))]
    rfl
end Go.Proofs.YtbcbmmlpgdndpaaDoor.Q
end
section
namespace Go.Proofs.YtbcbmmlpgdndpaaDoor.Q
open Go.RowKit Go.Proofs.YtbcbmmlpgdndpaaDoorW.PrintWords Go.Proofs.YtbcbmmlpgdndpaaDoorW.PrintLast Go.Proofs.YtbcbmmlpgdndpaaDoorW.PrintMore
attribute [local go_sem] max2_int min2_int max_two min_two max_three min_three max_four min_four
set_option linter.unusedVariables false
set_option linter.unusedSimpArgs false
attribute [local go_sem] IntKind.wrap_u8
end Go.Proofs.YtbcbmmlpgdndpaaDoor.Q
end
section
set_option linter.unusedSimpArgs false
set_option linter.unusedVariables false
namespace Go.Proofs.YtbcbmmlpgdndpaaDoor.Q
open Go.RowKit Go.Proofs.YtbcbmmlpgdndpaaDoorW.PrintWords Go.Deep Go.ChangeShapes Go.WideShapes
def mStr (s : ByteArray) : Nat := s.size + 1
def mFld (d : S32) : Nat := mStr d.f0 + mStr d.f1 + 1
def mFlds (l : List S32) : Nat := (l.map mFld).sum + 1
theorem mFld_one (d : S32) : 1 ≤ mFld d := by unfold mFld; omega
theorem mFlds_len (l : List S32) : l.length ≤ mFlds l := by have := sum_len mFld mFld_one l; unfold mFlds; omega
section
variable {H : Type} {enc : TypeId × Value → H} {w : World} {base : Nat} {spare : Nat → Bool} {held : Bool}
theorem opens_fld : Opens enc Tryd.prog w base spare held k32 32 mFld :=
  opens_iso (fun x : S32 => (x.f0, x.f1)) (fun p => ⟨p.1, p.2⟩) (fun _ => rfl) (opens_pair Tryd.underlying32 rfl (by kernel_rfl) (by kernel_rfl) (opens_string Tryd.underlying9) (opens_string Tryd.underlying9))
theorem opens_flds : Opens enc Tryd.prog w base spare held (Kd.slice 32 k32) 22 mFlds := opens_slice Tryd.underlying22 (by kernel_rfl) opens_fld
end
end Go.Proofs.YtbcbmmlpgdndpaaDoor.Q
end
