/- The plain laws of layer 2. -/
import Derived.Test.YtiobcjgolmiabaaDoorUtfRef
import Derived.Test.YtiobcjgolmiabaaDoorUDec
import Derived.Test.YtiobcjgolmiabaaDoorUVal
import Derived.Test.YtiobcjgolmiabaaDoorQbastionlaw021
import Derived.Test.YtiobcjgolmiabaaDoorQutf1
namespace Go.Proofs.YtiobcjgolmiabaaDoor.Q
open Go.RowKit Go.Proofs.YtiobcjgolmiabaaDoorW.PrintWords Go.Proofs.YtiobcjgolmiabaaDoorW.PrintLast Go.Proofs.YtiobcjgolmiabaaDoorW.PrintMore Go.Proofs.YtiobcjgolmiabaaDoor.P1
set_option linter.unusedSimpArgs false
set_option linter.unusedVariables false
theorem lives_now : bastionlaw02_lives.f 100 = some true := by decide +kernel
theorem lives_ev : Ev (fun k => bastionlaw02_lives.f k) true := Ev.of (fun k => bastionlaw02_lives.mono k) lives_now
theorem may_32 {x : Int} (h : mayR x) : inR32 x := by unfold mayR at h; unfold inR32; omega
theorem wf_32 {x : Int} (h : (Lit.int .i32 x).wf = true) : inR32 x := by simpa [Lit.wf, IntKind.min, IntKind.max, IntKind.signed, IntKind.bits, inR32] using h
theorem utf_Decode_f (l : List UInt8) (h : l.length ≤ 35184372088831) : utf_Decode.f (B l) = some (uDec l) := by
  unfold utf_Decode.f; rw [if_pos (by rw [B_size]; exact h), B_data]
theorem utf_Encode_f (l : List Int) (h : l.length ≤ 17592186044416) (hx : ∀ x ∈ l, inR32 x) : utf_Encode.f l = some (B (encRunes l)) := by
  unfold utf_Encode.f; rw [if_pos ⟨h, hx⟩]; rfl
theorem utf_Valid_f (l : List UInt8) (h : l.length ≤ 9223372036854775807) : utf_Valid.f (B l) = some (encRunes (uDec l) == l) := by
  unfold utf_Valid.f; rw [if_pos (by rw [B_size]; exact h), B_data, valid_iff]
theorem utf_Width_f (r : Int) (h : inR32 r) : utf_Width.f r = some ((Lib.encodeRune r).length : Int) := by
  unfold utf_Width.f; rw [if_pos h]
theorem utf_Scalar_f (l : List UInt8) (h : l.length ≤ 17592186044416) : utf_Scalar.f (B l) = some (B (encRunes (uDec l))) := by
  have hd := uDec_length l.length l (Nat.le_refl _)
  unfold utf_Scalar.f
  rw [utf_Valid_f l (by omega)]
  simp only [Option.bind_some]
  by_cases e : encRunes (uDec l) = l
  · rw [if_pos (by rw [e]; simp), e]
  · rw [if_neg (by simpa using e), utf_Decode_f l (by omega)]
    simp only [Option.bind_some]
    rw [utf_Encode_f _ (by omega) (fun x hx => may_32 (uDec_may _ l (Nat.le_refl _) x hx))]
    rfl
theorem ref_Scalar_ev (l : List UInt8) (h : l.length ≤ 17592186044416) : Ev (fun k => bastionref02_Scalar.f k (B l)) (B (encRunes (uDec l))) := by
  have hd := uDec_length l.length l (Nat.le_refl _)
  unfold bastionref02_Scalar.f
  exact (ref_Decode_ev l (by omega)).bind ((ref_Encode_ev _ (by omega)).bind (Ev.now _))
theorem ref_Valid_ev (l : List UInt8) (h : l.length ≤ 17592186044416) : Ev (fun k => bastionref02_Valid.f k (B l)) (encRunes (uDec l) == l) := by
  unfold bastionref02_Valid.f
  refine (ref_Scalar_ev l h).bind ?_
  rw [B_toList, B_toList]
  exact Ev.now _
theorem ref_Width_ev (r : Int) : Ev (fun k => bastionref02_Width.f k r) ((Lib.encodeRune r).length : Int) := Ev.mk 2 fun k hk => by
  unfold bastionref02_Width.f
  rw [ref_bytes_f r k hk]
  simp only [Option.bind_some, ns_length]
end Go.Proofs.YtiobcjgolmiabaaDoor.Q
